/-
  Walks of the statements' own functions that compare numbers.
-/
import Derived.Test.YtmbjomjpnfnbkaaD4
import Derived.Laws.ComplexArith
set_option linter.unusedSimpArgs false
set_option linter.unusedVariables false
namespace Go.Proofs.Ytmbjomjpnfnbkaa
open Go.RowKit Flt

theorem order_self {x : Nat} (h : fin D x = true) : FloatKind.f64.format.order x x = some .eq := by
  show D.order x x = _
  rw [order_fin D h h, if_neg (by grind), if_pos rfl]
theorem fin0D : fin D 0 = true := by decide +kernel
theorem val0D : val D 0 = 0 := by decide +kernel
theorem order_zero {a : Nat} (h : fin S a = true) : FloatKind.f64.format.order (cv a) 0 = FloatKind.f32.format.order a 0 := by
  show D.order (cv a) 0 = S.order a 0
  rw [order_fin D (cv_fin h).1 fin0D, order_fin S h fin0, (cv_fin h).2, val0D, val0]
theorem cv0 : cv 0 = 0 := by decide +kernel

theorem sameFloat_c (a : Nat) (w : World) (h : fin S a = true) (hz : zn a = a) :
    Calls Try.prog 26 #[.float .f64 (cv a), .float .f64 (cv a)] w fun e w' => e = .returned (.bool true) ∧ w = w' := by
  have h1 := order_self (cv_fin h).1
  cases hi : isZ a with
  | true =>
    have h0 : a = 0 := by rw [← hz]; exact if_pos hi
    subst h0
    rw [cv0] at *
    clear hi hz h
    have k0 := fun (t : TypeId) (w : World) => run_float_arith (P := Try.prog) w .quo t .f64 4607182418800017408 0 0x7ff0000000000000 (by decide +kernel)
    have h2 : FloatKind.f64.format.order 0x7ff0000000000000 0 = some .gt := by decide +kernel
    go_enter Try.func26, Try.ntmps26
    go_wp2
    go_ret; exact ⟨rfl, rfl⟩
  | false =>
    have h2 : (FloatKind.f64.format.order (cv a) 0 == some .eq) = false := by rw [order_zero h]; exact hi
    generalize cv a = x at *
    clear hi hz h
    go_enter Try.func26, Try.ntmps26
    go_wp2
    go_ret; exact ⟨rfl, rfl⟩

theorem sameComplex_c (a b : Nat) (w : World) (h : fin S a = true) (hz : zn a = a) (h' : fin S b = true) (hz' : zn b = b) :
    Calls Try.prog 94 #[.complex .f64 (cv a) (cv b), .complex .f64 (cv a) (cv b)] w fun e w' => e = .returned (.bool true) ∧ w = w' := by
  go_enter Try.func94, Try.ntmps94
  go_wp2_with fail
  refine (sameFloat_c a _ h hz).mono ?_; rintro e w' ⟨rfl, rfl⟩
  go_wp2_with fail
  refine (sameFloat_c b _ h' hz').mono ?_; rintro e w' ⟨rfl, rfl⟩
  go_wp2
  go_ret; exact ⟨rfl, rfl⟩

/-- A number whose zero has no sign. -/
def Nm (a : Nat) : Prop := fin S a = true ∧ zn a = a
theorem cx_conv {a b : Nat} (h : fin S a = true) (h' : fin S b = true) : cConvBits .f32 a b .f64 = some (cv a, cv b) := by
  unfold cConvBits
  rw [conv32 (nn_of_fin h), conv32 (nn_of_fin h')]; rfl

set_option maxHeartbeats 1000000 in
theorem eqA2_c (p q r s : Nat) (w : World) (hp : Nm p) (hq : Nm q) (hr : Nm r) (hs : Nm s) :
    Calls Try.prog 70 #[Sp p q r s, Sp p q r s] w fun e w' => e = .returned (.bool true) ∧ New w w' := by
  have c1 := fun w => run_convert_complex (P := Try.prog) w 22 111 .f32 .f64 p q _ _ (by rw [Try.underlying22]; rfl) Try.underlying111 (cx_conv hp.1 hq.1)
  have c2 := fun w => run_convert_complex (P := Try.prog) w 22 111 .f32 .f64 r s _ _ (by rw [Try.underlying22]; rfl) Try.underlying111 (cx_conv hr.1 hs.1)
  go_enter Try.func70, Try.ntmps70
  go_wp2_with fail
  refine wp_loop_rounds 3 ?_; rw [rounds_succ]
  go_wp2_with fail
  go_region_held3 (fun w' => w'.cell? ⟨w.heap.size, 0, none⟩ = some (.complex .f32 p q) ∧ w'.cell? ⟨w.heap.size + 1, 0, none⟩ = some (.complex .f32 p q)) (((repeat' apply And.intro) <;> (first | (with_reducible assumption) | (go_simp; done))))
    (first | (go_at_call 94; refine (sameComplex_c _ _ _ hp.1 hp.2 hq.1 hq.2).mono ?_; rintro e w' ⟨rfl, rfl⟩))
  rename_i hh; clear hh
  go_wp2_with fail
  rw [rounds_succ]
  go_wp2_with fail
  go_region_held3 (fun w' => w'.cell? ⟨w.heap.size, 1, none⟩ = some (.complex .f32 r s) ∧ w'.cell? ⟨w.heap.size + 1, 1, none⟩ = some (.complex .f32 r s)) (((repeat' apply And.intro) <;> (first | (with_reducible assumption) | (go_simp; done))))
    (first | (go_at_call 94; refine (sameComplex_c _ _ _ hr.1 hr.2 hs.1 hs.2).mono ?_; rintro e w' ⟨rfl, rfl⟩))
  rename_i hh; clear hh
  go_wp2_with fail
  rw [rounds_succ]
  go_wp2
  go_ret
  refine ⟨rfl, ?_⟩
  exact ((((New.refl w).alloc _).alloc _).drew).drew

structure Nm8 (a0 a1 b0 b1 c0 c1 d0 d1 : Nat) : Prop where
  a0 : Nm a0
  a1 : Nm a1
  b0 : Nm b0
  b1 : Nm b1
  c0 : Nm c0
  c1 : Nm c1
  d0 : Nm d0
  d1 : Nm d1
set_option maxHeartbeats 1000000 in
theorem eqTurn_c (a0 a1 b0 b1 c0 c1 d0 d1 : Nat) (w : World) (h : Nm8 a0 a1 b0 b1 c0 c1 d0 d1) :
    Calls Try.prog 22 #[T4 a0 a1 b0 b1 c0 c1 d0 d1, T4 a0 a1 b0 b1 c0 c1 d0 d1] w fun e w' => e = .returned (.bool true) ∧ New w w' := by
  go_enter Try.func22, Try.ntmps22
  go_wp2_with fail
  refine wp_loop_rounds 3 ?_; rw [rounds_succ]
  go_wp2_with fail
  go_region_held3 (fun w' => w'.cell? ⟨w.heap.size, 0, none⟩ = some (.complex .f32 a0 a1) ∧ w'.cell? ⟨w.heap.size, 1, none⟩ = some (.complex .f32 b0 b1) ∧ w'.cell? ⟨w.heap.size, 2, none⟩ = some (.complex .f32 c0 c1) ∧ w'.cell? ⟨w.heap.size, 3, none⟩ = some (.complex .f32 d0 d1) ∧ w'.cell? ⟨w.heap.size + 1, 0, none⟩ = some (.complex .f32 a0 a1) ∧ w'.cell? ⟨w.heap.size + 1, 1, none⟩ = some (.complex .f32 b0 b1) ∧ w'.cell? ⟨w.heap.size + 1, 2, none⟩ = some (.complex .f32 c0 c1) ∧ w'.cell? ⟨w.heap.size + 1, 3, none⟩ = some (.complex .f32 d0 d1)) (((repeat' apply And.intro) <;> (first | (with_reducible assumption) | (go_simp; done))))
    (first | (go_at_call 70; refine (eqA2_c _ _ _ _ _ h.a0 h.a1 h.b0 h.b1).mono ?_; rintro e w1 ⟨rfl, hN⟩; have e0 := hN.cell_at (k := w.heap.size) (o := 0) (v := .complex .f32 a0 a1) (by go_simp); have e1 := hN.cell_at (k := w.heap.size) (o := 1) (v := .complex .f32 b0 b1) (by go_simp); have e2 := hN.cell_at (k := w.heap.size) (o := 2) (v := .complex .f32 c0 c1) (by go_simp); have e3 := hN.cell_at (k := w.heap.size) (o := 3) (v := .complex .f32 d0 d1) (by go_simp); have e4 := hN.cell_at (k := w.heap.size + 1) (o := 0) (v := .complex .f32 a0 a1) (by go_simp); have e5 := hN.cell_at (k := w.heap.size + 1) (o := 1) (v := .complex .f32 b0 b1) (by go_simp); have e6 := hN.cell_at (k := w.heap.size + 1) (o := 2) (v := .complex .f32 c0 c1) (by go_simp); have e7 := hN.cell_at (k := w.heap.size + 1) (o := 3) (v := .complex .f32 d0 d1) (by go_simp)))
  rename_i hh; go_split_ands
  go_wp2_with fail
  rw [rounds_succ]
  go_wp2_with fail
  go_region_held3 (fun w' => w'.cell? ⟨w.heap.size, 2, none⟩ = some (.complex .f32 c0 c1) ∧ w'.cell? ⟨w.heap.size, 3, none⟩ = some (.complex .f32 d0 d1) ∧ w'.cell? ⟨w.heap.size + 1, 2, none⟩ = some (.complex .f32 c0 c1) ∧ w'.cell? ⟨w.heap.size + 1, 3, none⟩ = some (.complex .f32 d0 d1)) (((repeat' apply And.intro) <;> (first | (with_reducible assumption) | (go_simp; done))))
    (first | (go_at_call 70; refine (eqA2_c _ _ _ _ _ h.c0 h.c1 h.d0 h.d1).mono ?_; rintro e w1 ⟨rfl, hN⟩; have e0 := hN.cell_at (k := w.heap.size) (o := 2) (v := .complex .f32 c0 c1) (by go_simp); have e1 := hN.cell_at (k := w.heap.size) (o := 3) (v := .complex .f32 d0 d1) (by go_simp); have e2 := hN.cell_at (k := w.heap.size + 1) (o := 2) (v := .complex .f32 c0 c1) (by go_simp); have e3 := hN.cell_at (k := w.heap.size + 1) (o := 3) (v := .complex .f32 d0 d1) (by go_simp)))
  rename_i hh; go_split_ands
  go_wp2_with fail
  rw [rounds_succ]
  go_wp2
  go_ret
  refine ⟨rfl, ?_⟩
  refine New.trans ?_ (by with_reducible assumption)
  refine New.drew ?_
  refine New.trans ?_ (by with_reducible assumption)
  exact (((New.refl w).alloc _).alloc _).drew

theorem toVector_c (x y z : Nat) (w : World) :
    Calls Try.prog 20 #[V3 x y z] w fun e w' => e = .returned (V3 x y z) ∧ New w w' := by
  go_enter Try.func20, Try.ntmps20
  go_wp2
  refine wp_loop_rounds 4 ?_; rw [rounds_succ]
  go_wp2_with fail
  rw [rounds_succ]
  go_wp2_with fail
  rw [rounds_succ]
  go_wp2_with fail
  rw [rounds_succ]
  go_wp2_with fail
  go_returns
  exact ⟨rfl, (((New.refl w).alloc _).alloc _).alloc _⟩
end Go.Proofs.Ytmbjomjpnfnbkaa
