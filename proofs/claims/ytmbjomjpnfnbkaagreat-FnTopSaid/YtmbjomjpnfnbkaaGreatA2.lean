/-
  Walks of sums, differences, products and quotients of two numbers, and of complex numbers, where no number is too great: the results and the code.
-/
import Derived.Test.YtmbjomjpnfnbkaaGreatA1
set_option linter.unusedSimpArgs false
set_option linter.unusedVariables false
namespace Go.Proofs.YtmbjomjpnfnbkaaGreat
open Go.RowKit Flt

theorem add_c (b : Nat) (c : Int) (x y : Nat) (w : World) (hx : fin S x = true) (hy : fin S y = true) (hA : At b c w) :
    Calls Tryz.prog 103 #[.pointer (some ⟨b, 0, none⟩), .float .f32 x, .float .f32 y] w fun e w' => e = .returned (.float .f32 (addM x y c).2) ∧ w' = w.setCell ⟨b, 0, none⟩ (.int .i64 (addM x y c).1) := by
  have h1 := fun (t : TypeId) (w : World) => run_float_arith (P := Tryz.prog) w .add t .f32 x y (adds x y) (adds_eq hx hy).1
  have h2 := nn_rnd (adds_eq hx hy).2
  go_enter Tryz.func103, Tryz.ntmps103
  go_wp2_with (go_at_call 53; refine (round_c b c _ _ h2 hA).mono ?_; rintro e w' ⟨rfl, rfl⟩)
  go_ret; exact ⟨rfl, rfl⟩

theorem div_c (b : Nat) (c : Int) (x y : Nat) (w : World) (hx : fin S x = true) (hy : fin S y = true) (hA : At b c w) :
    Calls Tryz.prog 108 #[.pointer (some ⟨b, 0, none⟩), .float .f32 x, .float .f32 y] w fun e w' => e = .returned (.float .f32 (divM x y c).2) ∧ w' = w.setCell ⟨b, 0, none⟩ (.int .i64 (divM x y c).1) := by
  cases h0 : isZ y with
  | true =>
    have hr := hid (divM_zero x c h0)
    have hs := hid hA.self
    have h0' : (FloatKind.f32.format.order y 0 == some .eq) = true := h0
    clear h0
    go_enter Tryz.func108, Tryz.ntmps108
    go_wp2
    go_ret; exact ⟨ret_f (by rw [hr.out]), by rw [hr.out, hs.out]⟩
  | false =>
    have hr := hid (divM_other x c h0)
    have hv : val S y ≠ 0 := fun hz => by rw [(isZ_iff hy).2 hz] at h0; cases h0
    have h0' : (FloatKind.f32.format.order y 0 == some .eq) = false := h0
    have h1 := fun (t : TypeId) (w : World) => run_float_arith (P := Tryz.prog) w .quo t .f32 x y (divs x y) (divs_eq hx hy hv).1
    have h2 := nn_rnd (divs_eq hx hy hv).2
    clear h0 hv
    go_enter Tryz.func108, Tryz.ntmps108
    go_wp2_with (go_at_call 53; refine (round_c b c _ _ h2 hA).mono ?_; rintro e w' ⟨rfl, rfl⟩)
    go_ret; exact ⟨ret_f (by rw [hr.out]), by rw [hr.out]⟩

theorem z_c (b : Nat) (c : Int) (x y : Nat) (w : World) (hx : fin S x = true) (hy : fin S y = true) (hA : At b c w) :
    Calls Tryz.prog 28 #[.pointer (some ⟨b, 0, none⟩), .float .f32 x, .float .f32 y] w fun e w' => e = .returned (.complex .f32 (zM x y c).2.1 (zM x y c).2.2) ∧ w' = w.setCell ⟨b, 0, none⟩ (.int .i64 (zM x y c).1) := by
  have h1 := nn_of_fin hx
  have h2 := nn_of_fin hy
  go_enter Tryz.func28, Tryz.ntmps28
  go_wp2_with fail
  refine (round_c b c _ _ h1 hA).mono ?_; rintro e w' ⟨rfl, rfl⟩
  go_wp2_with fail
  refine (round_c b _ _ _ h2 (hA.set _)).mono ?_; rintro e w' ⟨rfl, rfl⟩
  go_wp2
  go_ret; exact ⟨rfl, rfl⟩

theorem conv64_run {x : Nat} (h : fin D x = true) (h2 : fin S (S.write (D.read x)) = true) (w : World) : (convert 103 38 (.float .f64 x)).run Tryz.prog w = .ok (.float .f32 (S.write (D.read x))) w :=
  run_convert_float_float w 103 38 .f64 .f32 x _ (by rw [Tryz.underlying103]; rfl) Tryz.underlying38 (conv64 h h2)

theorem both_c (b : Nat) (c : Int) (p q x y : Nat) (w : World) (hp : fin S p = true) (hq : fin S q = true) (hx : fin S x = true) (hy : fin S y = true) (hov : fin S (bothS p q x y) = true) (hA : At b c w) :
    Calls Tryz.prog 102 #[.pointer (some ⟨b, 0, none⟩), .float .f32 p, .float .f32 q, .float .f32 x, .float .f32 y] w fun e w' => e = .returned (.float .f32 (bothM p q x y c).2) ∧ w' = w.setCell ⟨b, 0, none⟩ (.int .i64 (bothM p q x y c).1) := by
  have k1 := conv_run (nn_of_fin hp)
  have k2 := conv_run (nn_of_fin hq)
  have k3 := conv_run (nn_of_fin hx)
  have k4 := conv_run (nn_of_fin hy)
  have m1 := fun (t : TypeId) (w : World) => run_float_arith (P := Tryz.prog) w .mul t .f64 _ _ _ (muld_eq (cv_fin hp).1 (cv_fin hq).1).1
  have m2 := fun (t : TypeId) (w : World) => run_float_arith (P := Tryz.prog) w .mul t .f64 _ _ _ (muld_eq (cv_fin hx).1 (cv_fin hy).1).1
  have m3 := fun (t : TypeId) (w : World) => run_float_arith (P := Tryz.prog) w .add t .f64 _ _ _ (addd_eq (muld_cv hp hq).1 (muld_cv hx hy).1).1
  have m4 := conv64_run (bothD_fin hp hq hx hy) hov
  have h2 := nn_of_fin hov
  unfold bothD at m4
  go_enter Tryz.func102, Tryz.ntmps102
  go_wp2_with (go_at_call 53; refine (round_c b c _ _ h2 hA).mono ?_; rintro e w' ⟨rfl, rfl⟩)
  go_ret; exact ⟨rfl, rfl⟩
end Go.Proofs.YtmbjomjpnfnbkaaGreat
