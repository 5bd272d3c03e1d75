/-
  Walks of the reference's products of complex numbers and of tables.
-/
import Derived.Test.YtmbjomjpnfnbkaaGreatK0
import Derived.Test.YtmbjomjpnfnbkaaGreatA9
import Derived.Test.YtmbjomjpnfnbkaaGreatD1
set_option linter.unusedSimpArgs false
set_option linter.unusedVariables false
namespace Go.Proofs.YtmbjomjpnfnbkaaGreat
open Go.RowKit Flt

theorem l01Exact_c (p q x y : Nat) (w : World) (hp : fin S p = true) (hq : fin S q = true) (hx : fin S x = true) (hy : fin S y = true) (h : fin S (bothS p q x y) = true) :
    Calls Tryz.prog 109 #[.float .f32 p, .float .f32 q, .float .f32 x, .float .f32 y] w fun e w' => e = .returned (.float .f32 (bothS p q x y)) ∧ w = w' := by
  have k1 := conv_run (nn_of_fin hp)
  have k2 := conv_run (nn_of_fin hq)
  have k3 := conv_run (nn_of_fin hx)
  have k4 := conv_run (nn_of_fin hy)
  have m1 := fun (t : TypeId) (w : World) => run_float_arith (P := Tryz.prog) w .mul t .f64 _ _ _ (muld_eq (cv_fin hp).1 (cv_fin hq).1).1
  have m2 := fun (t : TypeId) (w : World) => run_float_arith (P := Tryz.prog) w .mul t .f64 _ _ _ (muld_eq (cv_fin hx).1 (cv_fin hy).1).1
  have m3 := fun (t : TypeId) (w : World) => run_float_arith (P := Tryz.prog) w .add t .f64 _ _ _ (addd_eq (muld_cv hp hq).1 (muld_cv hx hy).1).1
  have m4 := conv64_run (bothD_fin hp hq hx hy) h
  unfold bothD at m4
  unfold bothS bothD
  go_enter Tryz.func109, Tryz.ntmps109
  go_wp2
  go_ret; exact ⟨rfl, rfl⟩

/-- A product of complex numbers, bare. -/
def timesS (a b p q : Nat) : Nat × Nat := (bothS a p (ng b) q, bothS a q b p)

theorem l01Times_c (a b p q : Nat) (w : World) (ha : FC a b) (hp : FC p q) (h : NO a b p q) :
    Calls Tryz.prog 87 #[.complex .f32 a b, .complex .f32 p q] w fun e w' => e = .returned (.complex .f32 (timesS a b p q).1 (timesS a b p q).2) ∧ w = w' := by
  unfold timesS
  go_enter Tryz.func87, Tryz.ntmps87
  go_wp2_with fail
  refine (l01Exact_c a p (ng b) q _ ha.1.2 hp.1.2 (ng_fin ha.2.1 ha.2.2).1 hp.2.2 h.1).mono ?_; rintro e w' ⟨rfl, rfl⟩
  go_wp2_with fail
  refine (l01Exact_c a q b p _ ha.1.2 hp.2.2 ha.2.2 hp.1.2 h.2).mono ?_; rintro e w' ⟨rfl, rfl⟩
  go_wp2
  go_ret; exact ⟨rfl, rfl⟩

theorem l01Add_c (a b p q : Nat) (w : World) (ha : fin S a = true) (hb : fin S b = true) (hp : fin S p = true) (hq : fin S q = true) :
    Calls Tryz.prog 86 #[.complex .f32 a b, .complex .f32 p q] w fun e w' => e = .returned (.complex .f32 (adds a p) (adds b q)) ∧ w = w' := by
  have m1 := fun (t : TypeId) (w : World) => run_float_arith (P := Tryz.prog) w .add t .f32 _ _ _ (adds_eq ha hp).1
  have m2 := fun (t : TypeId) (w : World) => run_float_arith (P := Tryz.prog) w .add t .f32 _ _ _ (adds_eq hb hq).1
  go_enter Tryz.func86, Tryz.ntmps86
  go_wp2
  go_ret; exact ⟨rfl, rfl⟩

/-- A part of a table's product, bare. -/
def inTableS (a0 a1 b0 b1 x0 x1 y0 y1 : Nat) : Nat × Nat := (adds (timesS a0 a1 b0 b1).1 (timesS x0 x1 y0 y1).1, adds (timesS a0 a1 b0 b1).2 (timesS x0 x1 y0 y1).2)
/-- A product of tables, bare. -/
def productS (a b : C8) : C8 :=
  let r0 := inTableS a.a0 a.a1 b.a0 b.a1 a.b0 a.b1 b.c0 b.c1
  let r1 := inTableS a.a0 a.a1 b.b0 b.b1 a.b0 a.b1 b.d0 b.d1
  let r2 := inTableS a.c0 a.c1 b.a0 b.a1 a.d0 a.d1 b.c0 b.c1
  let r3 := inTableS a.c0 a.c1 b.b0 b.b1 a.d0 a.d1 b.d0 b.d1
  ⟨0, r0.1, r0.2, r1.1, r1.2, r2.1, r2.2, r3.1, r3.2⟩

set_option maxRecDepth 100000 in
set_option maxHeartbeats 4000000 in
theorem l03Times_c (s t : C8) (k j : Int) (w : World) (hs : Lw8 k s) (ht : Lw8 j t) (h1 : -149 ≤ k + j) (h2 : k + j ≤ 126) :
    Calls Tryz.prog 65 #[s.val, t.val] w fun e w' => e = .returned (productS s t).val ∧ New w w' := by
  have n0 := NO_of hs.a0 hs.a1 ht.a0 ht.a1 h1 h2
  have n1 := NO_of hs.b0 hs.b1 ht.c0 ht.c1 h1 h2
  have n2 := NO_of hs.a0 hs.a1 ht.b0 ht.b1 h1 h2
  have n3 := NO_of hs.b0 hs.b1 ht.d0 ht.d1 h1 h2
  have n4 := NO_of hs.c0 hs.c1 ht.a0 ht.a1 h1 h2
  have n5 := NO_of hs.d0 hs.d1 ht.c0 ht.c1 h1 h2
  have n6 := NO_of hs.c0 hs.c1 ht.b0 ht.b1 h1 h2
  have n7 := NO_of hs.d0 hs.d1 ht.d0 ht.d1 h1 h2
  have m0 : FC s.a0 s.a1 := ⟨hs.a0.FW, hs.a1.FW⟩
  have m1 : FC s.b0 s.b1 := ⟨hs.b0.FW, hs.b1.FW⟩
  have m2 : FC s.c0 s.c1 := ⟨hs.c0.FW, hs.c1.FW⟩
  have m3 : FC s.d0 s.d1 := ⟨hs.d0.FW, hs.d1.FW⟩
  have p0 : FC t.a0 t.a1 := ⟨ht.a0.FW, ht.a1.FW⟩
  have p1 : FC t.b0 t.b1 := ⟨ht.b0.FW, ht.b1.FW⟩
  have p2 : FC t.c0 t.c1 := ⟨ht.c0.FW, ht.c1.FW⟩
  have p3 : FC t.d0 t.d1 := ⟨ht.d0.FW, ht.d1.FW⟩
  clear hs ht h1 h2
  have T0 := fun w => l01Times_c s.a0 s.a1 t.a0 t.a1 w m0 p0 n0
  have T1 := fun w => l01Times_c s.b0 s.b1 t.c0 t.c1 w m1 p2 n1
  have U0 := fun w => l01Add_c (timesS s.a0 s.a1 t.a0 t.a1).1 (timesS s.a0 s.a1 t.a0 t.a1).2 (timesS s.b0 s.b1 t.c0 t.c1).1 (timesS s.b0 s.b1 t.c0 t.c1).2 w n0.1 n0.2 n1.1 n1.2
  have T2 := fun w => l01Times_c s.a0 s.a1 t.b0 t.b1 w m0 p1 n2
  have T3 := fun w => l01Times_c s.b0 s.b1 t.d0 t.d1 w m1 p3 n3
  have U1 := fun w => l01Add_c (timesS s.a0 s.a1 t.b0 t.b1).1 (timesS s.a0 s.a1 t.b0 t.b1).2 (timesS s.b0 s.b1 t.d0 t.d1).1 (timesS s.b0 s.b1 t.d0 t.d1).2 w n2.1 n2.2 n3.1 n3.2
  have T4 := fun w => l01Times_c s.c0 s.c1 t.a0 t.a1 w m2 p0 n4
  have T5 := fun w => l01Times_c s.d0 s.d1 t.c0 t.c1 w m3 p2 n5
  have U2 := fun w => l01Add_c (timesS s.c0 s.c1 t.a0 t.a1).1 (timesS s.c0 s.c1 t.a0 t.a1).2 (timesS s.d0 s.d1 t.c0 t.c1).1 (timesS s.d0 s.d1 t.c0 t.c1).2 w n4.1 n4.2 n5.1 n5.2
  have T6 := fun w => l01Times_c s.c0 s.c1 t.b0 t.b1 w m2 p1 n6
  have T7 := fun w => l01Times_c s.d0 s.d1 t.d0 t.d1 w m3 p3 n7
  have U3 := fun w => l01Add_c (timesS s.c0 s.c1 t.b0 t.b1).1 (timesS s.c0 s.c1 t.b0 t.b1).2 (timesS s.d0 s.d1 t.d0 t.d1).1 (timesS s.d0 s.d1 t.d0 t.d1).2 w n6.1 n6.2 n7.1 n7.2
  clear n0 n1 n2 n3 n4 n5 n6 n7 m0 m1 m2 m3 p0 p1 p2 p3
  obtain ⟨sc, s0, s1, s2, s3, s4, s5, s6, s7⟩ := s
  obtain ⟨tc, t0, t1, t2, t3, t4, t5, t6, t7⟩ := t
  simp only at T0 T1 T2 T3 T4 T5 T6 T7 U0 U1 U2 U3
  have e : productS ⟨sc, s0, s1, s2, s3, s4, s5, s6, s7⟩ ⟨tc, t0, t1, t2, t3, t4, t5, t6, t7⟩ = productS ⟨sc, s0, s1, s2, s3, s4, s5, s6, s7⟩ ⟨tc, t0, t1, t2, t3, t4, t5, t6, t7⟩ := rfl
  conv at e => rhs; unfold productS inTableS
  simp only at e
  generalize timesS s0 s1 t0 t1 = u0 at *
  generalize timesS s2 s3 t4 t5 = u1 at *
  generalize timesS s0 s1 t2 t3 = u2 at *
  generalize timesS s2 s3 t6 t7 = u3 at *
  generalize timesS s4 s5 t0 t1 = u4 at *
  generalize timesS s6 s7 t4 t5 = u5 at *
  generalize timesS s4 s5 t2 t3 = u6 at *
  generalize timesS s6 s7 t6 t7 = u7 at *
  have E := hid e
  clear e
  go_enter Tryz.func65, Tryz.ntmps65
  go_wp2_with fail
  refine wp_loop_rounds 3 ?_; rw [rounds_succ]
  go_wp2_with fail
  refine wp_loop_rounds 3 ?_; rw [rounds_succ]
  go_wp2_with fail
  go_region_held3 (fun w' => w'.cell? ⟨w.heap.size, 0, none⟩ = some (.complex .f32 s0 s1) ∧ w'.cell? ⟨w.heap.size, 1, none⟩ = some (.complex .f32 s2 s3) ∧ w'.cell? ⟨w.heap.size + 1, 0, none⟩ = some (.complex .f32 t0 t1) ∧ w'.cell? ⟨w.heap.size + 1, 2, none⟩ = some (.complex .f32 t4 t5)) (((repeat' apply And.intro) <;> (first | (with_reducible assumption) | (go_simp; done))))
    (first | (go_at_call 87; with_reducible refine (T0 _).mono ?_; rintro e w' ⟨rfl, rfl⟩)
           | (go_at_call 87; with_reducible refine (T1 _).mono ?_; rintro e w' ⟨rfl, rfl⟩)
           | (go_at_call 86; with_reducible refine (U0 _).mono ?_; rintro e w' ⟨rfl, rfl⟩))
  all_goals (rename_i hh; clear hh)
  all_goals go_wp2_with fail
  all_goals rw [rounds_succ]
  all_goals go_wp2_with fail
  go_region_held3 (fun w' => w'.cell? ⟨w.heap.size, 0, none⟩ = some (.complex .f32 s0 s1) ∧ w'.cell? ⟨w.heap.size, 1, none⟩ = some (.complex .f32 s2 s3) ∧ w'.cell? ⟨w.heap.size + 1, 1, none⟩ = some (.complex .f32 t2 t3) ∧ w'.cell? ⟨w.heap.size + 1, 3, none⟩ = some (.complex .f32 t6 t7)) (((repeat' apply And.intro) <;> (first | (with_reducible assumption) | (go_simp; done))))
    (first | (go_at_call 87; with_reducible refine (T2 _).mono ?_; rintro e w' ⟨rfl, rfl⟩)
           | (go_at_call 87; with_reducible refine (T3 _).mono ?_; rintro e w' ⟨rfl, rfl⟩)
           | (go_at_call 86; with_reducible refine (U1 _).mono ?_; rintro e w' ⟨rfl, rfl⟩))
  all_goals (rename_i hh; clear hh)
  all_goals go_wp2_with fail
  all_goals rw [rounds_succ]
  all_goals go_wp2_with fail
  all_goals rw [rounds_succ]
  all_goals go_wp2_with fail
  all_goals (refine wp_loop_rounds 3 ?_; rw [rounds_succ])
  all_goals go_wp2_with fail
  go_region_held3 (fun w' => w'.cell? ⟨w.heap.size, 2, none⟩ = some (.complex .f32 s4 s5) ∧ w'.cell? ⟨w.heap.size, 3, none⟩ = some (.complex .f32 s6 s7) ∧ w'.cell? ⟨w.heap.size + 1, 0, none⟩ = some (.complex .f32 t0 t1) ∧ w'.cell? ⟨w.heap.size + 1, 2, none⟩ = some (.complex .f32 t4 t5)) (((repeat' apply And.intro) <;> (first | (with_reducible assumption) | (go_simp; done))))
    (first | (go_at_call 87; with_reducible refine (T4 _).mono ?_; rintro e w' ⟨rfl, rfl⟩)
           | (go_at_call 87; with_reducible refine (T5 _).mono ?_; rintro e w' ⟨rfl, rfl⟩)
           | (go_at_call 86; with_reducible refine (U2 _).mono ?_; rintro e w' ⟨rfl, rfl⟩))
  all_goals (rename_i hh; clear hh)
  all_goals go_wp2_with fail
  all_goals rw [rounds_succ]
  all_goals go_wp2_with fail
  go_region_held3 (fun w' => w'.cell? ⟨w.heap.size, 2, none⟩ = some (.complex .f32 s4 s5) ∧ w'.cell? ⟨w.heap.size, 3, none⟩ = some (.complex .f32 s6 s7) ∧ w'.cell? ⟨w.heap.size + 1, 1, none⟩ = some (.complex .f32 t2 t3) ∧ w'.cell? ⟨w.heap.size + 1, 3, none⟩ = some (.complex .f32 t6 t7)) (((repeat' apply And.intro) <;> (first | (with_reducible assumption) | (go_simp; done))))
    (first | (go_at_call 87; with_reducible refine (T6 _).mono ?_; rintro e w' ⟨rfl, rfl⟩)
           | (go_at_call 87; with_reducible refine (T7 _).mono ?_; rintro e w' ⟨rfl, rfl⟩)
           | (go_at_call 86; with_reducible refine (U3 _).mono ?_; rintro e w' ⟨rfl, rfl⟩))
  all_goals (rename_i hh; clear hh)
  all_goals go_wp2_with fail
  all_goals rw [rounds_succ]
  all_goals go_wp2_with fail
  all_goals rw [rounds_succ]
  all_goals go_wp2_with fail
  refine bodyPost_ret (v := (C8.mk 0 (adds u0.1 u1.1) (adds u0.2 u1.2) (adds u2.1 u3.1) (adds u2.2 u3.2) (adds u4.1 u5.1) (adds u4.2 u5.2) (adds u6.1 u7.1) (adds u6.2 u7.2)).val) (by simp [results, Tryz.results65, go_sem]) rfl ⟨by rw [E.out], ?_⟩
  exact (((((((((New.refl w).alloc _).alloc _).alloc _).alloc _).drew).drew).drew).drew)
end Go.Proofs.YtmbjomjpnfnbkaaGreat
