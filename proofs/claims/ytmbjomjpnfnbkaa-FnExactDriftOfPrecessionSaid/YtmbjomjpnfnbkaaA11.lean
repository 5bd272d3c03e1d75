/-
  Walk of the program's distance of two tables.
-/
import Derived.Test.YtmbjomjpnfnbkaaA10
set_option linter.unusedSimpArgs false
set_option linter.unusedVariables false
namespace Go.Proofs.Ytmbjomjpnfnbkaa
open Go.RowKit Flt

theorem minusM_FW {p q x y : Nat} (hp : fin S p = true) (hq : fin S q = true) (hx : fin S x = true) (hy : fin S y = true) (c : Int) : FW (minusM p q x y c).2.1 ∧ FW (minusM p q x y c).2.2 :=
  ⟨rnd_FW (subs_lt hp hx) _, rnd_FW (subs_lt hq hy) _⟩

/-- 'distance'. -/
def distM (a b : C8) (c : Int) : Int × Nat :=
  let r0 := minusM a.a0 a.a1 b.a0 b.a1 c
  let r1 := minusM a.b0 a.b1 b.b0 b.b1 r0.1
  let r2 := minusM a.c0 a.c1 b.c0 b.c1 r1.1
  let r3 := minusM a.d0 a.d1 b.d0 b.d1 r2.1
  (r3.1, mx (mx (mx (mx 0 (greatM r0.2.1 r0.2.2)) (greatM r1.2.1 r1.2.2)) (greatM r2.2.1 r2.2.2)) (greatM r3.2.1 r3.2.2))

/-- The parts are numbers in words of 32 bits. -/
structure Fw8 (t : C8) : Prop where
  a0 : FW t.a0
  a1 : FW t.a1
  b0 : FW t.b0
  b1 : FW t.b1
  c0 : FW t.c0
  c1 : FW t.c1
  d0 : FW t.d0
  d1 : FW t.d1
theorem Lw8.fw {k : Int} {t : C8} (h : Lw8 k t) : Fw8 t := ⟨h.a0.FW, h.a1.FW, h.b0.FW, h.b1.FW, h.c0.FW, h.c1.FW, h.d0.FW, h.d1.FW⟩

set_option maxHeartbeats 4000000 in
theorem distance_c (b : Nat) (c : Int) (s t : C8) (w : World) (hs : Fw8 s) (ht : Fw8 t) (hA : At b c w) :
    Calls Try.prog 135 #[.pointer (some ⟨b, 0, none⟩), s.val, t.val] w fun e w' => e = .returned (.float .f32 (distM s t c).2) ∧ Ext b (distM s t c).1 w w' := by
  have hlt := hA.lt
  have E : distM s t c = distM s t c := rfl
  conv at E => rhs; unfold distM
  simp only at E
  have q0 := minusM_FW hs.a0.2 hs.a1.2 ht.a0.2 ht.a1.2 c
  have H0 := fun w hA => minus_c b c s.a0 s.a1 t.a0 t.a1 w hs.a0.2 hs.a1.2 ht.a0.2 ht.a1.2 hA
  generalize minusM s.a0 s.a1 t.a0 t.a1 c = r0 at *
  have G0 := fun B cp w hc => greatest_c r0.2.1 r0.2.2 B cp w q0.1 q0.2 hc
  have f0 := greatM_fin q0.1 q0.2
  generalize greatM r0.2.1 r0.2.2 = g0 at *
  have M0 := fun ats ty w => max_run2 (P := Try.prog) ats ty fin0 f0 w
  have k0 := mx_fin fin0 f0
  generalize mx 0 g0 = m0 at *
  have q1 := minusM_FW hs.b0.2 hs.b1.2 ht.b0.2 ht.b1.2 r0.1
  have H1 := fun w hA => minus_c b r0.1 s.b0 s.b1 t.b0 t.b1 w hs.b0.2 hs.b1.2 ht.b0.2 ht.b1.2 hA
  generalize minusM s.b0 s.b1 t.b0 t.b1 r0.1 = r1 at *
  have G1 := fun B cp w hc => greatest_c r1.2.1 r1.2.2 B cp w q1.1 q1.2 hc
  have f1 := greatM_fin q1.1 q1.2
  generalize greatM r1.2.1 r1.2.2 = g1 at *
  have M1 := fun ats ty w => max_run2 (P := Try.prog) ats ty k0 f1 w
  have k1 := mx_fin k0 f1
  generalize mx m0 g1 = m1 at *
  have q2 := minusM_FW hs.c0.2 hs.c1.2 ht.c0.2 ht.c1.2 r1.1
  have H2 := fun w hA => minus_c b r1.1 s.c0 s.c1 t.c0 t.c1 w hs.c0.2 hs.c1.2 ht.c0.2 ht.c1.2 hA
  generalize minusM s.c0 s.c1 t.c0 t.c1 r1.1 = r2 at *
  have G2 := fun B cp w hc => greatest_c r2.2.1 r2.2.2 B cp w q2.1 q2.2 hc
  have f2 := greatM_fin q2.1 q2.2
  generalize greatM r2.2.1 r2.2.2 = g2 at *
  have M2 := fun ats ty w => max_run2 (P := Try.prog) ats ty k1 f2 w
  have k2 := mx_fin k1 f2
  generalize mx m1 g2 = m2 at *
  have q3 := minusM_FW hs.d0.2 hs.d1.2 ht.d0.2 ht.d1.2 r2.1
  have H3 := fun w hA => minus_c b r2.1 s.d0 s.d1 t.d0 t.d1 w hs.d0.2 hs.d1.2 ht.d0.2 ht.d1.2 hA
  generalize minusM s.d0 s.d1 t.d0 t.d1 r2.1 = r3 at *
  have G3 := fun B cp w hc => greatest_c r3.2.1 r3.2.2 B cp w q3.1 q3.2 hc
  have f3 := greatM_fin q3.1 q3.2
  generalize greatM r3.2.1 r3.2.2 = g3 at *
  have M3 := fun ats ty w => max_run2 (P := Try.prog) ats ty k2 f3 w
  have k3 := mx_fin k2 f3
  generalize mx m2 g3 = m3 at *
  rw [E]
  clear E hs ht q0 q1 q2 q3 f0 f1 f2 f3 k0 k1 k2 k3
  obtain ⟨sc, s0, s1, s2, s3, s4, s5, s6, s7⟩ := s
  obtain ⟨tc, t0, t1, t2, t3, t4, t5, t6, t7⟩ := t
  simp only at H0 H1 H2 H3
  go_enter Try.func135, Try.ntmps135
  go_wp2_with fail
  refine wp_loop_rounds 3 ?_; rw [rounds_succ]
  go_wp2_with fail
  refine wp_loop_rounds 3 ?_; rw [rounds_succ]
  go_wp2_with fail
  go_region_held3 (fun w' => w'.cell? ⟨w.heap.size, 0, none⟩ = some (.complex .f32 s0 s1) ∧ w'.cell? ⟨w.heap.size + 1, 0, none⟩ = some (.complex .f32 t0 t1)) (((repeat' apply And.intro) <;> (first | (with_reducible assumption) | (go_simp; done))))
    (first | (go_at_call 144; with_reducible refine (H0 _ (by repeat (with_reducible first | exact hA | apply At.set | apply At.alloc | apply At.drew | apply At.drewN))).mono ?_; rintro e w' ⟨rfl, rfl⟩)
           | (go_at_call 143; with_reducible refine (G0 _ _ _ (by go_simp)).mono ?_; rintro e w' ⟨rfl, rfl⟩))
  all_goals (rename_i hh; clear hh)
  all_goals go_wp2_with fail
  all_goals rw [rounds_succ]
  all_goals go_wp2_with fail
  go_region_held3 (fun w' => w'.cell? ⟨w.heap.size, 1, none⟩ = some (.complex .f32 s2 s3) ∧ w'.cell? ⟨w.heap.size + 1, 1, none⟩ = some (.complex .f32 t2 t3)) (((repeat' apply And.intro) <;> (first | (with_reducible assumption) | (go_simp; done))))
    (first | (go_at_call 144; with_reducible refine (H1 _ (by repeat (with_reducible first | exact hA | apply At.set | apply At.alloc | apply At.drew | apply At.drewN))).mono ?_; rintro e w' ⟨rfl, rfl⟩)
           | (go_at_call 143; with_reducible refine (G1 _ _ _ (by go_simp)).mono ?_; rintro e w' ⟨rfl, rfl⟩))
  all_goals (rename_i hh; clear hh)
  all_goals go_wp2_with fail
  all_goals rw [rounds_succ]
  all_goals go_wp2_with fail
  all_goals rw [rounds_succ]
  all_goals go_wp2_with fail
  all_goals (refine wp_loop_rounds 3 ?_; rw [rounds_succ])
  all_goals go_wp2_with fail
  go_region_held3 (fun w' => w'.cell? ⟨w.heap.size, 2, none⟩ = some (.complex .f32 s4 s5) ∧ w'.cell? ⟨w.heap.size + 1, 2, none⟩ = some (.complex .f32 t4 t5)) (((repeat' apply And.intro) <;> (first | (with_reducible assumption) | (go_simp; done))))
    (first | (go_at_call 144; with_reducible refine (H2 _ (by repeat (with_reducible first | exact hA | apply At.set | apply At.alloc | apply At.drew | apply At.drewN))).mono ?_; rintro e w' ⟨rfl, rfl⟩)
           | (go_at_call 143; with_reducible refine (G2 _ _ _ (by go_simp)).mono ?_; rintro e w' ⟨rfl, rfl⟩))
  all_goals (rename_i hh; clear hh)
  all_goals go_wp2_with fail
  all_goals rw [rounds_succ]
  all_goals go_wp2_with fail
  go_region_held3 (fun w' => w'.cell? ⟨w.heap.size, 3, none⟩ = some (.complex .f32 s6 s7) ∧ w'.cell? ⟨w.heap.size + 1, 3, none⟩ = some (.complex .f32 t6 t7)) (((repeat' apply And.intro) <;> (first | (with_reducible assumption) | (go_simp; done))))
    (first | (go_at_call 144; with_reducible refine (H3 _ (by repeat (with_reducible first | exact hA | apply At.set | apply At.alloc | apply At.drew | apply At.drewN))).mono ?_; rintro e w' ⟨rfl, rfl⟩)
           | (go_at_call 143; with_reducible refine (G3 _ _ _ (by go_simp)).mono ?_; rintro e w' ⟨rfl, rfl⟩))
  all_goals (rename_i hh; clear hh)
  all_goals go_wp2_with fail
  all_goals rw [rounds_succ]
  all_goals go_wp2_with fail
  all_goals rw [rounds_succ]
  all_goals go_wp2_with fail
  go_ret
  refine ⟨rfl, ?_⟩
  repeat (with_reducible first | exact Ext.refl hA | apply Ext.drew | apply Ext.alloc | apply Ext.set)
end Go.Proofs.Ytmbjomjpnfnbkaa
