/-
  Walks of the program's drift of a table.
-/
import Derived.Test.YtmbjomjpnfnbkaaP24
import Derived.Test.YtmbjomjpnfnbkaaK1
import Derived.Test.YtmbjomjpnfnbkaaA13
set_option linter.unusedSimpArgs false
set_option linter.unusedVariables false
namespace Go.Proofs.Ytmbjomjpnfnbkaa
open Go.RowKit Flt

set_option maxHeartbeats 1000000 in
theorem normSquare_c (b : Nat) (c : Int) (a0 a1 b0 b1 : Nat) (w : World) (h0 : fin S a0 = true) (h1 : fin S a1 = true) (h2 : fin S b0 = true) (h3 : fin S b1 = true) (n0 : fin S (bothS a0 a0 a1 a1) = true) (n1 : fin S (bothS b0 b0 b1 b1) = true) (hA : At b c w) :
    Calls Try.prog 139 #[.pointer (some ⟨b, 0, none⟩), .agg #[.complex .f32 a0 a1, .complex .f32 b0 b1]] w fun e w' => e = .returned (.float .f32 (normSqM a0 a1 b0 b1 c).2) ∧ Ext b (normSqM a0 a1 b0 b1 c).1 w w' := by
  have hlt := hA.lt
  have hne : w.heap.size ≠ b := by omega
  have E : normSqM a0 a1 b0 b1 c = normSqM a0 a1 b0 b1 c := rfl
  conv at E => rhs; unfold normSqM
  simp only at E
  have K1 := hid (fun w hA => square_c b c a0 a1 w h0 h1 n0 hA)
  have f1 : fin S (squareM a0 a1 c).2 = true := rnd_fin _ _
  generalize squareM a0 a1 c = q at *
  have K2 := hid (fun w hA => square_c b q.1 b0 b1 w h2 h3 n1 hA)
  have f2 : fin S (squareM b0 b1 q.1).2 = true := rnd_fin _ _
  generalize squareM b0 b1 q.1 = r at *
  have K3 := hid (fun w hA => add_c b r.1 q.2 r.2 w f1 f2 hA)
  rw [E]
  clear E h0 h1 h2 h3 n0 n1 f1 f2
  generalize addM q.2 r.2 r.1 = s at *
  obtain ⟨q1, q2⟩ := q
  obtain ⟨r1, r2⟩ := r
  obtain ⟨s1, s2⟩ := s
  go_enter Try.func139, Try.ntmps139
  go_wp2_with fail
  with_reducible refine (K1.out _ (hA.alloc _)).mono ?_; rintro e w' ⟨rfl, rfl⟩
  go_wp2_with fail
  with_reducible refine (K2.out _ (by repeat (with_reducible first | exact hA | apply At.set | apply At.alloc | apply At.drew | apply At.drewN))).mono ?_; rintro e w' ⟨rfl, rfl⟩
  go_wp2_with fail
  with_reducible refine (K3.out _ (by repeat (with_reducible first | exact hA | apply At.set | apply At.alloc | apply At.drew | apply At.drewN))).mono ?_; rintro e w' ⟨rfl, rfl⟩
  go_wp2
  go_ret
  exact ⟨rfl, ((Ext.refl hA).set s1).alloc _⟩

theorem rowSquare_c (b : Nat) (c : Int) (t : C8) (w : World) (ht : Fw8 t) (D : DrF t) (hA : At b c w) :
    Calls Try.prog 142 #[.pointer (some ⟨b, 0, none⟩), t.val] w fun e w' => e = .returned (.float .f32 (normSqM t.a0 t.a1 t.b0 t.b1 c).2) ∧ Ext b (normSqM t.a0 t.a1 t.b0 t.b1 c).1 w w' := by
  have K := hid (fun w hA => normSquare_c b c t.a0 t.a1 t.b0 t.b1 w ht.a0.2 ht.a1.2 ht.b0.2 ht.b1.2 D.s1.2.1 D.s2.2.1 hA)
  obtain ⟨tc, a0, a1, b0, b1, c0, c1, d0, d1⟩ := t
  clear ht D
  simp only at K
  generalize normSqM a0 a1 b0 b1 c = q at *
  go_enter Try.func142, Try.ntmps142
  go_wp2_with fail
  with_reducible refine (K.out _ (hA.alloc _)).mono ?_; rintro e w1 ⟨rfl, hE⟩
  go_wp2
  go_ret
  exact ⟨rfl, ((Ext.refl hA).alloc _).trans hE⟩

set_option maxHeartbeats 1000000 in
theorem determinant_c (b : Nat) (c : Int) (t : C8) (w : World) (ht : Fw8 t) (D : DrF t) (hA : At b c w) :
    Calls Try.prog 145 #[.pointer (some ⟨b, 0, none⟩), t.val] w fun e w' => e = .returned (.complex .f32 (detM t c).2.1 (detM t c).2.2) ∧ Ext b (detM t c).1 w w' := by
  have E : detM t c = detM t c := rfl
  conv at E => rhs; unfold detM
  simp only at E
  have K1 := hid (fun w hA => times_c b c t.a0 t.a1 t.d0 t.d1 w ht.a0.2 ht.a1 ht.d0.2 ht.d1.2 ⟨D.t1.2.1, D.t2.2.1⟩ hA)
  have f1 := timesM_fin t.a0 t.a1 t.d0 t.d1 c
  generalize timesM t.a0 t.a1 t.d0 t.d1 c = q at *
  have K2 := hid (fun w hA => times_c b q.1 t.b0 t.b1 t.c0 t.c1 w ht.b0.2 ht.b1 ht.c0.2 ht.c1.2 ⟨D.t3.2.1, D.t4.2.1⟩ hA)
  have f2 := timesM_fin t.b0 t.b1 t.c0 t.c1 q.1
  generalize timesM t.b0 t.b1 t.c0 t.c1 q.1 = r at *
  have K3 := hid (fun w hA => minus_c b r.1 q.2.1 q.2.2 r.2.1 r.2.2 w f1.1 f1.2 f2.1 f2.2 hA)
  rw [E]
  clear E ht D f1 f2
  generalize minusM q.2.1 q.2.2 r.2.1 r.2.2 r.1 = s at *
  obtain ⟨q1, q2, q3⟩ := q
  obtain ⟨r1, r2, r3⟩ := r
  obtain ⟨s1, s2, s3⟩ := s
  obtain ⟨tc, a0, a1, b0, b1, c0, c1, d0, d1⟩ := t
  simp only at K1 K2 K3
  have hlt := hA.lt
  have hne : w.heap.size ≠ b := by omega
  go_enter Try.func145, Try.ntmps145
  go_wp2_with fail
  with_reducible refine (K1.out _ (hA.alloc _)).mono ?_; rintro e w' ⟨rfl, rfl⟩
  go_wp2_with fail
  with_reducible refine (K2.out _ (by repeat (with_reducible first | exact hA | apply At.set | apply At.alloc | apply At.drew | apply At.drewN))).mono ?_; rintro e w' ⟨rfl, rfl⟩
  go_wp2_with fail
  with_reducible refine (K3.out _ (by repeat (with_reducible first | exact hA | apply At.set | apply At.alloc | apply At.drew | apply At.drewN))).mono ?_; rintro e w' ⟨rfl, rfl⟩
  go_wp2
  go_ret
  exact ⟨rfl, ((Ext.refl hA).set s1).alloc _⟩
end Go.Proofs.Ytmbjomjpnfnbkaa
