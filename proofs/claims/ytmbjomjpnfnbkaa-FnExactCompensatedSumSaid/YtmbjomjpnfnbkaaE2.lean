/-
  Walks of the reference's StepOfField and of the statement on it.
-/
import Derived.Test.YtmbjomjpnfnbkaaD4
import Derived.Test.YtmbjomjpnfnbkaaE1
import Derived.Test.YtmbjomjpnfnbkaaK0
import Derived.Test.YtmbjomjpnfnbkaaP1
set_option linter.unusedSimpArgs false
set_option linter.unusedVariables false
namespace Go.Proofs.Ytmbjomjpnfnbkaa
open Go.RowKit Flt

def stepW (x y z h : Nat) : C8 := if isFin4 x y z h = true then stepS x y z h else bad8 1

def ends (b : Nat) (n : Nat) (w : World) : Prop := (∀ o, o < n → (w.cell? ⟨b, o, none⟩).isSome = true) ∧ (∀ o, w.frozen? ⟨b, o, none⟩ = false)

set_option maxHeartbeats 1000000 in
theorem l00StepOfField_c (x y z h : Nat) (w : World) :
    Calls Try.prog 77 #[V3 x y z, .float .f32 h] w fun e w' => e = .returned (stepW x y z h).told ∧ New w w' := by
  have g1 : w.heap.size ≤ w.heap.size + 1 := Nat.le_succ _
  cases hv : (fin S x && fin S y && fin S z) with
  | false =>
    have hR : stepW x y z h = bad8 1 := if_neg (by simp only [isFin4, hv]; simp)
    have HR := hid hR
    have Hv := hid hv
    clear hR hv
    go_enter Try.func77, Try.ntmps77
    go_wp2_with fail
    refine (l09Is_c x y z _).mono ?_; rintro e w1 ⟨rfl, hN⟩; rw [Hv.out]
    obtain ⟨l1, l2, l3⟩ := hN.laws
    go_wp2
    refine bodyPost_ret (v := (bad8 1).told) (by simp [results, Try.results77, go_sem, bad8, l1, l2, l3]) rfl ⟨by rw [HR.out], ?_⟩
    exact New.set4 ((((New.refl w).alloc _).alloc _).trans hN) g1 _ _ _ _
  | true =>
    cases hh : fin S h with
    | false =>
      have hR : stepW x y z h = bad8 1 := if_neg (by simp only [isFin4, hv, hh]; simp)
      have HR := hid hR
      have Hv := hid hv
      have Hh := hid hh
      clear hR hv hh
      go_enter Try.func77, Try.ntmps77
      go_wp2_with fail
      refine (l09Is_c x y z _).mono ?_; rintro e w1 ⟨rfl, hN⟩; rw [Hv.out]
      obtain ⟨l1, l2, l3⟩ := hN.laws
      go_wp2_with fail
      refine (fine_any h _).mono ?_; rintro e w' ⟨rfl, m, rfl⟩; rw [Hh.out]
      go_wp2
      refine bodyPost_ret (v := (bad8 1).told) (by simp [results, Try.results77, go_sem, bad8, l1, l2, l3]) rfl ⟨by rw [HR.out], ?_⟩
      exact (New.set4 ((((New.refl w).alloc _).alloc _).trans hN) g1 _ _ _ _).drewN _
    | true =>
      have hR : stepW x y z h = stepS x y z h := if_pos (by simp only [isFin4, hv, hh]; rfl)
      rw [hR]
      have Hv := hid hv
      have Hh := hid hh
      have hx : fin S x = true := by cases hc : fin S x <;> simp_all
      have hy : fin S y = true := by cases hc : fin S y <;> simp_all
      have hz : fin S z = true := by cases hc : fin S z <;> simp_all
      have hc := fun w => l09Step_c x y z h w hx hy hz hh
      clear hR hv
      generalize stepS x y z h = R at *
      obtain ⟨c, a0, a1, b0, b1, c0, c1, d0, d1⟩ := R
      go_enter Try.func77, Try.ntmps77
      go_wp2_with fail
      refine (l09Is_c x y z _).mono ?_; rintro e w1 ⟨rfl, hN⟩; rw [Hv.out]
      obtain ⟨l1, l2, l3⟩ := hN.laws
      go_wp2_with fail
      refine (fine_any h _).mono ?_; rintro e w' ⟨rfl, m, rfl⟩; rw [Hh.out]
      go_wp2_with fail
      refine (hc _).mono ?_; rintro e w2 ⟨rfl, hN2⟩
      obtain ⟨k1, k2, k3⟩ := (hN.trans ((Drw.new ⟨_, rfl⟩).trans hN2)).laws
      go_wp2
      refine bodyPost_ret (v := C8.told ⟨c, a0, a1, b0, b1, c0, c1, d0, d1⟩) (by simp [results, Try.results77, go_sem, l1, l2, l3, k1, k2, k3]) rfl ⟨rfl, ?_⟩
      exact New.set4 (((((New.refl w).alloc _).alloc _).trans hN).trans ((Drw.new ⟨_, rfl⟩).trans hN2)) g1 _ _ _ _

set_option maxHeartbeats 1000000 in
theorem specStepOfField_c (x y z h : Nat) (w : World) :
    Calls Try.prog 28 #[V3 x y z, .float .f32 h] w fun e w' => e = .returned (nz (stepW x y z h)).told ∧ New w w' := by
  have g1 : w.heap.size ≤ w.heap.size + 1 := Nat.le_succ _
  have hc := fun w => l00StepOfField_c x y z h w
  generalize stepW x y z h = R at *
  obtain ⟨c, a0, a1, b0, b1, c0, c1, d0, d1⟩ := R
  go_enter Try.func28, Try.ntmps28
  go_wp2_with fail
  refine (hc _).mono ?_; rintro e w1 ⟨rfl, hN⟩
  obtain ⟨l1, l2, l3⟩ := hN.laws
  go_wp2_with fail
  refine (l00Turn_c a0 a1 b0 b1 c0 c1 d0 d1 _).mono ?_; rintro e w2 ⟨rfl, hN2⟩
  obtain ⟨k1, k2, k3⟩ := ((hN.alloc _).trans hN2).laws
  go_wp2
  refine bodyPost_ret (v := C8.told (nz (⟨c, a0, a1, b0, b1, c0, c1, d0, d1⟩ : C8))) (by simp [results, Try.results28, go_sem, l1, l2, k1, k2, k3, nz]) rfl ⟨rfl, ?_⟩
  exact New.set4 (((((New.refl w).alloc _).alloc _).trans hN).alloc _ |>.trans hN2) g1 _ _ _ _
end Go.Proofs.Ytmbjomjpnfnbkaa
