/-
  Walks of the reference's SplitStep.
-/
import Derived.Test.YtmbjomjpnfnbkaaD11
import Derived.Test.YtmbjomjpnfnbkaaE2
set_option linter.unusedSimpArgs false
set_option linter.unusedVariables false
namespace Go.Proofs.Ytmbjomjpnfnbkaa
open Go.RowKit Flt

set_option maxHeartbeats 1000000 in
theorem l00SplitStep_c (x y z h : Nat) (w : World) :
    Calls Try.prog 86 #[V3 x y z, .float .f32 h] w fun e w' => e = .returned (splitW x y z h).told ∧ New w w' := by
  have g1 : w.heap.size ≤ w.heap.size + 1 := Nat.le_succ _
  cases hv : (fin S x && fin S y && fin S z) with
  | false =>
    have hR : splitW x y z h = bad8 1 := if_neg (by simp only [isFin4, hv]; simp)
    have HR := hid hR
    have Hv := hid hv
    clear hR hv
    go_enter Try.func86, Try.ntmps86
    go_wp2_with fail
    refine (l09Is_c x y z _).mono ?_; rintro e w1 ⟨rfl, hN⟩; rw [Hv.out]
    obtain ⟨l1, l2, l3⟩ := hN.laws
    go_wp2
    refine bodyPost_ret (v := (bad8 1).told) (by simp [results, Try.results86, go_sem, bad8, l1, l2, l3]) rfl ⟨by rw [HR.out], ?_⟩
    exact New.set4 ((((New.refl w).alloc _).alloc _).trans hN) g1 _ _ _ _
  | true =>
    cases hh : fin S h with
    | false =>
      have hR : splitW x y z h = bad8 1 := if_neg (by simp only [isFin4, hv, hh]; simp)
      have HR := hid hR
      have Hv := hid hv
      have Hh := hid hh
      clear hR hv hh
      go_enter Try.func86, Try.ntmps86
      go_wp2_with fail
      refine (l09Is_c x y z _).mono ?_; rintro e w1 ⟨rfl, hN⟩; rw [Hv.out]
      obtain ⟨l1, l2, l3⟩ := hN.laws
      go_wp2_with fail
      refine (fine_any h _).mono ?_; rintro e w' ⟨rfl, m, rfl⟩; rw [Hh.out]
      go_wp2
      refine bodyPost_ret (v := (bad8 1).told) (by simp [results, Try.results86, go_sem, bad8, l1, l2, l3]) rfl ⟨by rw [HR.out], ?_⟩
      exact (New.set4 ((((New.refl w).alloc _).alloc _).trans hN) g1 _ _ _ _).drewN _
    | true =>
      have hR : splitW x y z h = splitS x y z h := if_pos (by simp only [isFin4, hv, hh]; rfl)
      rw [hR]
      have hx : fin S x = true := by cases hc : fin S x <;> simp_all
      have hy : fin S y = true := by cases hc : fin S y <;> simp_all
      have hz : fin S z = true := by cases hc : fin S z <;> simp_all
      by_cases hb : (stepS x 0 0 (divs h 1073741824)).c ≠ 0 ∨ (stepS 0 y 0 (divs h 1073741824)).c ≠ 0 ∨ (stepS 0 0 z h).c ≠ 0
      · have e : splitS x y z h = bad8 3 := by unfold splitS; simp only [if_pos hb]
        rw [e]
        exact l00Split_b x y z h w hx hy hz hh hv hb
      · have e1 : (stepS x 0 0 (divs h 1073741824)).c = 0 := Classical.byContradiction fun hc => hb (.inl hc)
        have e2 : (stepS 0 y 0 (divs h 1073741824)).c = 0 := Classical.byContradiction fun hc => hb (.inr (.inl hc))
        have e3 : (stepS 0 0 z h).c = 0 := Classical.byContradiction fun hc => hb (.inr (.inr hc))
        exact l00Split_g x y z h w hx hy hz hh hv e1 e2 e3 _ (by unfold splitS; simp only [if_neg hb])

set_option maxHeartbeats 1000000 in
theorem specSplitStep_c (x y z h : Nat) (w : World) :
    Calls Try.prog 35 #[V3 x y z, .float .f32 h] w fun e w' => e = .returned (nz (splitW x y z h)).told ∧ New w w' := by
  have g1 : w.heap.size ≤ w.heap.size + 1 := Nat.le_succ _
  have hc := fun w => l00SplitStep_c x y z h w
  generalize splitW x y z h = R at *
  obtain ⟨c, a0, a1, b0, b1, c0, c1, d0, d1⟩ := R
  go_enter Try.func35, Try.ntmps35
  go_wp2_with fail
  refine (hc _).mono ?_; rintro e w1 ⟨rfl, hN⟩
  obtain ⟨l1, l2, l3⟩ := hN.laws
  go_wp2_with fail
  refine (l00Turn_c a0 a1 b0 b1 c0 c1 d0 d1 _).mono ?_; rintro e w2 ⟨rfl, hN2⟩
  obtain ⟨k1, k2, k3⟩ := ((hN.alloc _).trans hN2).laws
  go_wp2
  refine bodyPost_ret (v := C8.told (nz (⟨c, a0, a1, b0, b1, c0, c1, d0, d1⟩ : C8))) (by simp [results, Try.results35, go_sem, l1, l2, k1, k2, k3, nz]) rfl ⟨rfl, ?_⟩
  exact New.set4 (((((New.refl w).alloc _).alloc _).trans hN).alloc _ |>.trans hN2) g1 _ _ _ _
end Go.Proofs.Ytmbjomjpnfnbkaa
