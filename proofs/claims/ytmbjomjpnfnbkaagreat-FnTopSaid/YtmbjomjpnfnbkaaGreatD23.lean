/-
  Walks of the reference's TableOfSequence.
-/
import Derived.Test.YtmbjomjpnfnbkaaGreatD22
import Derived.Test.YtmbjomjpnfnbkaaGreatD4
set_option linter.unusedSimpArgs false
set_option linter.unusedVariables false
namespace Go.Proofs.YtmbjomjpnfnbkaaGreat
open Go.RowKit Flt

theorem tabL_c : ∀ (ps : List PuN) (t : C8), t.c = 0 → (tabL ps t).c = 0
  | [], _, h => h
  | p :: ps, t, _ => tabL_c ps _ rfl
theorem tabQ_good {ps : List PuI} (h : seqB ps = true) : tabQ ps = tabL (ps.map PuI.n) unitS := if_pos h
theorem tabQ_bad {ps : List PuI} (h : seqB ps = false) : tabQ ps = bad8 1 := if_neg (by simp [h])

set_option maxHeartbeats 1000000 in
theorem l00TableOfSequence_c (g cap : Nat) (ps : List PuI) (w : World) (hP : PuHeld w g ps) (hl : ps.length ≤ 1048576) :
    Calls Tryz.prog 20 #[.slice (some ⟨g, 0, none⟩) ps.length cap] w fun e w' => e = .returned (tabQ ps).told ∧ New w w' := by
  have HP := hid hP
  clear hP
  cases hs : seqB ps with
  | false =>
    rw [tabQ_bad hs]
    have HS := hid hs
    clear hs
    go_enter Tryz.func20, Tryz.ntmps20
    go_wp2_with fail
    refine (l05Is_c g cap ps _ (HP.out.new ((New.refl w).alloc _)) hl).mono ?_; rintro e w' ⟨rfl, rfl⟩; rw [HS.out]
    go_wp2
    refine bodyPost_ret (v := .tuple #[T4 0 0 0 0 0 0 0 0, .int .i64 1]) (by simp [results, Tryz.results20, go_sem]) rfl ⟨rfl, ?_⟩
    repeat (with_reducible first | exact New.refl _ | apply New.drew | apply New.drewN | apply New.alloc)
  | true =>
    rw [tabQ_good hs]
    have K := hid (fun w hP => l05Table_c g cap ps w hP hs)
    have hc := hid (tabL_c (ps.map PuI.n) unitS rfl)
    have HS := hid hs
    clear hs
    generalize tabL (ps.map PuI.n) unitS = R at *
    obtain ⟨c, a0, a1, b0, b1, c0, c1, d0, d1⟩ := R
    have hc0 : c = 0 := hc.out
    subst hc0
    go_enter Tryz.func20, Tryz.ntmps20
    go_wp2_with fail
    refine (l05Is_c g cap ps _ (HP.out.new ((New.refl w).alloc _)) hl).mono ?_; rintro e w' ⟨rfl, rfl⟩; rw [HS.out]
    go_wp2_with fail
    refine (K.out _ (HP.out.new ((New.refl w).alloc _))).mono ?_; rintro e w1 ⟨rfl, hN⟩
    obtain ⟨l1, l2, l3⟩ := hN.laws
    go_wp2
    refine bodyPost_ret (v := .tuple #[T4 a0 a1 b0 b1 c0 c1 d0 d1, .int .i64 0]) (by simp [results, Tryz.results20, go_sem, l1, l2, l3]) rfl ⟨rfl, ?_⟩
    exact New.set4 (((New.refl w).alloc _).trans hN) (Nat.le_refl _) _ _ _ _

set_option maxHeartbeats 1000000 in
theorem specTableOfSequence_c (g cap : Nat) (ps : List PuI) (w : World) (hP : PuHeld w g ps) (hl : ps.length ≤ 1048576) :
    Calls Tryz.prog 7 #[.slice (some ⟨g, 0, none⟩) ps.length cap] w fun e w' => e = .returned (nz (tabQ ps)).told ∧ New w w' := by
  have HP := hid hP
  have hc := hid (fun w hP => l00TableOfSequence_c g cap ps w hP hl)
  clear hP hl
  generalize tabQ ps = R at *
  obtain ⟨c, a0, a1, b0, b1, c0, c1, d0, d1⟩ := R
  go_enter Tryz.func7, Tryz.ntmps7
  go_wp2_with fail
  refine (hc.out _ (HP.out.new ((New.refl w).alloc _))).mono ?_; rintro e w1 ⟨rfl, hN⟩
  obtain ⟨l1, l2, l3⟩ := hN.laws
  go_wp2_with fail
  refine (l00Turn_c a0 a1 b0 b1 c0 c1 d0 d1 _).mono ?_; rintro e w2 ⟨rfl, hN2⟩
  obtain ⟨k1, k2, k3⟩ := ((hN.alloc _).trans hN2).laws
  go_wp2
  refine bodyPost_ret (v := C8.told (nz (⟨c, a0, a1, b0, b1, c0, c1, d0, d1⟩ : C8))) (by simp [results, Tryz.results7, go_sem, l1, l2, k1, k2, k3, nz]) rfl ⟨rfl, ?_⟩
  exact New.set4 ((((New.refl w).alloc _).trans hN).alloc _ |>.trans hN2) (Nat.le_refl _) _ _ _ _
end Go.Proofs.YtmbjomjpnfnbkaaGreat
