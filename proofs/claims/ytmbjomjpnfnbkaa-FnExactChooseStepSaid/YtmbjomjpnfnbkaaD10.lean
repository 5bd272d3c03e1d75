/-
  Walks of the reference's ChooseStep.
-/
import Derived.Test.YtmbjomjpnfnbkaaD9
set_option linter.unusedSimpArgs false
set_option linter.unusedVariables false
namespace Go.Proofs.Ytmbjomjpnfnbkaa
open Go.RowKit Flt

def isFin5 (x y z h e : Nat) : Bool := isFin4 x y z h && fin S e
/-- The reference's answer, its zero as it comes. -/
def chW (x y z h e : Nat) : Int × Nat := if isFin5 x y z h e = true then (if (FloatKind.f32.format.order e 0 == some .lt) = true then (2, 0) else chS x y z e 21 h) else (1, 0)

set_option maxHeartbeats 2000000 in
theorem l00ChooseStep_c (x y z h e : Nat) (w : World) (lx : x < 2 ^ 32) (ly : y < 2 ^ 32) (lz : z < 2 ^ 32) (lh : h < 2 ^ 32) :
    Calls Try.prog 95 #[V3 x y z, .float .f32 h, .float .f32 e] w fun e' w' => e' = .returned (toldF (chW x y z h e)) ∧ New w w' := by
  cases hv : (fin S x && fin S y && fin S z) with
  | false =>
    have hR : chW x y z h e = (1, 0) := if_neg (by simp only [isFin5, isFin4, hv]; simp)
    rw [hR]
    have Hv := hid hv
    clear hR hv lx ly lz lh
    go_enter Try.func95, Try.ntmps95
    go_wp2_with fail
    refine (l09Is_c x y z _).mono ?_; rintro e' w1 ⟨rfl, hN⟩; rw [Hv.out]
    go_wp2
    refine bodyPost_ret (v := toldF (1, 0)) (by simp [results, Try.results95, go_sem]) rfl ⟨rfl, ?_⟩
    exact ((New.refl w).alloc _).trans hN
  | true =>
    cases hh : fin S h with
    | false =>
      have hR : chW x y z h e = (1, 0) := if_neg (by simp only [isFin5, isFin4, hv, hh]; simp)
      rw [hR]
      have Hv := hid hv
      have Hh := hid hh
      clear hR hv hh lx ly lz lh
      go_enter Try.func95, Try.ntmps95
      go_wp2_with fail
      refine (l09Is_c x y z _).mono ?_; rintro e' w1 ⟨rfl, hN⟩; rw [Hv.out]
      go_wp2_with fail
      refine (fine_any h _).mono ?_; rintro e' w' ⟨rfl, m, rfl⟩; rw [Hh.out]
      go_wp2
      refine bodyPost_ret (v := toldF (1, 0)) (by simp [results, Try.results95, go_sem]) rfl ⟨rfl, ?_⟩
      exact (((New.refl w).alloc _).trans hN).drewN _
    | true =>
      cases he : fin S e with
      | false =>
        have hR : chW x y z h e = (1, 0) := if_neg (by simp only [isFin5, isFin4, hv, hh, he]; simp)
        rw [hR]
        have Hv := hid hv
        have Hh := hid hh
        have He := hid he
        clear hR hv hh he lx ly lz lh
        go_enter Try.func95, Try.ntmps95
        go_wp2_with fail
        refine (l09Is_c x y z _).mono ?_; rintro e' w1 ⟨rfl, hN⟩; rw [Hv.out]
        go_wp2_with fail
        refine (fine_any h _).mono ?_; rintro e' w' ⟨rfl, m, rfl⟩; rw [Hh.out]
        go_wp2_with fail
        refine (fine_any e _).mono ?_; rintro e' w' ⟨rfl, m2, rfl⟩; rw [He.out]
        go_wp2
        refine bodyPost_ret (v := toldF (1, 0)) (by simp [results, Try.results95, go_sem]) rfl ⟨rfl, ?_⟩
        exact (((New.refl w).alloc _).trans hN).drewN _
      | true =>
        have h5 : isFin5 x y z h e = true := by simp only [isFin5, isFin4, hv, hh, he]; rfl
        cases h0 : (FloatKind.f32.format.order e 0 == some .lt) with
        | true =>
          have hR : chW x y z h e = (2, 0) := by unfold chW; rw [if_pos h5, if_pos h0]
          rw [hR]
          have Hv := hid hv
          have Hh := hid hh
          have He := hid he
          have ho : FloatKind.f32.format.order e 0 = some .lt := beq_iff_eq.1 h0
          clear hR hv hh he h5 h0 lx ly lz lh
          go_enter Try.func95, Try.ntmps95
          go_wp2_with fail
          refine (l09Is_c x y z _).mono ?_; rintro e' w1 ⟨rfl, hN⟩; rw [Hv.out]
          go_wp2_with fail
          refine (fine_any h _).mono ?_; rintro e' w' ⟨rfl, m, rfl⟩; rw [Hh.out]
          go_wp2_with fail
          refine (fine_any e _).mono ?_; rintro e' w' ⟨rfl, m2, rfl⟩; rw [He.out]
          go_wp2
          refine bodyPost_ret (v := toldF (2, 0)) (by simp [results, Try.results95, go_sem]) rfl ⟨rfl, ?_⟩
          exact (((New.refl w).alloc _).trans hN).drewN _
        | false =>
          have hR : chW x y z h e = chS x y z e 21 h := by unfold chW; rw [if_pos h5, if_neg (by rw [h0]; simp)]
          rw [hR]
          have fx : fin S x = true := by cases hc : fin S x <;> simp_all
          have fy : fin S y = true := by cases hc : fin S y <;> simp_all
          have fz : fin S z = true := by cases hc : fin S z <;> simp_all
          exact l00Choose_g x y z h e w ⟨lx, fx⟩ ⟨ly, fy⟩ ⟨lz, fz⟩ ⟨lh, hh⟩ he h0

theorem specChooseStep_c (x y z h e : Nat) (w : World) (lx : x < 2 ^ 32) (ly : y < 2 ^ 32) (lz : z < 2 ^ 32) (lh : h < 2 ^ 32) :
    Calls Try.prog 42 #[V3 x y z, .float .f32 h, .float .f32 e] w fun e' w' => e' = .returned (toldF ((chW x y z h e).1, zn (chW x y z h e).2)) ∧ New w w' := by
  have hc := fun w => l00ChooseStep_c x y z h e w lx ly lz lh
  generalize chW x y z h e = R at *
  obtain ⟨r1, r2⟩ := R
  clear lx ly lz lh
  go_enter Try.func42, Try.ntmps42
  go_wp2_with fail
  refine (hc _).mono ?_; rintro e' w1 ⟨rfl, hN⟩
  go_wp2_with fail
  refine (l00Float_c r2 _).mono ?_; rintro e' w2 ⟨rfl, rfl⟩
  go_wp2
  refine bodyPost_ret (v := toldF (r1, zn r2)) (by simp [results, Try.results42, go_sem]) rfl ⟨rfl, ?_⟩
  exact ((New.refl w).alloc _).trans hN
end Go.Proofs.Ytmbjomjpnfnbkaa
