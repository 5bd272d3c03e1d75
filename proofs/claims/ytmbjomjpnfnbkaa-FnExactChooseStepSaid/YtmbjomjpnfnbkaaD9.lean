/-
  Walk of the reference's choice of a step.
-/
import Derived.Test.YtmbjomjpnfnbkaaD8
import Derived.Test.YtmbjomjpnfnbkaaP5
set_option linter.unusedSimpArgs false
set_option linter.unusedVariables false
namespace Go.Proofs.Ytmbjomjpnfnbkaa
open Go.RowKit Flt

theorem leB_true {x y : Nat} (h : leB x y = true) : FloatKind.f32.format.order x y = some .lt ∨ FloatKind.f32.format.order x y = some .eq := by
  unfold leB at h
  cases ho : FloatKind.f32.format.order x y with
  | none => rw [ho] at h; cases h
  | some o => rw [ho] at h; cases o <;> simp_all
theorem leB_false {x y : Nat} (h : leB x y = false) : FloatKind.f32.format.order x y = some .gt ∨ FloatKind.f32.format.order x y = none := by
  unfold leB at h
  cases ho : FloatKind.f32.format.order x y with
  | none => right; rfl
  | some o => rw [ho] at h; cases o <;> simp_all

set_option maxHeartbeats 2000000 in
theorem l00Choose_g (x y z h e : Nat) (w : World) (hx : FW x) (hy : FW y) (hz : FW z) (hh : FW h) (he : fin S e = true) (h0 : (FloatKind.f32.format.order e 0 == some .lt) = false) :
    Calls Try.prog 95 #[V3 x y z, .float .f32 h, .float .f32 e] w fun e' w' => e' = .returned (toldF (chS x y z e 21 h)) ∧ New w w' := by
  have hv : (fin S x && fin S y && fin S z) = true := by rw [hx.2, hy.2, hz.2]; rfl
  have Hv := hid hv
  have Hh := hid hh.2
  have He := hid he
  have hFW := hid hh
  have Cx := fun (k : Nat) (hk : FW k) (w : World) => l09Error_c x y z k w hx.2 hy.2 hz.2 hk.2
  have CX := hid Cx
  generalize hR : chS x y z e 21 h = R
  have HR := hid hR
  clear hv hx hy hz hh he Cx hR
  go_enter Try.func95, Try.ntmps95
  go_wp2_with fail
  refine (l09Is_c x y z _).mono ?_; rintro e' w1 ⟨rfl, hN⟩; rw [Hv.out]
  obtain ⟨l1, l2, l3⟩ := hN.laws
  go_wp2_with fail
  refine (fine_any h _).mono ?_; rintro e' w' ⟨rfl, m, rfl⟩; rw [Hh.out]
  go_wp2_with fail
  refine (fine_any e _).mono ?_; rintro e' w' ⟨rfl, m2, rfl⟩; rw [He.out]
  go_wp2_with fail
  go_loopw [1, 8, 9, 10] (fun p q _ _ wr => ∃ k hk : Nat, k ≤ 21 ∧ q = .int .i64 k ∧ p = .float .f32 hk ∧ Hid (FW hk) ∧ Hid (chS x y z e (21 - k) hk = R) ∧ New (w.alloc (.cells #[.float .f32 x, .float .f32 y, .float .f32 z] 38)) wr) (fun _ q _ _ _ => 21 - (intOf q).toNat)
  case atStart => exact ⟨0, h, by omega, rfl, rfl, hFW, HR, by first | exact hN.drewN _ | exact hN⟩
  case round =>
    obtain ⟨k, hk, hk1, rfl, rfl, F, HC, hW⟩ := hrel
    obtain ⟨i1, i2, i3⟩ := hW.laws
    have Gk := hid (half_fin F.out.2)
    have k0 := fun (t : TypeId) (w : World) => run_float_arith (P := Try.prog) w .quo t .f32 hk 1073741824 _ (divs_eq F.out.2 fin_2 (by rw [val2]; decide)).1
    have Lk := hid (show FW (divs hk 1073741824) from ⟨divs_lt F.out.2 fin_2 (by rw [val2]; decide), half_fin F.out.2⟩)
    by_cases hlt : k < 21
    · have hs := HC.out
      rw [show 21 - k = (21 - (k + 1)) + 1 by omega] at hs
      unfold chS at hs
      have C := CX.out hk F.out
      generalize errS x y z hk = r at *
      obtain ⟨r1, r2⟩ := r
      simp only at hs
      by_cases c0 : r1 = 0
      · subst c0
        rw [if_neg (by simp)] at hs
        cases hb : leB r2 e with
        | true =>
          rw [if_pos hb] at hs
          have HS := hid hs
          clear hs
          rcases leB_true hb with ho | ho
          all_goals
            clear hb
            go_wp2_with fail
            refine (C _).mono ?_; rintro e' w2 ⟨rfl, hN2⟩
            go_wp2
            refine bodyPost_ret (v := toldF (0, hk)) (by simp [results, Try.results95, go_sem]) rfl ⟨by rw [HS.out], ?_⟩
            exact ((New.refl w).alloc _).trans (hW.trans hN2)
        | false =>
          rw [if_neg (by simp [hb])] at hs
          have HS := hid hs
          clear hs
          rcases leB_false hb with ho | ho
          all_goals
            clear hb
            go_wp2_with fail
            refine (C _).mono ?_; rintro e' w2 ⟨rfl, hN2⟩
            go_wp2_with fail
            go_roundw
            case rel => exact ⟨k + 1, _, by omega, by go_num, rfl, Lk, HS, hW.trans hN2⟩
            case measure => simp [intOf]; omega
      · rw [if_pos c0] at hs
        have HS := hid hs
        have hc1 : (r1 != 0) = true := by simpa using c0
        clear hs
        go_wp2_with fail
        refine (C _).mono ?_; rintro e' w2 ⟨rfl, hN2⟩
        go_wp2
        refine bodyPost_ret (v := toldF (r1, 0)) (by simp [results, Try.results95, go_sem]) rfl ⟨by rw [HS.out], ?_⟩
        exact ((New.refl w).alloc _).trans (hW.trans hN2)
    · have : k = 21 := by omega
      subst this
      have hs := HC.out
      have HS := hid (show ((4, 0) : Int × Nat) = R from hs)
      go_wp2
      refine bodyPost_ret (v := toldF (4, 0)) (by simp [results, Try.results95, go_sem]) rfl ⟨by rw [HS.out], ?_⟩
      exact ((New.refl w).alloc _).trans hW
end Go.Proofs.Ytmbjomjpnfnbkaa
