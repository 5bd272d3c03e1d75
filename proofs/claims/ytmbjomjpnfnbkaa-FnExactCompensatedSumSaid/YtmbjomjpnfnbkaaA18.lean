/-
  Walk of the program's compensated sum.
-/
import Derived.Test.YtmbjomjpnfnbkaaP9
set_option linter.unusedSimpArgs false
set_option linter.unusedVariables false
namespace Go.Proofs.Ytmbjomjpnfnbkaa
open Go.RowKit Flt

theorem geB2_true {x y : Nat} (h : geB2 x y = true) : FloatKind.f32.format.order x y = some .gt ∨ FloatKind.f32.format.order x y = some .eq := by
  unfold geB2 at h
  cases ho : FloatKind.f32.format.order x y with
  | none => rw [ho] at h; cases h
  | some o => rw [ho] at h; cases o <;> simp_all
theorem geB2_false {x y : Nat} (hx : fin S x = true) (hy : fin S y = true) (h : geB2 x y = false) : FloatKind.f32.format.order x y = some .lt := by
  unfold geB2 at h
  have e : Go.FloatKind.f32.format.order x y = S.order x y := rfl
  have := order_fin S hx hy
  rw [← e] at this
  rw [this] at h ⊢
  by_cases h1 : val S x < val S y
  · rw [if_pos h1]
  · by_cases h2 : val S x = val S y
    · rw [if_neg h1, if_pos h2] at h; cases h
    · rw [if_neg h1, if_neg h2] at h; cases h
theorem drop_getD (xs : List Nat) (k : Nat) (h : k < xs.length) : xs.drop k = xs.getD k 0 :: xs.drop (k + 1) := by
  rw [List.drop_eq_getElem_cons h]; simp [List.getD, h]

set_option maxHeartbeats 4000000 in
theorem compensated_c (b : Nat) (c : Int) (B o : Nat) (xs : List Nat) (cp : Nat) (w : World) (hlen : xs.length ≤ 9223372036854775807) (hx : ∀ x ∈ xs, FW x)
    (hc : ∀ j, j < xs.length → w.cell? ⟨B, o + j, none⟩ = some (.float .f32 (xs.getD j 0))) (hB : B ≠ b) (hA : At b c w) :
    Calls Try.prog 76 #[.pointer (some ⟨b, 0, none⟩), .slice (some ⟨B, o, none⟩) xs.length cp] w fun e w' => e = .returned (.float .f32 (csM xs 0 0 c).2) ∧ Ext b (csM xs 0 0 c).1 w w' := by
  have Hc := hid hc
  have HX := hid hx
  generalize hR : csM xs 0 0 c = R
  have HR := hid hR
  have HB := hid hB
  clear hc hR hx hB
  go_enter Try.func76, Try.ntmps76
  go_wp2_with fail
  go_loopw [5, 6, 12] (fun p q i wr => ∃ (k s r : Nat) (c' : Int), k ≤ xs.length ∧ i = .int .i64 k ∧ p = .float .f32 s ∧ q = .float .f32 r ∧ Hid (FW s ∧ FW r) ∧ Hid (csM (xs.drop k) s r c' = R) ∧ Ext b c' w wr) (fun _ _ i _ => xs.length - (intOf i).toNat)
  case atStart => exact ⟨0, 0, 0, c, Nat.zero_le _, rfl, rfl, rfl, ⟨⟨by decide, fin0⟩, ⟨by decide, fin0⟩⟩, HR, Ext.refl hA⟩
  case round =>
    obtain ⟨k, s, r, c', hk, rfl, rfl, rfl, F, HM, hX⟩ := hrel
    have hA := hX.at_
    have ws := F.out.1
    have wr' := F.out.2
    by_cases hlt : k < xs.length
    · have hcell := hX.cell_at (Hc.out k hlt) HB.out
      have hkn : ((k : Int) < (xs.length : Int)) := by omega
      have wx : FW (xs.getD k 0) := HX.out _ (by have e : xs.getD k 0 = xs[k] := (by simp [List.getD, hlt]); rw [e]; exact List.getElem_mem _)
      have hs' := HM.out
      rw [drop_getD xs k hlt] at hs'
      unfold csM at hs'
      generalize xs.getD k 0 = x at *
      have K1 := hid (fun w hA => add_c b c' s x w ws.2 wx.2 hA)
      have wt := addM_FW ws.2 wx.2 c'
      generalize addM s x c' = t at *
      obtain ⟨tc, t2⟩ := t
      have Z1 := hid (fun w => size_c s w ws)
      have Z2 := hid (fun w => size_c x w wx)
      have f1 := sizeM_fin ws
      have f2 := sizeM_fin wx
      generalize sizeM s = z at *
      generalize sizeM x = y at *
      cases hb : geB2 z y with
      | true =>
        simp only [hb, if_true] at hs'
        have K2 := hid (fun w hA => sub_c b tc s t2 w ws.2 wt.2 hA)
        have wu := subM_FW ws.2 wt.2 tc
        generalize subM s t2 tc = u at *
        obtain ⟨uc, u2⟩ := u
        have K3 := hid (fun w hA => add_c b uc u2 x w wu.2 wx.2 hA)
        have wv := addM_FW wu.2 wx.2 uc
        generalize addM u2 x uc = v at *
        obtain ⟨vc, v2⟩ := v
        have K4 := hid (fun w hA => add_c b vc r v2 w wr'.2 wv.2 hA)
        have wq := addM_FW wr'.2 wv.2 vc
        generalize addM r v2 vc = q at *
        obtain ⟨qc, q2⟩ := q
        simp only at hs'
        have HS := hid hs'
        have Fn := hid (And.intro wt wq)
        clear hs' wt wu wv wq ws wx wr'
        rcases geB2_true hb with ho | ho
        all_goals
          clear hb f1 f2
          go_wp2_with fail
          with_reducible refine (K1.out _ hA).mono ?_; rintro e w' ⟨rfl, rfl⟩
          go_wp2_with fail
          with_reducible refine (Z1.out _).mono ?_; rintro e w' ⟨rfl, rfl⟩
          go_wp2_with fail
          with_reducible refine (Z2.out _).mono ?_; rintro e w' ⟨rfl, rfl⟩
          go_wp2_with fail
          with_reducible refine (K2.out _ (hA.set _)).mono ?_; rintro e w' ⟨rfl, rfl⟩
          go_wp2_with fail
          with_reducible refine (K3.out _ (hA.set _)).mono ?_; rintro e w' ⟨rfl, rfl⟩
          go_wp2_with fail
          with_reducible refine (K4.out _ (hA.set _)).mono ?_; rintro e w' ⟨rfl, rfl⟩
          go_wp2_with fail
          go_roundw
          case rel => exact ⟨k + 1, t2, q2, qc, by omega, by go_num, rfl, rfl, Fn, HS, hX.set _⟩
          case measure => simp [intOf]; omega
      | false =>
        simp only [hb, Bool.false_eq_true, if_false] at hs'
        have K2 := hid (fun w hA => sub_c b tc x t2 w wx.2 wt.2 hA)
        have wu := subM_FW wx.2 wt.2 tc
        generalize subM x t2 tc = u at *
        obtain ⟨uc, u2⟩ := u
        have K3 := hid (fun w hA => add_c b uc u2 s w wu.2 ws.2 hA)
        have wv := addM_FW wu.2 ws.2 uc
        generalize addM u2 s uc = v at *
        obtain ⟨vc, v2⟩ := v
        have K4 := hid (fun w hA => add_c b vc r v2 w wr'.2 wv.2 hA)
        have wq := addM_FW wr'.2 wv.2 vc
        generalize addM r v2 vc = q at *
        obtain ⟨qc, q2⟩ := q
        simp only at hs'
        have HS := hid hs'
        have Fn := hid (And.intro wt wq)
        clear hs' wt wu wv wq wx ws wr'
        have ho := geB2_false f1 f2 hb
        clear hb f1 f2
        go_wp2_with fail
        with_reducible refine (K1.out _ hA).mono ?_; rintro e w' ⟨rfl, rfl⟩
        go_wp2_with fail
        with_reducible refine (Z1.out _).mono ?_; rintro e w' ⟨rfl, rfl⟩
        go_wp2_with fail
        with_reducible refine (Z2.out _).mono ?_; rintro e w' ⟨rfl, rfl⟩
        go_wp2_with fail
        with_reducible refine (K2.out _ (hA.set _)).mono ?_; rintro e w' ⟨rfl, rfl⟩
        go_wp2_with fail
        with_reducible refine (K3.out _ (hA.set _)).mono ?_; rintro e w' ⟨rfl, rfl⟩
        go_wp2_with fail
        with_reducible refine (K4.out _ (hA.set _)).mono ?_; rintro e w' ⟨rfl, rfl⟩
        go_wp2_with fail
        go_roundw
        case rel => exact ⟨k + 1, t2, q2, qc, by omega, by go_num, rfl, rfl, Fn, HS, hX.set _⟩
        case measure => simp [intOf]; omega
    · have hk' : k = xs.length := by omega
      subst hk'
      have hs' := HM.out
      rw [List.drop_length] at hs'
      unfold csM at hs'
      have K1 := hid (fun w hA => add_c b c' s r w ws.2 wr'.2 hA)
      generalize addM s r c' = t at *
      obtain ⟨tc, t2⟩ := t
      have HS := hid hs'
      clear hs' ws wr'
      go_wp2_with fail
      with_reducible refine (K1.out _ hA).mono ?_; rintro e w' ⟨rfl, rfl⟩
      go_wp2
      go_ret
      rw [← HS.out]
      exact ⟨rfl, hX.set _⟩
end Go.Proofs.Ytmbjomjpnfnbkaa
