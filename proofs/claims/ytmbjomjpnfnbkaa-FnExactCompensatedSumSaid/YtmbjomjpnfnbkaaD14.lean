/-
  Walks of the reference's compensated sum.
-/
import Derived.Test.YtmbjomjpnfnbkaaP9
import Derived.Test.YtmbjomjpnfnbkaaA18
import Derived.Test.YtmbjomjpnfnbkaaD8
set_option linter.unusedSimpArgs false
set_option linter.unusedVariables false
namespace Go.Proofs.Ytmbjomjpnfnbkaa
open Go.RowKit Flt

theorem l02Size_c (x : Nat) (w : World) (h : FW x) :
    Calls Try.prog 153 #[.float .f32 x] w fun e w' => e = .returned (.float .f32 (sz2 x)) ∧ w = w' := by
  have hm := fun ats ty w => max_run2 (P := Try.prog) ats ty h.2 (ng_fin h.1 h.2).1 w
  unfold sz2
  go_enter Try.func153, Try.ntmps153
  go_wp2
  go_ret; exact ⟨rfl, rfl⟩

theorem l01Number1_c (x : Nat) (w : World) :
    Calls Try.prog 154 #[.float .f32 x] w fun e w' => e = .returned (toldF (if fin S x = true then (0, x) else (3, 0))) ∧ Drw w w' := by
  cases hf : fin S x with
  | false =>
    rw [if_neg (by simp)]
    have HF := hid hf
    clear hf
    go_enter Try.func154, Try.ntmps154
    go_wp2_with fail
    refine (fine_any x _).mono ?_; rintro e w' ⟨rfl, m, rfl⟩; rw [HF.out]
    go_wp2
    refine bodyPost_ret (v := toldF (3, 0)) (by simp [results, Try.results154, go_sem]) rfl ⟨rfl, ⟨_, rfl⟩⟩
  | true =>
    rw [if_pos rfl]
    have HF := hid hf
    clear hf
    go_enter Try.func154, Try.ntmps154
    go_wp2_with fail
    refine (fine_any x _).mono ?_; rintro e w' ⟨rfl, m, rfl⟩; rw [HF.out]
    go_wp2
    refine bodyPost_ret (v := toldF (0, x)) (by simp [results, Try.results154, go_sem]) rfl ⟨rfl, ⟨_, rfl⟩⟩

set_option maxHeartbeats 4000000 in
theorem l10Sum_c (B o : Nat) (xs : List Nat) (cp : Nat) (w : World) (hlen : xs.length ≤ 9223372036854775807) (hx : ∀ x ∈ xs, FW x)
    (hc : ∀ j, j < xs.length → w.cell? ⟨B, o + j, none⟩ = some (.float .f32 (xs.getD j 0))) :
    Calls Try.prog 115 #[.slice (some ⟨B, o, none⟩) xs.length cp] w fun e w' => e = .returned (toldF (csS xs 0 0)) ∧ Drw w w' := by
  have Hc := hid hc
  have HX := hid hx
  generalize hR : csS xs 0 0 = R
  have HR := hid hR
  clear hc hR hx
  go_enter Try.func115, Try.ntmps115
  go_wp2_with fail
  go_loopw [4, 5, 6] (fun p q i wr => ∃ (k s r : Nat), k ≤ xs.length ∧ i = .int .i64 k ∧ p = .float .f32 s ∧ q = .float .f32 r ∧ Hid (FW s ∧ FW r) ∧ Hid (csS (xs.drop k) s r = R) ∧ Drw w wr) (fun _ _ i _ => xs.length - (intOf i).toNat)
  case atStart => exact ⟨0, 0, 0, Nat.zero_le _, rfl, rfl, rfl, ⟨⟨by decide, fin0⟩, ⟨by decide, fin0⟩⟩, HR, Drw.refl w⟩
  case round =>
    obtain ⟨k, s, r, hk, rfl, rfl, rfl, F, HM, n, rfl⟩ := hrel
    have ws := F.out.1
    have wr' := F.out.2
    by_cases hlt : k < xs.length
    · have hcell := Hc.out k hlt
      have hkn : ((k : Int) < (xs.length : Int)) := by omega
      have wx : FW (xs.getD k 0) := HX.out _ (by have e : xs.getD k 0 = xs[k] := (by simp [List.getD, hlt]); rw [e]; exact List.getElem_mem _)
      have hs' := HM.out
      rw [drop_getD xs k hlt] at hs'
      unfold csS at hs'
      generalize xs.getD k 0 = x at *
      have Z1 := hid (fun w => l02Size_c s w ws)
      have Z2 := hid (fun w => l02Size_c x w wx)
      have f1 := (sz2_is ws).fin
      have f2 := (sz2_is wx).fin
      cases hb : geB2 (sz2 s) (sz2 x) with
      | true =>
        have el := hid (show lostS s x = adds (subs s (adds s x)) x by unfold lostS; rw [if_pos hb])
        rcases geB2_true hb with ho | ho
        all_goals
          clear hb f1 f2
          go_wp2_with fail
          refine upon_raw (by simp) ?_; rintro t n1 ht
          have AT := hid (ht.add (AsG.refl s) (AsG.refl x))
          clear ht
          go_wp2_with fail
          refine upon_raw (by simp) ?_; rintro u0 n2 hu0
          clear hu0
          go_wp2_with fail
          refine upon_raw (by simp) ?_; rintro v0 n3 hv0
          clear hv0
          go_wp2_with fail
          refine (Z1.out _).mono ?_; rintro e w' ⟨rfl, rfl⟩
          go_wp2_with fail
          refine (Z2.out _).mono ?_; rintro e w' ⟨rfl, rfl⟩
          go_wp2_with fail
          refine upon_raw (by simp) ?_; rintro u n4 hu
          have AU := hid (hu.sub (AsG.refl s) AT.out)
          clear hu
          go_wp2_with fail
          refine upon_raw (by simp) ?_; rintro v n6 hv
          have AV := hid (hv.add AU.out (AsG.refl x))
          clear hv
          go_wp2_with fail
          refine upon_raw (by simp) ?_; rintro q n5 hq
          have AQ := hid (hq.add (AsG.refl r) AV.out)
          have AQ' := hid (show AsG q (adds r (lostS s x)) by rw [el.out]; exact AQ.out)
          clear hq
          go_wp2_with fail
          cases hf1 : fin S (adds s x) with
          | false =>
            rw [if_neg (by rw [hf1]; simp)] at hs'
            have HS := hid hs'
            have Ft := hid (AT.out.1.trans hf1)
            clear hs' hf1
            refine (fine_any t _).mono ?_; rintro e w' ⟨rfl, m1, rfl⟩; rw [Ft.out]
            go_wp2
            refine bodyPost_ret (v := toldF (3, 0)) (by simp [results, Try.results115, go_sem]) rfl ⟨by rw [HS.out], ⟨_, rfl⟩⟩
          | true =>
            have Ft := hid (AT.out.1.trans hf1)
            cases hf2 : fin S (adds r (lostS s x)) with
            | false =>
              rw [if_neg (by rw [hf2]; simp)] at hs'
              have HS := hid hs'
              have Fq := hid (AQ'.out.1.trans hf2)
              clear hs' hf1 hf2
              refine (fine_any t _).mono ?_; rintro e w' ⟨rfl, m1, rfl⟩; rw [Ft.out]
              go_wp2_with fail
              refine (fine_any q _).mono ?_; rintro e w' ⟨rfl, m2, rfl⟩; rw [Fq.out]
              go_wp2
              refine bodyPost_ret (v := toldF (3, 0)) (by simp [results, Try.results115, go_sem]) rfl ⟨by rw [HS.out], ⟨_, rfl⟩⟩
            | true =>
              rw [if_pos ⟨hf1, hf2⟩] at hs'
              have HS := hid hs'
              have Fq := hid (AQ'.out.1.trans hf2)
              have Et := hid (AT.out.2 Ft.out)
              have Eq' := hid (AQ'.out.2 Fq.out)
              have Fn := hid (show FW (adds s x) ∧ FW (adds r (lostS s x)) from ⟨⟨adds_lt ws.2 wx.2, hf1⟩, ⟨adds_lt (adds_fin hf2).1 (adds_fin hf2).2, hf2⟩⟩)
              clear hs' hf1 hf2
              refine (fine_any t _).mono ?_; rintro e w' ⟨rfl, m1, rfl⟩; rw [Ft.out]
              go_wp2_with fail
              refine (fine_any q _).mono ?_; rintro e w' ⟨rfl, m2, rfl⟩; rw [Fq.out]
              go_wp2_with fail
              go_roundw
              case rel => exact ⟨k + 1, _, _, by omega, by go_num, rfl, rfl, by rw [Et.out, Eq'.out]; exact Fn, by rw [Et.out, Eq'.out]; exact HS, ⟨_, rfl⟩⟩
              case measure => simp [intOf]; omega
      | false =>
        have el := hid (show lostS s x = adds (subs x (adds s x)) s by unfold lostS; rw [if_neg (by rw [hb]; simp)])
        have ho := geB2_false f1 f2 hb
        clear hb f1 f2
        go_wp2_with fail
        refine upon_raw (by simp) ?_; rintro t n1 ht
        have AT := hid (ht.add (AsG.refl s) (AsG.refl x))
        clear ht
        go_wp2_with fail
        refine upon_raw (by simp) ?_; rintro u n2 hu
        have AU := hid (hu.sub (AsG.refl x) AT.out)
        clear hu
        go_wp2_with fail
        refine upon_raw (by simp) ?_; rintro v n3 hv
        have AV := hid (hv.add AU.out (AsG.refl s))
        clear hv
        go_wp2_with fail
        refine (Z1.out _).mono ?_; rintro e w' ⟨rfl, rfl⟩
        go_wp2_with fail
        refine (Z2.out _).mono ?_; rintro e w' ⟨rfl, rfl⟩
        go_wp2_with fail
        refine upon_raw (by simp) ?_; rintro q n5 hq
        have AQ := hid (hq.add (AsG.refl r) AV.out)
        have AQ' := hid (show AsG q (adds r (lostS s x)) by rw [el.out]; exact AQ.out)
        clear hq
        go_wp2_with fail
        cases hf1 : fin S (adds s x) with
        | false =>
          rw [if_neg (by rw [hf1]; simp)] at hs'
          have HS := hid hs'
          have Ft := hid (AT.out.1.trans hf1)
          clear hs' hf1
          refine (fine_any t _).mono ?_; rintro e w' ⟨rfl, m1, rfl⟩; rw [Ft.out]
          go_wp2
          refine bodyPost_ret (v := toldF (3, 0)) (by simp [results, Try.results115, go_sem]) rfl ⟨by rw [HS.out], ⟨_, rfl⟩⟩
        | true =>
          have Ft := hid (AT.out.1.trans hf1)
          cases hf2 : fin S (adds r (lostS s x)) with
          | false =>
            rw [if_neg (by rw [hf2]; simp)] at hs'
            have HS := hid hs'
            have Fq := hid (AQ'.out.1.trans hf2)
            clear hs' hf1 hf2
            refine (fine_any t _).mono ?_; rintro e w' ⟨rfl, m1, rfl⟩; rw [Ft.out]
            go_wp2_with fail
            refine (fine_any q _).mono ?_; rintro e w' ⟨rfl, m2, rfl⟩; rw [Fq.out]
            go_wp2
            refine bodyPost_ret (v := toldF (3, 0)) (by simp [results, Try.results115, go_sem]) rfl ⟨by rw [HS.out], ⟨_, rfl⟩⟩
          | true =>
            rw [if_pos ⟨hf1, hf2⟩] at hs'
            have HS := hid hs'
            have Fq := hid (AQ'.out.1.trans hf2)
            have Et := hid (AT.out.2 Ft.out)
            have Eq' := hid (AQ'.out.2 Fq.out)
            have Fn := hid (show FW (adds s x) ∧ FW (adds r (lostS s x)) from ⟨⟨adds_lt ws.2 wx.2, hf1⟩, ⟨adds_lt (adds_fin hf2).1 (adds_fin hf2).2, hf2⟩⟩)
            clear hs' hf1 hf2
            refine (fine_any t _).mono ?_; rintro e w' ⟨rfl, m1, rfl⟩; rw [Ft.out]
            go_wp2_with fail
            refine (fine_any q _).mono ?_; rintro e w' ⟨rfl, m2, rfl⟩; rw [Fq.out]
            go_wp2_with fail
            go_roundw
            case rel => exact ⟨k + 1, _, _, by omega, by go_num, rfl, rfl, by rw [Et.out, Eq'.out]; exact Fn, by rw [Et.out, Eq'.out]; exact HS, ⟨_, rfl⟩⟩
            case measure => simp [intOf]; omega
    · have hk' : k = xs.length := by omega
      subst hk'
      have hs' := HM.out
      rw [List.drop_length] at hs'
      unfold csS at hs'
      have HS := hid hs'
      have k1 := fun (t : TypeId) (w : World) => run_float_arith (P := Try.prog) w .add t .f32 s r _ (adds_eq ws.2 wr'.2).1
      clear hs' ws wr'
      go_wp2_with fail
      refine (l01Number1_c _ _).mono ?_; rintro e w' ⟨rfl, m, rfl⟩
      rw [HS.out]
      obtain ⟨R1, R2⟩ := R
      go_wp2
      refine bodyPost_ret (v := toldF (R1, R2)) (by simp [results, Try.results115, go_sem]) rfl ⟨rfl, ⟨_, rfl⟩⟩
end Go.Proofs.Ytmbjomjpnfnbkaa
