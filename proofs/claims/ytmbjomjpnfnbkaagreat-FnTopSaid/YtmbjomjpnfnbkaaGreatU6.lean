/-
  Walks of the drawing of the statement's list.
-/
import Derived.Test.YtmbjomjpnfnbkaaGreatU5
set_option linter.unusedSimpArgs false
set_option linter.unusedVariables false
namespace Go.Proofs.YtmbjomjpnfnbkaaGreat
open Go.RowKit Flt

set_option maxHeartbeats 8000000 in
set_option maxRecDepth 5000 in
theorem l05Spoil_c (s n : Nat) (cv : Value) (w : World) (hs : s < w.heap.size) (hcv : ∀ g o c, cv = .slice (some ⟨g, o, none⟩) n c → g < w.heap.size) (h : Sc w s cv n) :
    Calls Tryz.prog 15 #[.pointer (some ⟨s, 0, none⟩)] w fun e w' => ∃ u ps, e = .returned u ∧ ps.length ≤ 61 ∧ w'.ownsRow w.heap.size 61 3 u ps.length (pfl ps) ∧ w.grownBy w' (some s) := by
  have HSC := hid h
  have HCV := hid hcv
  have hns : w.heap.size ≠ s := by omega
  clear h hcv
  go_enter Tryz.func15, Tryz.ntmps15
  go_wp2_with fail
  refine (pick_c s n cv w.heap.size 4 [4, 10, 29, 60] _ rfl (by decide) (by decide) hns (HSC.out.new ((New.refl w).alloc _)) (fun j hj => ?_)).mono ?_
  · match j, hj with
    | 0, _ => exact new_cells w #[.int .i64 4, .int .i64 10, .int .i64 29, .int .i64 60] _ rfl 0 _ rfl
    | 1, _ => exact new_cells w #[.int .i64 4, .int .i64 10, .int .i64 29, .int .i64 60] _ rfl 1 _ rfl
    | 2, _ => exact new_cells w #[.int .i64 4, .int .i64 10, .int .i64 29, .int .i64 60] _ rfl 2 _ rfl
    | 3, _ => exact new_cells w #[.int .i64 4, .int .i64 10, .int .i64 29, .int .i64 60] _ rfl 3 _ rfl
  rintro e wa ⟨ra, ram, rfl, hSa, hGa⟩
  have hra : 0 ≤ ra ∧ ra ≤ 60 := by
    simp at ram
    omega
  have hza := hGa.size
  simp at hza
  have HGa := hid (show w.grownBy wa (some s) from ⟨hGa.os, hGa.tape, hGa.output, by omega, fun k hk hne => by rw [hGa.block k (by simp; omega) hne, Below.heap_alloc _ _ _ hk]⟩)
  clear ram hGa
  go_wp2_with fail
  refine (l05Draw_c s n cv ra wa hra.1 (by omega) (by omega) (fun g o c e => Nat.lt_of_lt_of_le (HCV.out g o c e) HGa.out.size) hSa).mono ?_
  rintro e wb ⟨u, ps, rfl, hps, hOb, hSb, hGb⟩
  have hpl : ps.length ≤ 60 := by omega
  have HOb := hid (own_le hOb HGa.out.size)
  have HGb := hid (HGa.out.trans hGb)
  have HSb := hid hSb
  clear hOb hGb hSb hSa hps
  go_wp2_with fail
  refine (next_c s n cv 40 _ (by decide) (by decide) HSb.out).mono ?_; rintro e wc ⟨r, r0, r1, rfl, hSc, hGc⟩
  have HOc := hid (own_grown HOb.out hs hGc)
  have HGc := hid (HGb.out.trans hGc)
  have HSc := hid hSc
  have hwc := HGc.out.size
  have hsc := hSc.lt
  clear hSc hGc
  obtain ⟨q, cp, rfl⟩ : ∃ q cp, u = .slice q ps.length cp := by
    rcases own_forms HOc.out with ⟨e, hn⟩ | ⟨gl, c, e⟩
    · exact ⟨none, 0, by rw [hn]; exact e⟩
    · exact ⟨_, c, e⟩
  by_cases hr0 : r = 0
  · subst hr0
    go_wp2_with fail
    refine (pick_c s n cv wc.heap.size 2 [3, -1] _ rfl (by decide) (by decide) (by omega) (HSc.out.new ((New.refl wc).alloc _)) (fun j hj => ?_)).mono ?_
    · match j, hj with
      | 0, _ => exact new_cells wc #[.int .i64 3, .int .i64 (-1)] _ rfl 0 _ rfl
      | 1, _ => exact new_cells wc #[.int .i64 3, .int .i64 (-1)] _ rfl 1 _ rfl
    rintro e wd ⟨rd, rdm, rfl, hSd, hGd⟩
    have hGd2 := HGc.out.trans ((Grow.refl wc (some s)).alloc (.cells #[.int .i64 3, .int .i64 (-1)] 2) |>.trans hGd)
    have hOd := own_grown (HOc.out.alloc (.cells #[.int .i64 3, .int .i64 (-1)] 2)) hs hGd
    obtain ⟨i0, hi, hz0, hz1, hz2⟩ := info_parts infoP'
    have hOx := hid (hOd)
    have hGx := hid (hGd2)
    have hzx := hGx.out.size
    go_wp2_with (at_builtin; (refine wpList_append_own _ rfl _ _ 24 rfl w.heap.size 61 i0 (.agg #[.int .i64 0, .int .i64 0, .bool false]) 3 24 Tryz.underlying24 hi hz0 hz1 hz2 rfl (by decide) _ _ _ rfl (hOx.out.alloc _) ⟨wd.heap.size, 0, none⟩ 1 1 [.int .i64 rd, .int .i64 0, .bool false] rfl rfl ?c1 ?c2 ?c3 ?c4 ?c5 ?_))
    case c1 => exact new_cells _ #[.int .i64 rd, .int .i64 0, .bool false] _ (by simp)
    case c2 => intro u hu; simp at hu; rcases hu with rfl | rfl | rfl <;> rfl
    case c3 => unfold maxLen; omega
    case c4 => omega
    case c5 => simp; omega
    intro v' w5 hown' hgrow hnil
    have hO5 := hid (hOx.out.alloc (.cells #[.int .i64 rd, .int .i64 0, .bool false] 61))
    have hG5 := hid (grown_grew (hGx.out.alloc (.cells #[.int .i64 rd, .int .i64 0, .bool false] 61)) hO5.out hgrow (Nat.le_refl _))
    have hown1 : Hid (w5.ownsRow w.heap.size 61 3 v' (ps ++ [(⟨rd, 0, false⟩ : PuI)]).length (pfl (ps ++ [(⟨rd, 0, false⟩ : PuI)]))) := by rw [pfl_snoc, List.length_append]; exact hown'
    clear hown' hgrow hnil hO5 hOx hGx
    go_wp2
    go_ret
    exact ⟨_, ps ++ [(⟨rd, 0, false⟩ : PuI)], rfl, by simp; omega, hown1.out, hG5.out⟩
  · have hr0b : (r == 0) = false := by simp [hr0]
    by_cases hr1 : r = 1
    · subst hr1
      go_wp2_with fail
      refine (pick_c s n cv wc.heap.size 2 [25, -1] _ rfl (by decide) (by decide) (by omega) (HSc.out.new ((New.refl wc).alloc _)) (fun j hj => ?_)).mono ?_
      · match j, hj with
        | 0, _ => exact new_cells wc #[.int .i64 25, .int .i64 (-1)] _ rfl 0 _ rfl
        | 1, _ => exact new_cells wc #[.int .i64 25, .int .i64 (-1)] _ rfl 1 _ rfl
      rintro e wd ⟨rd, rdm, rfl, hSd, hGd⟩
      have hGd2 := HGc.out.trans ((Grow.refl wc (some s)).alloc (.cells #[.int .i64 25, .int .i64 (-1)] 2) |>.trans hGd)
      have hOd := own_grown (HOc.out.alloc (.cells #[.int .i64 25, .int .i64 (-1)] 2)) hs hGd
      obtain ⟨i0, hi, hz0, hz1, hz2⟩ := info_parts infoP'
      have hOx := hid (hOd)
      have hGx := hid (hGd2)
      have hzx := hGx.out.size
      go_wp2_with (at_builtin; (refine wpList_append_own _ rfl _ _ 24 rfl w.heap.size 61 i0 (.agg #[.int .i64 0, .int .i64 0, .bool false]) 3 24 Tryz.underlying24 hi hz0 hz1 hz2 rfl (by decide) _ _ _ rfl (hOx.out.alloc _) ⟨wd.heap.size, 0, none⟩ 1 1 [.int .i64 0, .int .i64 rd, .bool false] rfl rfl ?c1 ?c2 ?c3 ?c4 ?c5 ?_))
      case c1 => exact new_cells _ #[.int .i64 0, .int .i64 rd, .bool false] _ (by simp)
      case c2 => intro u hu; simp at hu; rcases hu with rfl | rfl | rfl <;> rfl
      case c3 => unfold maxLen; omega
      case c4 => omega
      case c5 => simp; omega
      intro v' w5 hown' hgrow hnil
      have hO5 := hid (hOx.out.alloc (.cells #[.int .i64 0, .int .i64 rd, .bool false] 61))
      have hG5 := hid (grown_grew (hGx.out.alloc (.cells #[.int .i64 0, .int .i64 rd, .bool false] 61)) hO5.out hgrow (Nat.le_refl _))
      have hown1 : Hid (w5.ownsRow w.heap.size 61 3 v' (ps ++ [(⟨0, rd, false⟩ : PuI)]).length (pfl (ps ++ [(⟨0, rd, false⟩ : PuI)]))) := by rw [pfl_snoc, List.length_append]; exact hown'
      clear hown' hgrow hnil hO5 hOx hGx
      go_wp2
      go_ret
      exact ⟨_, ps ++ [(⟨0, rd, false⟩ : PuI)], rfl, by simp; omega, hown1.out, hG5.out⟩
    · have hr1b : (r == 1) = false := by simp [hr1]
      by_cases hr2 : r = 2
      · subst hr2
        go_wp2_with fail
        go_loopw [3] (fun u wr => ∃ (ps : List PuI), ps.length ≤ 61 ∧ Hid (wr.ownsRow w.heap.size 61 3 u ps.length (pfl ps)) ∧ w.grownBy wr (some s)) (fun u _ => 61 - (match u with | .slice _ n _ => n | _ => 0))
        case atStart => exact ⟨ps, by omega, HOc, HGc.out⟩
        case round =>
          obtain ⟨qs, hq, HO, hG⟩ := hrel
          obtain ⟨q, cp, rfl⟩ : ∃ q cp, u3 = .slice q qs.length cp := by
            rcases own_forms HO.out with ⟨e, hn⟩ | ⟨gl, c, e⟩
            · exact ⟨none, 0, by rw [hn]; exact e⟩
            · exact ⟨_, c, e⟩
          by_cases hlt : qs.length < 61
          · have hltI : (qs.length : Int) < 61 := by omega
            obtain ⟨i0, hi, hz0, hz1, hz2⟩ := info_parts infoP'
            have hOx := hid (HO.out)
            have hGx := hid (hG)
            have hzx := hGx.out.size
            go_wp2_with (at_builtin; (refine wpList_append_own _ rfl _ _ 24 rfl w.heap.size 61 i0 (.agg #[.int .i64 0, .int .i64 0, .bool false]) 3 24 Tryz.underlying24 hi hz0 hz1 hz2 rfl (by decide) _ _ _ rfl (hOx.out.alloc _) ⟨wr.heap.size, 0, none⟩ 1 1 [.int .i64 0, .int .i64 1, .bool false] rfl rfl ?c1 ?c2 ?c3 ?c4 ?c5 ?_))
            case c1 => exact new_cells _ #[.int .i64 0, .int .i64 1, .bool false] _ (by simp)
            case c2 => intro u hu; simp at hu; rcases hu with rfl | rfl | rfl <;> rfl
            case c3 => unfold maxLen; omega
            case c4 => omega
            case c5 => simp; omega
            intro v' w5 hown' hgrow hnil
            have hO5 := hid (hOx.out.alloc (.cells #[.int .i64 0, .int .i64 1, .bool false] 61))
            have hG5 := hid (grown_grew (hGx.out.alloc (.cells #[.int .i64 0, .int .i64 1, .bool false] 61)) hO5.out hgrow (Nat.le_refl _))
            have hown1 : Hid (w5.ownsRow w.heap.size 61 3 v' (qs ++ [(⟨0, 1, false⟩ : PuI)]).length (pfl (qs ++ [(⟨0, 1, false⟩ : PuI)]))) := by rw [pfl_snoc, List.length_append]; exact hown'
            clear hown' hgrow hnil hO5 hOx hGx
            obtain ⟨q', cp', rfl⟩ : ∃ q' cp', v' = .slice q' (qs.length + 1) cp' := by
              rcases own_forms hown1.out with ⟨e, hn⟩ | ⟨gl, c, e⟩
              · simp at hn
              · exact ⟨_, c, by simpa using e⟩
            go_wp2_with fail
            go_roundw
            case rel => exact ⟨qs ++ [(⟨0, 1, false⟩ : PuI)], by simp; omega, hown1, hG5.out⟩
            case measure => simp; omega
          · have hltI : ¬ (qs.length : Int) < 61 := by omega
            go_wp2
            go_ret
            exact ⟨_, rfl, qs, hq, HO.out, hG⟩
      · have hr2b : (r == 2) = false := by simp [hr2]
        go_wp2
        go_ret
        exact ⟨_, ps, rfl, by omega, HOc.out, HGc.out⟩

theorem draw_c (cv : Value) (n : Nat) (w : World) (hn : n ≤ 4096) (h : Bs w cv n) :
    Calls Tryz.prog 5 #[cv] w fun e w' => ∃ u ps, e = .returned u ∧ ps.length ≤ 61 ∧ w'.ownsRow w.heap.size 61 3 u ps.length (pfl ps) ∧ New w w' := by
  have HB := hid h
  clear h
  go_enter Tryz.func5, Tryz.ntmps5
  go_wp2_with fail
  refine (from_c cv n w hn HB.out).mono ?_; rintro e w1 ⟨s, hs, rfl, hS, hN⟩
  have hcv : ∀ g o c, cv = .slice (some ⟨g, o, none⟩) n c → g < w1.heap.size := fun g o c e => by
    rcases HB.out with ⟨g', o', c', e', hg, _⟩ | ⟨e', _⟩
    · rw [e] at e'; injection e' with e1; injection e1 with e2; injection e2 with e3; have := hN.size; omega
    · rw [e] at e'; injection e' with e1; cases e1
  go_wp2_with fail
  refine (l05Spoil_c s n cv w1 hS.lt hcv hS).mono ?_; rintro e w2 ⟨u, ps, rfl, hl, hO, hG⟩
  have HO := hid hO
  clear hO
  go_wp2
  go_ret
  refine ⟨u, ps, rfl, hl, own_le HO.out hN.size, ⟨hG.os.trans hN.os, hG.tape.trans hN.tape, hG.output.trans hN.output, Nat.le_trans hN.size hG.size, fun i hi => ?_⟩⟩
  rw [hG.block i (Nat.lt_of_lt_of_le hi hN.size) (by simp; omega)]
  exact hN.block i hi
end Go.Proofs.YtmbjomjpnfnbkaaGreat
