/-
  Walks of the drawing of a list of pulses.
-/
import Derived.Test.YtmbjomjpnfnbkaaGreatMc
import Derived.Deep.CutRange
set_option linter.unusedSimpArgs false
set_option linter.unusedVariables false
namespace Go.Proofs.YtmbjomjpnfnbkaaGreat
open Go.RowKit Flt

theorem three_get (a b c : Int) : ∀ j, j < 3 → (#[a, b, c] : Array Int).toList.getD j 0 = [a, b, c].getD j 0 := fun j _ => rfl
set_option maxHeartbeats 8000000 in
set_option maxRecDepth 5000 in
theorem l05Draw_c (s n : Nat) (cv : Value) (most : Int) (w : World) (h0 : 0 ≤ most) (h1 : most ≤ 100) (hs : s < w.heap.size) (hcv : ∀ g o c, cv = .slice (some ⟨g, o, none⟩) n c → g < w.heap.size) (h : Sc w s cv n) :
    Calls Tryz.prog 38 #[.pointer (some ⟨s, 0, none⟩), .int .i64 most] w fun e w' => ∃ u ps, e = .returned u ∧ ((ps.length : Nat) : Int) ≤ most ∧ w'.ownsRow w.heap.size 61 3 u ps.length (pfl ps) ∧ Sc w' s cv n ∧ w.grownBy w' (some s) := by
  have KN := hid (fun m w hm hm2 h => next_c s n cv m w hm hm2 h)
  have e1 : IntKind.i64.wrap (most + 1) = most + 1 := wrap_small (by omega) (by omega)
  have HSC := hid h
  have HCV := hid hcv
  clear h hcv
  go_enter Tryz.func38, Tryz.ntmps38
  go_wp2_with fail
  refine (KN.out (most + 1) _ (by omega) (by omega) (HSC.out.new ((New.refl w).alloc _))).mono ?_; rintro e w1 ⟨r, r0, r1, rfl, hS1, hG1⟩
  obtain ⟨c, rfl⟩ : ∃ c : Nat, r = c := ⟨r.toNat, by omega⟩
  have HS1 := hid hS1
  have HG1 := hid (show w.grownBy w1 (some s) from ⟨hG1.os, hG1.tape, hG1.output, by have := hG1.size; simp at this; omega, fun k hk hne => by rw [hG1.block k (by simp; omega) hne, Below.heap_alloc _ _ _ hk]⟩)
  have HO1 := hid (own_grown (own_lit0 w 61 3 rfl (Nat.le_refl _)) hs hG1)
  clear hS1 hG1
  go_wp2_with fail
  go_loopw [5, 6] (fun u i wr => ∃ (k : Nat) (ps : List PuI), ps.length + k = c ∧ i = .int .i64 k ∧ Hid (wr.ownsRow w.heap.size 61 3 u ps.length (pfl ps)) ∧ Hid (Sc wr s cv n) ∧ w.grownBy wr (some s)) (fun _ i _ => (intOf i).toNat)
  case atStart => exact ⟨c, [], by simp, rfl, HO1, HS1, HG1.out⟩
  case round =>
    obtain ⟨k, ps, hk, rfl, HO, HS, hG⟩ := hrel
    by_cases hlt : 0 < k
    · have hkn : (0 : Int) < (k : Int) := by omega
      have hws := hG.size
      go_wp2_with fail
      refine (KN.out 3 _ (by decide) (by decide) HS.out).mono ?_; rintro e wa ⟨ra, ra0, ra1, rfl, hSa, hGa⟩
      go_wp2_with fail
      refine (KN.out 3 _ (by decide) (by decide) hSa).mono ?_; rintro e wb ⟨rb, rb0, rb1, rfl, hSb, hGb⟩
      go_wp2_with fail
      refine (KN.out 6 _ (by decide) (by decide) hSb).mono ?_; rintro e wc ⟨rc, rc0, rc1, rfl, hSc, hGc⟩
      go_wp2_with fail
      refine (KN.out 25 _ (by decide) (by decide) hSc).mono ?_; rintro e wd ⟨rd, rd0, rd1, rfl, hSd, hGd⟩
      have hds : wd.heap.size ≠ s := by have := hSd.lt; omega
      go_wp2_with fail
      refine (pick_c s n cv wd.heap.size 3 [rb, rc, rd] _ rfl (by decide) (by decide) hds (hSd.new ((New.refl wd).alloc _)) (fun j hj => ?_)).mono ?_
      · match j, hj with
        | 0, _ => exact new_cells wd #[.int .i64 rb, .int .i64 rc, .int .i64 rd] _ rfl 0 _ rfl
        | 1, _ => exact new_cells wd #[.int .i64 rb, .int .i64 rc, .int .i64 rd] _ rfl 1 _ rfl
        | 2, _ => exact new_cells wd #[.int .i64 rb, .int .i64 rc, .int .i64 rd] _ rfl 2 _ rfl
      rintro e we ⟨re, re0, rfl, hSe, hGe⟩
      clear re0
      go_wp2_with fail
      refine (KN.out 3 _ (by decide) (by decide) hSe).mono ?_; rintro e wf ⟨rf, rf0, rf1, rfl, hSf, hGf⟩
      have hGr := (((((hGa.trans hGb).trans hGc).trans hGd).alloc (.cells #[.int .i64 rb, .int .i64 rc, .int .i64 rd] 2)).trans hGe).trans hGf
      have HOf := hid (own_grown HO.out hs hGr)
      have HGf := hid (hG.trans hGr)
      have HSf := hid hSf
      have hfl := hSf.lt
      have hwf := HGf.out.size
      clear hSa hSb hSc hSd hSe hGa hGb hGc hGd hGe hGf hGr hSf HO HS hG rb0 rb1 rc0 rc1 rd0 rd1 rf0 rf1
      obtain ⟨q, cp, rfl, hq⟩ : ∃ q cp, u5 = .slice q ps.length cp ∧ (0 < ps.length → ∃ gl, q = some ⟨gl, 0, none⟩) := by
        rcases own_forms HOf.out with ⟨e, hn⟩ | ⟨gl, c, e⟩
        · exact ⟨none, 0, by rw [hn]; exact e, fun h => by omega⟩
        · exact ⟨_, c, e, fun _ => ⟨gl, rfl⟩⟩
      have eD : decide (rf = 0) = decide (rf = 0) := rfl
      generalize hfb : decide (rf = 0) = fb at eD
      have hfb2 : (rf == 0) = fb := by rw [← hfb]; rfl
      by_cases hpl : 0 < ps.length
      · obtain ⟨gl, rfl⟩ := hq hpl
        have hpn : (0 : Int) < (ps.length : Int) := by omega
        go_wp2_with fail
        refine (KN.out 4 _ (by decide) (by decide) (HSf.out.new ((New.refl wf).alloc (.cells #[.int .i64 ra, .int .i64 re, .bool fb] 61)))).mono ?_; rintro e wg ⟨rg, rg0, rg1, rfl, hSg, hGg⟩
        have hfs : s ≠ wf.heap.size := by omega
        have y0 : wg.cell? ⟨wf.heap.size, 0, none⟩ = some (.int .i64 ra) := grown_cell hGg (by simpa using hfs) (by go_simp)
        have y1 : wg.cell? ⟨wf.heap.size, 1, none⟩ = some (.int .i64 re) := grown_cell hGg (by simpa using hfs) (by go_simp)
        have y2 : wg.cell? ⟨wf.heap.size, 2, none⟩ = some (.bool fb) := grown_cell hGg (by simpa using hfs) (by go_simp)
        have f0 : wg.frozen? ⟨wf.heap.size, 0, none⟩ = false := grown_frozen hGg (by simpa using hfs) (by simp) (by go_simp)
        have f1 : wg.frozen? ⟨wf.heap.size, 1, none⟩ = false := grown_frozen hGg (by simpa using hfs) (by simp) (by go_simp)
        have f2 : wg.frozen? ⟨wf.heap.size, 2, none⟩ = false := grown_frozen hGg (by simpa using hfs) (by simp) (by go_simp)
        have hgl := (HOf.out.lt gl rfl).2
        have hsg := hGg.size
        simp at hsg
        have HOg := hid (own_grown (HOf.out.alloc (.cells #[.int .i64 ra, .int .i64 re, .bool fb] 61)) hs hGg)
        have HGg := hid ((HGf.out.alloc (.cells #[.int .i64 ra, .int .i64 re, .bool fb] 61)).trans hGg)
        have HSg := hid hSg
        clear hSg hGg
        by_cases hrg : rg = 0
        · subst hrg
          obtain ⟨m, hm⟩ : ∃ m, ps.length = m + 1 := ⟨ps.length - 1, by omega⟩
          have hm' : (ps.length : Int) - 1 = (m : Int) := by omega
          have hml : m < ps.length := by omega
          obtain ⟨c0, c1, c2⟩ := own_pfl HOg.out m hml
          generalize ps.getD m PuI.zero = p at *
          obtain ⟨pa, pk, pb⟩ := p
          simp only at c0 c1 c2
          have e5 : IntKind.i64.wrap ((ps.length : Int) - 1) = (m : Int) := by rw [hm']; exact wrap_small (by omega) (by omega)
          have hglf : gl ≠ wf.heap.size := by omega
          have hfgl : wf.heap.size ≠ gl := by omega
          clear hm
          have hSw := hid (HSg.out.grown (((Grow.refl wg (some wf.heap.size)).set wf.heap.size 0 (.int .i64 pa) rfl).set wf.heap.size 1 (.int .i64 pk) rfl |>.set wf.heap.size 2 (.bool pb) rfl) (by simpa using fun he => hfs he.symm) (fun g o c e => .inr (by have := HCV.out g o c e; simp; omega)))
          have HGw := hid (grown_setNew (grown_setNew (grown_setNew HGg.out (p := ⟨wf.heap.size, 0, none⟩) hwf (.int .i64 pa)) (p := ⟨wf.heap.size, 1, none⟩) hwf (.int .i64 pk)) (p := ⟨wf.heap.size, 2, none⟩) hwf (.bool pb))
          have HOw := hid (own_set_ne' (own_set_ne' (own_set_ne' HOg.out (q := wf.heap.size) (by simpa [Value.ownBlock] using hglf) 0 (.int .i64 pa)) (q := wf.heap.size) (by simpa [Value.ownBlock] using hglf) 1 (.int .i64 pk)) (q := wf.heap.size) (by simpa [Value.ownBlock] using hglf) 2 (.bool pb))
          go_wp2_with fail
          refine (KN.out 3 _ (by decide) (by decide) hSw.out).mono ?_; rintro e wh ⟨rh, rh0, rh1, rfl, hSh, hGh⟩
          have x0 : wh.cell? ⟨wf.heap.size, 0, none⟩ = some (.int .i64 pa) := grown_cell hGh (by simpa using hfs) (by go_simp)
          have x1 : wh.cell? ⟨wf.heap.size, 1, none⟩ = some (.int .i64 pk) := grown_cell hGh (by simpa using hfs) (by go_simp)
          have x2 : wh.cell? ⟨wf.heap.size, 2, none⟩ = some (.bool pb) := grown_cell hGh (by simpa using hfs) (by go_simp)
          have g2 : wh.frozen? ⟨wf.heap.size, 2, none⟩ = false := grown_frozen hGh (by simpa using hfs) (by simp; omega) (by go_simp)
          have HOh := hid (own_grown HOw.out hs hGh)
          have HGh := hid (HGw.out.trans hGh)
          have HSh := hid hSh
          have hsh := hGh.size
          simp at hsh
          clear hSh hGh y0 y1 y2 f0 f1 f2 c0 c1 c2
          by_cases hrh : rh = 0
          · subst hrh
            obtain ⟨i0, hi, hz0, hz1, hz2⟩ := info_parts infoP'
            have hOx := hid (own_set_ne' HOh.out (q := wf.heap.size) (by simpa [Value.ownBlock] using hglf) 2 (.bool (!pb)))
            have hSx := hid (HSh.out.grown ((Grow.refl wh (some wf.heap.size)).set wf.heap.size 2 (.bool (!pb)) rfl) (by simpa using fun he => hfs he.symm) (fun g o c e => .inr (by have := HCV.out g o c e; simp; omega)))
            have hGx := hid (grown_setNew HGh.out (p := ⟨wf.heap.size, 2, none⟩) hwf (.bool (!pb)))
            go_wp2_with (at_builtin; (refine wpList_append_own _ rfl _ _ 24 rfl w.heap.size 61 i0 (.agg #[.int .i64 0, .int .i64 0, .bool false]) 3 24 Tryz.underlying24 hi hz0 hz1 hz2 rfl (by decide) _ _ _ rfl (hOx.out.alloc _) ⟨wh.heap.size, 0, none⟩ 1 1 [.int .i64 pa, .int .i64 pk, .bool (!pb)] rfl rfl ?c1 ?c2 ?c3 ?c4 ?c5 ?_))
            case c1 => exact new_cells _ #[.int .i64 pa, .int .i64 pk, .bool (!pb)] _ (by simp)
            case c2 => intro u hu; simp at hu; rcases hu with rfl | rfl | rfl <;> rfl
            case c3 => unfold maxLen; omega
            case c4 => omega
            case c5 => simp; omega
            intro v' w5 hown' hgrow hnil
            have hO5 := hid (hOx.out.alloc (.cells #[.int .i64 pa, .int .i64 pk, .bool (!pb)] 61))
            have hS5 := hid ((hSx.out.new ((New.refl _).alloc (.cells #[.int .i64 pa, .int .i64 pk, .bool (!pb)] 61))).grew hO5.out hgrow hs HCV.out)
            have hG5 := hid (grown_grew (hGx.out.alloc (.cells #[.int .i64 pa, .int .i64 pk, .bool (!pb)] 61)) hO5.out hgrow (Nat.le_refl _))
            have hown1 := hid hown'
            clear hown' hgrow hnil hO5 hOx hSx hGx
            go_wp2_with fail
            go_roundw
            case rel => exact ⟨k - 1, ps ++ [⟨pa, pk, !pb⟩], by simp; omega, by first | (go_num; done) | (congr 1; omega), hid (by rw [pfl_snoc, List.length_append]; exact hown1.out), hS5, hG5.out⟩
            case measure => simp [intOf]; omega
          · have hrh2 : (rh == 0) = false := by simp [hrh]
            obtain ⟨i0, hi, hz0, hz1, hz2⟩ := info_parts infoP'
            have hOx := hid (HOh.out)
            have hSx := hid (HSh.out)
            have hGx := hid (HGh.out)
            go_wp2_with (at_builtin; (refine wpList_append_own _ rfl _ _ 24 rfl w.heap.size 61 i0 (.agg #[.int .i64 0, .int .i64 0, .bool false]) 3 24 Tryz.underlying24 hi hz0 hz1 hz2 rfl (by decide) _ _ _ rfl (hOx.out.alloc _) ⟨wh.heap.size, 0, none⟩ 1 1 [.int .i64 pa, .int .i64 pk, .bool pb] rfl rfl ?c1 ?c2 ?c3 ?c4 ?c5 ?_))
            case c1 => exact new_cells _ #[.int .i64 pa, .int .i64 pk, .bool pb] _ (by simp)
            case c2 => intro u hu; simp at hu; rcases hu with rfl | rfl | rfl <;> rfl
            case c3 => unfold maxLen; omega
            case c4 => omega
            case c5 => simp; omega
            intro v' w5 hown' hgrow hnil
            have hO5 := hid (hOx.out.alloc (.cells #[.int .i64 pa, .int .i64 pk, .bool pb] 61))
            have hS5 := hid ((hSx.out.new ((New.refl _).alloc (.cells #[.int .i64 pa, .int .i64 pk, .bool pb] 61))).grew hO5.out hgrow hs HCV.out)
            have hG5 := hid (grown_grew (hGx.out.alloc (.cells #[.int .i64 pa, .int .i64 pk, .bool pb] 61)) hO5.out hgrow (Nat.le_refl _))
            have hown1 := hid hown'
            clear hown' hgrow hnil hO5 hOx hSx hGx
            go_wp2_with fail
            go_roundw
            case rel => exact ⟨k - 1, ps ++ [⟨pa, pk, pb⟩], by simp; omega, by first | (go_num; done) | (congr 1; omega), hid (by rw [pfl_snoc, List.length_append]; exact hown1.out), hS5, hG5.out⟩
            case measure => simp [intOf]; omega
        · have hrg2 : (rg == 0) = false := by simp [hrg]
          obtain ⟨i0, hi, hz0, hz1, hz2⟩ := info_parts infoP'
          have hOx := hid (HOg.out)
          have hSx := hid (HSg.out)
          have hGx := hid (HGg.out)
          go_wp2_with (at_builtin; (refine wpList_append_own _ rfl _ _ 24 rfl w.heap.size 61 i0 (.agg #[.int .i64 0, .int .i64 0, .bool false]) 3 24 Tryz.underlying24 hi hz0 hz1 hz2 rfl (by decide) _ _ _ rfl (hOx.out.alloc _) ⟨wg.heap.size, 0, none⟩ 1 1 [.int .i64 ra, .int .i64 re, .bool fb] rfl rfl ?c1 ?c2 ?c3 ?c4 ?c5 ?_))
          case c1 => exact new_cells _ #[.int .i64 ra, .int .i64 re, .bool fb] _ (by simp)
          case c2 => intro u hu; simp at hu; rcases hu with rfl | rfl | rfl <;> rfl
          case c3 => unfold maxLen; omega
          case c4 => omega
          case c5 => simp; omega
          intro v' w5 hown' hgrow hnil
          have hO5 := hid (hOx.out.alloc (.cells #[.int .i64 ra, .int .i64 re, .bool fb] 61))
          have hS5 := hid ((hSx.out.new ((New.refl _).alloc (.cells #[.int .i64 ra, .int .i64 re, .bool fb] 61))).grew hO5.out hgrow hs HCV.out)
          have hG5 := hid (grown_grew (hGx.out.alloc (.cells #[.int .i64 ra, .int .i64 re, .bool fb] 61)) hO5.out hgrow (Nat.le_refl _))
          have hown1 := hid hown'
          clear hown' hgrow hnil hO5 hOx hSx hGx
          go_wp2_with fail
          go_roundw
          case rel => exact ⟨k - 1, ps ++ [⟨ra, re, fb⟩], by simp; omega, by first | (go_num; done) | (congr 1; omega), hid (by rw [pfl_snoc, List.length_append]; exact hown1.out), hS5, hG5.out⟩
          case measure => simp [intOf]; omega
      · have hpn : ¬ (0 : Int) < (ps.length : Int) := by omega
        obtain ⟨i0, hi, hz0, hz1, hz2⟩ := info_parts infoP'
        have hOx := hid (HOf.out.alloc (.cells #[.int .i64 ra, .int .i64 re, .bool fb] 61))
        have hSx := hid (HSf.out.new ((New.refl _).alloc (.cells #[.int .i64 ra, .int .i64 re, .bool fb] 61)))
        have hGx := hid (HGf.out.alloc (.cells #[.int .i64 ra, .int .i64 re, .bool fb] 61))
        go_wp2_with (at_builtin; (refine wpList_append_own _ rfl _ _ 24 rfl w.heap.size 61 i0 (.agg #[.int .i64 0, .int .i64 0, .bool false]) 3 24 Tryz.underlying24 hi hz0 hz1 hz2 rfl (by decide) _ _ _ rfl (hOx.out.alloc _) ⟨wf.heap.size + 1, 0, none⟩ 1 1 [.int .i64 ra, .int .i64 re, .bool fb] rfl rfl ?c1 ?c2 ?c3 ?c4 ?c5 ?_))
        case c1 => exact new_cells _ #[.int .i64 ra, .int .i64 re, .bool fb] _ (by simp)
        case c2 => intro u hu; simp at hu; rcases hu with rfl | rfl | rfl <;> rfl
        case c3 => unfold maxLen; omega
        case c4 => omega
        case c5 => simp; omega
        intro v' w5 hown' hgrow hnil
        have hO5 := hid (hOx.out.alloc (.cells #[.int .i64 ra, .int .i64 re, .bool fb] 61))
        have hS5 := hid ((hSx.out.new ((New.refl _).alloc (.cells #[.int .i64 ra, .int .i64 re, .bool fb] 61))).grew hO5.out hgrow hs HCV.out)
        have hG5 := hid (grown_grew (hGx.out.alloc (.cells #[.int .i64 ra, .int .i64 re, .bool fb] 61)) hO5.out hgrow (Nat.le_refl _))
        have hown1 := hid hown'
        clear hown' hgrow hnil hO5 hOx hSx hGx
        go_wp2_with fail
        go_roundw
        case rel => exact ⟨k - 1, ps ++ [⟨ra, re, fb⟩], by simp; omega, by first | (go_num; done) | (congr 1; omega), hid (by rw [pfl_snoc, List.length_append]; exact hown1.out), hS5, hG5.out⟩
        case measure => simp [intOf]; omega
    · have hk' : k = 0 := by omega
      subst hk'
      go_wp2
      go_ret
      exact ⟨_, ps, rfl, by omega, HO.out, HS.out, hG⟩
end Go.Proofs.YtmbjomjpnfnbkaaGreat
