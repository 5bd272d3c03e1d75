/-
  Walks of inverses of sequences, and of lists that are nil.
-/
import Derived.Test.YtmbjomjpnfnbkaaGreatU6
import Derived.Test.YtmbjomjpnfnbkaaGreatMd
import Derived.Test.YtmbjomjpnfnbkaaGreatD4
import Derived.Lib.SliceRun
set_option linter.unusedSimpArgs false
set_option linter.unusedVariables false
namespace Go.Proofs.YtmbjomjpnfnbkaaGreat
open Go.RowKit Flt

/-- A list of pulses in a block of the call's own. -/
structure PuOwn (w : World) (g : Nat) (ps : List PuI) : Prop where
  held : PuHo w g 0 ps
  soft : ∀ o, w.frozen? ⟨g, o, none⟩ = false
theorem own_soft {w : World} {base e size g n cap : Nat} {xs : List Value} (h : w.ownsRow base e size (.slice (some ⟨g, 0, none⟩) n cap) n xs) : ∀ o, w.frozen? ⟨g, o, none⟩ = false := by
  intro o
  rcases h.2 with ⟨h1, _⟩ | ⟨g', cap', cur, hv, _, hh, _⟩
  · cases h1
  · injection hv with h1 h2 h3
    injection h1 with h1
    injection h1 with h1
    subst h1
    simp [World.frozen?, hh]
theorem own_puOwn {w : World} {base e g cap : Nat} {ps : List PuI} (h : w.ownsRow base e 3 (.slice (some ⟨g, 0, none⟩) ps.length cap) ps.length (pfl ps)) : PuOwn w g ps := ⟨(own_pfl h).o, own_soft h⟩
theorem PuHo.get {w : World} {g o : Nat} {ps : List PuI} (h : PuHo w g o ps) {j : Nat} (hj : j < ps.length) : w.cell? ⟨g, o + j * 3, none⟩ = some (.int .i64 (ps.getD j PuI.zero).a) ∧ w.cell? ⟨g, o + j * 3 + 1, none⟩ = some (.int .i64 (ps.getD j PuI.zero).k) ∧ w.cell? ⟨g, o + j * 3 + 2, none⟩ = some (.bool (ps.getD j PuI.zero).back) := h j hj
theorem cell_same {w : World} {a : Addr} {u v : Value} (h : w.cell? a = some u) : (w.setCell a v).cell? a = some v := by rw [cell?_setCell_eq, h]; rfl
theorem cell_else {w : World} {g o o' : Nat} {v : Value} (h : o ≠ o') : (w.setCell ⟨g, o, none⟩ v).cell? ⟨g, o', none⟩ = w.cell? ⟨g, o', none⟩ := World.cell?_setCell_other _ _ _ _ (fun e => h (congrArg Addr.off e))
theorem getD_set {ps : List PuI} {i j : Nat} {q : PuI} (hi : i < ps.length) : (ps.set i q).getD j PuI.zero = if i = j then q else ps.getD j PuI.zero := by
  simp only [List.getD, List.getElem?_set]
  by_cases h : i = j
  · subst h; simp [hi]
  · simp [h]
theorem PuOwn.set {w : World} {g : Nat} {ps : List PuI} (h : PuOwn w g ps) {i : Nat} (hi : i < ps.length) (q : PuI) :
    PuOwn (((w.setCell ⟨g, i * 3, none⟩ (.int .i64 q.a)).setCell ⟨g, i * 3 + 1, none⟩ (.int .i64 q.k)).setCell ⟨g, i * 3 + 2, none⟩ (.bool q.back)) g (ps.set i q) := by
  refine ⟨fun j hj => ?_, fun o => by simp only [World.frozen?_setCell]; exact h.soft o⟩
  rw [List.length_set] at hj
  obtain ⟨c0, c1, c2⟩ := h.held j hj
  rw [getD_set hi]
  simp only [Nat.zero_add] at c0 c1 c2 ⊢
  by_cases e : i = j
  · subst e
    rw [if_pos rfl]
    refine ⟨?_, ?_, ?_⟩
    · rw [cell_else (by omega), cell_else (by omega)]; exact cell_same c0
    · rw [cell_else (by omega)]; exact cell_same (by rw [cell_else (by omega)]; exact c1)
    · exact cell_same (by rw [cell_else (by omega), cell_else (by omega)]; exact c2)
  · rw [if_neg e]
    refine ⟨?_, ?_, ?_⟩
    · rw [cell_else (by omega), cell_else (by omega), cell_else (by omega)]; exact c0
    · rw [cell_else (by omega), cell_else (by omega), cell_else (by omega)]; exact c1
    · rw [cell_else (by omega), cell_else (by omega), cell_else (by omega)]; exact c2
theorem PuOwn.drew {w : World} {g : Nat} {ps : List PuI} (h : PuOwn w g ps) : PuOwn w.drew g ps := ⟨h.held, h.soft⟩

set_option maxRecDepth 20000 in
set_option maxHeartbeats 1000000 in
theorem clone_c (u : Value) (ps : List PuI) (base : Nat) (w : World) (hO : w.ownsRow base 61 3 u ps.length (pfl ps)) (hl : ps.length ≤ 61) :
    Calls Tryz.prog 22 #[u] w fun e w' => ∃ u', e = .returned u' ∧ w'.ownsRow w.heap.size 61 3 u' ps.length (pfl ps) ∧ New w w' := by
  have ke := fun w a n c => Lib.run_eql_slice_nil (P := Tryz.prog) w 24 61 a n c 0 0 Tryz.underlying24
  rcases own_forms hO with ⟨rfl, hn⟩ | ⟨g, cap, rfl⟩
  · have hp : ps = [] := List.eq_nil_of_length_eq_zero hn
    have Hp := hid hp
    clear hp hO hn hl
    go_enter Tryz.func22, Tryz.ntmps22
    go_wp2
    go_ret
    refine ⟨_, rfl, ?_, New.refl w⟩
    rw [Hp.out]
    exact World.ownsRow_nil _ _ _ _
  · have HO := hid hO
    clear hO
    have hle := pfl_length ps
    have h1 : ∀ u ∈ pfl ps, u.oneCell' = true := by
      intro u hu
      obtain ⟨p, _, hp⟩ := List.mem_flatMap.1 hu
      simp at hp
      rcases hp with rfl | rfl | rfl <;> rfl
    have H1 := hid h1
    have Hle := hid hle
    clear h1 hle
    obtain ⟨i0, hi, hz0, hz1, hz2⟩ := info_parts infoP'
    go_enter Tryz.func22, Tryz.ntmps22
    go_wp2_with (at_builtin; (refine wpList_append_own _ rfl _ _ 24 rfl w.heap.size 61 i0 (.agg #[.int .i64 0, .int .i64 0, .bool false]) 3 24 Tryz.underlying24 hi hz0 hz1 hz2 rfl (by decide) _ 0 [] rfl (World.ownsRow_made w #[] 0 (Nat.le_refl _) (by decide) rfl) ⟨g, 0, none⟩ ps.length cap (pfl ps) rfl ?c1 ?c2 ?c3 ?c4 ?c5 ?c6 ?_))
    case c1 => exact Hle.out
    case c2 => exact (HO.out.alloc _).cells rfl
    case c3 => exact H1.out
    case c4 => unfold maxLen; omega
    case c5 => omega
    case c6 => simp
    intro v' w5 hown' hgrow hnil
    have hown1 := hid hown'
    have hN5 := hid (New.grew ((New.refl w).alloc _) (World.ownsRow_made (size := 3) (e := 61) w #[] 0 (Nat.le_refl _) (by decide) rfl) hgrow (Nat.le_refl _))
    clear hown' hgrow hnil
    go_wp2
    go_ret
    refine ⟨_, rfl, ?_, hN5.out⟩
    exact hown1.out

/-- A list whose first and last 'k' pulses have changed places. -/
def Swp (ps qs : List PuI) (k : Nat) : Prop := qs.length = ps.length ∧ ∀ t, t < ps.length → qs.getD t PuI.zero = ps.getD (if t < k ∨ ps.length - k ≤ t then ps.length - 1 - t else t) PuI.zero
theorem Swp.start (ps : List PuI) : Swp ps ps 0 := ⟨rfl, fun t ht => by rw [if_neg (by omega)]⟩
theorem Swp.step {ps qs : List PuI} {k j : Nat} (h : Swp ps qs k) (hj : j + k + 1 = ps.length) (hk : k < j) : Swp ps ((qs.set k (qs.getD j PuI.zero)).set j (qs.getD k PuI.zero)) (k + 1) := by
  have hl := h.1
  refine ⟨by simp [h.1], fun t ht => ?_⟩
  rw [getD_set (by simp; omega), getD_set (by omega)]
  have e1 := h.2 k (by omega)
  have e2 := h.2 j (by omega)
  have e3 := h.2 t ht
  rw [if_neg (by omega)] at e1 e2
  by_cases a : j = t
  · subst a; rw [if_pos rfl, e1, if_pos (by omega)]; congr 1; omega
  · rw [if_neg a]
    by_cases b : k = t
    · subst b; rw [if_pos rfl, e2, if_pos (by omega)]; congr 1; omega
    · rw [if_neg b, e3]
      by_cases c : t < k ∨ ps.length - k ≤ t
      · rw [if_pos c, if_pos (by omega)]
      · rw [if_neg c, if_neg (by omega)]
theorem getD_rev (ps : List PuI) {t : Nat} (h : t < ps.length) : ps.reverse.getD t PuI.zero = ps.getD (ps.length - 1 - t) PuI.zero := by
  simp [List.getD, List.getElem?_reverse h]
theorem Swp.done {ps qs : List PuI} {k : Nat} (h : Swp ps qs k) (hk : ps.length ≤ 2 * k + 1) : qs = ps.reverse := by
  apply List.ext_getElem
  · rw [h.1, List.length_reverse]
  · intro t h1 h2
    have ht : t < ps.length := by rw [← h.1]; exact h1
    have e := h.2 t ht
    have r := getD_rev ps ht
    have g1 : qs.getD t PuI.zero = qs[t] := by simp [List.getD, h1]
    have g2 : ps.reverse.getD t PuI.zero = ps.reverse[t] := by simp only [List.getD, List.getElem?_eq_getElem h2, Option.getD_some]
    rw [← g1, ← g2, e, r]
    congr 1
    split <;> omega
attribute [local go_sem] isSome_setCell
attribute [-go_sem] stored
attribute [local go_sem] stored_own
set_option maxRecDepth 20000 in
set_option maxHeartbeats 2000000 in
theorem reverse_c (g cap : Nat) (ps : List PuI) (w : World) (h : PuOwn w g ps) (hl : ps.length ≤ 61) :
    Calls Tryz.prog 23 #[.slice (some ⟨g, 0, none⟩) ps.length cap] w fun e w' => e = .returned (.tuple #[]) ∧ PuOwn w' g ps.reverse ∧ w.grownBy w' (some g) := by
  have HP := hid h
  clear h
  have hw1 : IntKind.i64.wrap ((ps.length : Int) - 1) = (ps.length : Int) - 1 := wrap_small (by omega) (by omega)
  go_enter Tryz.func23, Tryz.ntmps23
  go_wp2_with fail
  go_loopw [2, 3] (fun i j wr => ∃ (k : Nat) (qs : List PuI), k ≤ ps.length ∧ i = .int .i64 k ∧ j = .int .i64 ((ps.length : Int) - 1 - k) ∧ Hid (Swp ps qs k) ∧ Hid (PuOwn wr g qs) ∧ Hid (w.grownBy wr (some g))) (fun i _ _ => ps.length - (intOf i).toNat)
  case atStart => exact ⟨0, ps, Nat.zero_le _, rfl, by simp, hid (Swp.start ps), HP, hid (Grow.refl w _)⟩
  case round =>
    obtain ⟨k, qs, hk, rfl, rfl, HS, HQ, HG⟩ := hrel
    by_cases hlt : (k : Int) < (ps.length : Int) - 1 - k
    · obtain ⟨j, hj⟩ : ∃ j : Nat, (ps.length : Int) - 1 - k = j := ⟨ps.length - 1 - k, by omega⟩
      rw [hj] at hlt ⊢
      have hjp : j + k + 1 = ps.length := by omega
      have hq := HS.out.1
      obtain ⟨a0, a1, a2⟩ := HQ.out.held k (by omega)
      obtain ⟨b0, b1, b2⟩ := HQ.out.held j (by omega)
      simp only [Nat.zero_add] at a0 a1 a2 b0 b1 b2
      obtain ⟨qj, hqj⟩ : ∃ q, qs.getD j PuI.zero = q := ⟨_, rfl⟩
      obtain ⟨qk, hqk⟩ : ∃ q, qs.getD k PuI.zero = q := ⟨_, rfl⟩
      rw [hqj] at b0 b1 b2
      rw [hqk] at a0 a1 a2
      have Hqj := hid hqj
      have Hqk := hid hqk
      clear hqj hqk
      have hf := HQ.out.soft
      have hjl : j < ps.length := by omega
      have hkl : k < ps.length := by omega
      have hw2 : IntKind.i64.wrap ((k : Int) + 1) = (k : Int) + 1 := wrap_small (by omega) (by omega)
      have hw3 : IntKind.i64.wrap ((j : Int) - 1) = (j : Int) - 1 := wrap_small (by omega) (by omega)
      go_wp2_with fail
      go_region
      all_goals
        go_wp2_with fail
        go_roundw
        case rel =>
          refine ⟨k + 1, (qs.set k qj).set j qk, by omega, by simp, ?_, hid (by rw [← Hqj.out, ← Hqk.out]; exact HS.out.step hjp (by omega)), hid ?_, hid ?_⟩
          · rw [show ((ps.length : Int) - 1 - ((k + 1 : Nat) : Int)) = (j : Int) - 1 by omega]
          · exact ((HQ.out.set (by omega) _).set (by rw [List.length_set]; omega) _).drew
          · repeat (with_reducible first | exact HG.out | apply World.grownBy.drew | apply World.grownBy.set (hr := rfl))
        case measure => simp [intOf]; omega
    · have hjx : IntKind.i64.wrap ((k : Int)) = k := wrap_small (by omega) (by omega)
      go_wp2
      go_end0
      have e := HS.out.done (by omega)
      exact ⟨rfl, e ▸ HQ.out, HG.out⟩
end Go.Proofs.YtmbjomjpnfnbkaaGreat

namespace Go.Proofs.YtmbjomjpnfnbkaaGreat
open Go.RowKit Flt

/-- The pulse turned back. -/
def PuI.inv (p : PuI) : PuI := ⟨p.a, p.k, !p.back⟩
def invL (ps : List PuI) : List PuI := ps.reverse.map PuI.inv
/-- A list whose first 'k' pulses are turned back. -/
def Flp (ps qs : List PuI) (k : Nat) : Prop := qs.length = ps.length ∧ ∀ t, t < ps.length → qs.getD t PuI.zero = if t < k then (ps.getD t PuI.zero).inv else ps.getD t PuI.zero
theorem Flp.start (ps : List PuI) : Flp ps ps 0 := ⟨rfl, fun t ht => by rw [if_neg (by omega)]⟩
theorem Flp.step {ps qs : List PuI} {k : Nat} (h : Flp ps qs k) (hk : k < ps.length) : Flp ps (qs.set k (qs.getD k PuI.zero).inv) (k + 1) := by
  refine ⟨by simp [h.1], fun t ht => ?_⟩
  rw [getD_set (by rw [h.1]; exact hk)]
  have e1 := h.2 k hk
  have e3 := h.2 t ht
  rw [if_neg (by omega)] at e1
  by_cases b : k = t
  · subst b; rw [if_pos rfl, e1, if_pos (by omega)]
  · rw [if_neg b, e3]
    by_cases c : t < k
    · rw [if_pos c, if_pos (by omega)]
    · rw [if_neg c, if_neg (by omega)]
theorem getD_lt {ps : List PuI} {t : Nat} (h : t < ps.length) : ps.getD t PuI.zero = ps[t] := by simp only [List.getD, List.getElem?_eq_getElem h, Option.getD_some]
theorem Flp.done {ps qs : List PuI} (h : Flp ps qs ps.length) : qs = ps.map PuI.inv := by
  apply List.ext_getElem
  · rw [h.1, List.length_map]
  · intro t h1 h2
    have ht : t < ps.length := by rw [← h.1]; exact h1
    have e := h.2 t ht
    rw [if_pos ht, getD_lt h1, getD_lt ht] at e
    rw [e, List.getElem_map]
theorem PuOwn.setBack {w : World} {g : Nat} {ps : List PuI} (h : PuOwn w g ps) {i : Nat} (hi : i < ps.length) : PuOwn (w.setCell ⟨g, i * 3 + 2, none⟩ (.bool (!(ps.getD i PuI.zero).back))) g (ps.set i (ps.getD i PuI.zero).inv) := by
  refine ⟨fun j hj => ?_, fun o => by rw [World.frozen?_setCell]; exact h.soft o⟩
  rw [List.length_set] at hj
  obtain ⟨c0, c1, c2⟩ := h.held j hj
  rw [getD_set hi]
  simp only [Nat.zero_add] at c0 c1 c2 ⊢
  by_cases e : i = j
  · subst e
    rw [if_pos rfl]
    refine ⟨?_, ?_, ?_⟩
    · rw [cell_else (by omega)]; exact c0
    · rw [cell_else (by omega)]; exact c1
    · exact cell_same c2
  · rw [if_neg e]
    refine ⟨?_, ?_, ?_⟩
    · rw [cell_else (by omega)]; exact c0
    · rw [cell_else (by omega)]; exact c1
    · rw [cell_else (by omega)]; exact c2
theorem New.grown {w w' w1 : World} {g : Nat} (h : New w w') (hg : w'.grownBy w1 (Option.some g)) (hs : w.heap.size ≤ g) : New w w1 :=
  ⟨hg.os.trans h.os, hg.tape.trans h.tape, hg.output.trans h.output, Nat.le_trans h.size hg.size, fun i hi => by
    rw [hg.block i (Nat.lt_of_lt_of_le hi h.size) (by simp; omega)]
    exact h.block i hi⟩
theorem own_cap {w : World} {base e size g n cap : Nat} {xs : List Value} (h : w.ownsRow base e size (.slice (some ⟨g, 0, none⟩) n cap) n xs) : n ≤ cap ∧ base ≤ g ∧ g < w.heap.size := by
  refine ⟨?_, (h.lt g rfl).1, (h.lt g rfl).2⟩
  rcases h.2 with ⟨h1, _⟩ | ⟨g', cap', cur, hv, _, hh, hn, _⟩
  · cases h1
  · injection hv with h1 h2 h3
    omega

set_option maxRecDepth 20000 in
theorem reverse0_c (w : World) :
    Calls Tryz.prog 23 #[.slice none 0 0] w fun e w' => e = .returned (.tuple #[]) ∧ w = w' := by
  go_enter Tryz.func23, Tryz.ntmps23
  go_wp2_with fail
  refine wp_loop_rounds 1 ?_; rw [rounds_succ]
  go_wp2
  go_end0
  exact ⟨rfl, rfl⟩

set_option maxRecDepth 20000 in
set_option maxHeartbeats 2000000 in
theorem inverse_c (g cap : Nat) (ps : List PuI) (base : Nat) (w : World) (hO : w.ownsRow base 61 3 (.slice (some ⟨g, 0, none⟩) ps.length cap) ps.length (pfl ps)) (hs : seqB ps = true) :
    Calls Tryz.prog 8 #[.slice (some ⟨g, 0, none⟩) ps.length cap] w fun e w' => ∃ u', e = .returned (.tuple #[u', .int .i64 0]) ∧ (∀ g' c', u' = .slice (some ⟨g', 0, none⟩) ps.length c' → ps.length ≤ c' ∧ g' < w'.heap.size ∧ PuHo w' g' 0 (invL ps)) ∧ ((u' = .slice none 0 0 ∧ ps.length = 0) ∨ ∃ g' c', u' = .slice (some ⟨g', 0, none⟩) ps.length c') ∧ New w w' := by
  have hl : ps.length ≤ 61 := by
    unfold seqB at hs
    simp only [Bool.and_eq_true, decide_eq_true_eq] at hs
    omega
  have KS := hid (fun w hP => isSequence_c g 0 cap ps w (by omega) hP)
  rw [hs] at KS
  have HP := hid (own_pfl hO).o
  have HO := hid hO
  clear hO hs
  go_enter Tryz.func8, Tryz.ntmps8
  go_wp2_with fail
  with_reducible refine (KS.out _ HP.out).mono ?_; rintro e w1 ⟨rfl, hN⟩
  have HN := hid hN
  have HO1 := hid (own_new HO.out hN)
  clear hN
  go_wp2_with fail
  with_reducible refine (clone_c _ ps base _ HO1.out hl).mono ?_; rintro e w2 ⟨u, rfl, hO2, hN2⟩
  have HN2 := hid (HN.out.trans hN2)
  have HO2 := hid hO2
  clear hO2 hN2
  rcases own_forms HO2.out with ⟨rfl, hn⟩ | ⟨g2, c2, rfl⟩
  · go_wp2_with fail
    with_reducible refine (reverse0_c _).mono ?_; rintro e w3 ⟨rfl, rfl⟩
    go_wp2_with fail
    refine wp_loop_rounds 1 ?_; rw [rounds_succ]
    go_wp2
    refine bodyPost_ret (v := .tuple #[.slice none 0 0, .int .i64 0]) (by simp [results, Tryz.results8, go_sem]) rfl ?_
    exact ⟨_, rfl, (fun g' c' h => by cases h), .inl ⟨rfl, hn⟩, HN2.out⟩
  · have HQ := hid (own_puOwn HO2.out)
    have hc2 := own_cap HO2.out
    have hz := HN.out.size
    go_wp2_with fail
    with_reducible refine (reverse_c g2 c2 ps _ HQ.out hl).mono ?_; rintro e w3 ⟨rfl, hQ3, hG3⟩
    have HQ3 := hid hQ3
    have HN3 := hid (HN2.out.grown hG3 (by omega))
    have hz3 := hG3.size
    have hrl : ps.reverse.length = ps.length := List.length_reverse
    clear hQ3 hG3
    go_wp2_with fail
    go_loopw [5, 15] (fun _ i wr => ∃ (k : Nat) (qs : List PuI), k ≤ ps.length ∧ i = .int .i64 k ∧ Hid (Flp ps.reverse qs k) ∧ Hid (PuOwn wr g2 qs) ∧ Hid (New w wr) ∧ g2 < wr.heap.size) (fun _ i _ => ps.length - (intOf i).toNat)
    case atStart => exact ⟨0, ps.reverse, Nat.zero_le _, rfl, hid (Flp.start _), HQ3, HN3, by omega⟩
    case round =>
      obtain ⟨k, qs, hk, rfl, HF, HQk, HNk, hgw⟩ := hrel
      by_cases hlt : k < ps.length
      · have hltI : (k : Int) < (ps.length : Int) := by omega
        have hq := HF.out.1
        have hf := HQk.out.soft
        obtain ⟨_, _, b2⟩ := HQk.out.held k (by omega)
        simp only [Nat.zero_add] at b2
        have hset := hid (HQk.out.setBack (i := k) (by omega))
        obtain ⟨qb, hqb⟩ : ∃ q, (qs.getD k PuI.zero).back = q := ⟨_, rfl⟩
        rw [hqb] at b2
        have Hset : Hid (PuOwn (wr.setCell ⟨g2, k * 3 + 2, none⟩ (.bool (!qb))) g2 (qs.set k (qs.getD k PuI.zero).inv)) := by rw [← hqb]; exact hset
        clear hset hqb
        have hw2 : IntKind.i64.wrap ((k : Int) + 1) = (k : Int) + 1 := wrap_small (by omega) (by omega)
        go_wp2_with fail
        go_roundw
        case rel => exact ⟨k + 1, qs.set k (qs.getD k PuI.zero).inv, by omega, by simp, hid (HF.out.step (by omega)), Hset, hid (New.set (p := ⟨g2, k * 3 + 2, none⟩) HNk.out (by show w.heap.size ≤ g2; omega) _), by simpa using hgw⟩
        case measure => simp [intOf]; omega
      · have hltI : ¬ (k : Int) < (ps.length : Int) := by omega
        have hkn : k = ps.length := by omega
        subst hkn
        go_wp2
        refine bodyPost_ret (v := .tuple #[.slice (some ⟨g2, 0, none⟩) ps.length c2, .int .i64 0]) (by simp [results, Tryz.results8, go_sem]) rfl ?_
        have hF := HF.out
        rw [← hrl] at hF
        have e : qs = invL ps := hF.done
        refine ⟨_, rfl, fun g' c' h => ?_, .inr ⟨_, _, rfl⟩, HNk.out⟩
        injection h with h1 h2 h3
        injection h1 with h1
        injection h1 with h1
        subst h1 h3
        exact ⟨hc2.1, hgw, e ▸ HQk.out.held⟩
end Go.Proofs.YtmbjomjpnfnbkaaGreat

namespace Go.Proofs.YtmbjomjpnfnbkaaGreat
open Go.RowKit Flt

theorem indexPu0_c (f : Value) (w : World) :
    Calls Tryz.prog 79 #[.slice none 0 0, f] w fun e w' => e = .returned (.int .i64 (-1)) ∧ w = w' := by
  go_enter Tryz.func79, Tryz.ntmps79
  go_wp2_with fail
  refine wp_loop_rounds 1 ?_; rw [rounds_succ]
  go_wp2
  go_ret
  exact ⟨rfl, rfl⟩
theorem containsPu0_c (f : Value) (w : World) :
    Calls Tryz.prog 56 #[.slice none 0 0, f] w fun e w' => e = .returned (.bool false) ∧ w = w' := by
  go_enter Tryz.func56, Tryz.ntmps56
  go_wp2_with fail
  refine (indexPu0_c _ _).mono ?_; rintro e w' ⟨rfl, rfl⟩
  go_wp2
  go_ret
  exact ⟨rfl, rfl⟩
theorem arePu0_c (w : World) :
    Calls Tryz.prog 41 #[.slice none 0 0, .func (.func 42) #[] #[]] w fun e w' => e = .returned (.bool true) ∧ New w w' := by
  go_enter Tryz.func41, Tryz.ntmps41
  go_wp2_with fail
  refine (containsPu0_c _ _).mono ?_
  rintro e w' ⟨rfl, rfl⟩
  go_wp2
  go_ret
  exact ⟨rfl, (New.refl w).alloc _⟩
theorem isSequence0_c (w : World) :
    Calls Tryz.prog 17 #[.slice none 0 0] w fun e w' => e = .returned (.bool true) ∧ New w w' := by
  go_enter Tryz.func17, Tryz.ntmps17
  go_wp2_with fail
  refine (arePu0_c _).mono ?_; rintro e w1 ⟨rfl, hN⟩
  go_wp2
  go_ret
  exact ⟨rfl, hN⟩

set_option maxRecDepth 20000 in
theorem tables0_c (b : Nat) (w : World) (hA : At b 0 w) :
    Calls Tryz.prog 43 #[.pointer (some ⟨b, 0, none⟩), .slice none 0 0, .int .i64 0] w fun e w' => ∃ u, e = .returned u ∧ w'.ownsRow w.heap.size 29 4 u 1 (q4 (nz unitS)) ∧ Ext b 0 w w' := by
  have hlt := hA.lt
  have HA := hid hA
  clear hA
  go_enter Tryz.func43, Tryz.ntmps43
  go_wp2_with fail
  with_reducible refine (unit_c _).mono ?_; rintro e w1 ⟨rfl, hN⟩
  have hs1 := hN.size
  go_wp2_with fail
  refine wp_loop_rounds 1 ?_; rw [rounds_succ]
  go_wp2
  go_ret
  refine ⟨_, rfl, ?_, ((Ext.refl HA.out).new hN).alloc _⟩
  rw [nz_unit]
  exact own_lit1 _ #[.complex .f32 1065353216 0, .complex .f32 0 0, .complex .f32 0 0, .complex .f32 1065353216 0] _ 4 rfl (by omega) rfl

set_option maxHeartbeats 1000000 in
theorem table0_c (b : Nat) (w : World) (hA : At b 0 w) :
    Calls Tryz.prog 19 #[.pointer (some ⟨b, 0, none⟩), .slice none 0 0] w fun e w' => e = .returned (nz unitS).val ∧ Ext b 0 w w' := by
  have hlt := hA.lt
  have hne : w.heap.size ≠ b := by omega
  have K := hid (fun w hA => tables0_c b w hA)
  generalize nz unitS = R at *
  go_enter Tryz.func19, Tryz.ntmps19
  go_wp2_with fail
  have hE0 := (Ext.refl hA).alloc (.cells #[.complex .f32 0 0, .complex .f32 0 0, .complex .f32 0 0, .complex .f32 0 0] 29)
  refine (K.out _ (hA.alloc _)).mono ?_; rintro e w1 ⟨u, rfl, hO, hE⟩
  obtain ⟨gr, cr, rfl⟩ : ∃ gr cr, u = .slice (some ⟨gr, 0, none⟩) 1 cr := by
    rcases own_forms hO with ⟨_, h⟩ | h
    · omega
    · exact h
  obtain ⟨r0, r1, r2, r3⟩ := own_last (k := 0) (ys := []) hO rfl rfl
  have hgr := (hO.lt gr rfl).1
  simp at hgr
  have j0 := hE.cell_at (k := w.heap.size) (o := 0) (v := .complex .f32 0 0) (by go_simp) hne
  have j1 := hE.cell_at (k := w.heap.size) (o := 1) (v := .complex .f32 0 0) (by go_simp) hne
  have j2 := hE.cell_at (k := w.heap.size) (o := 2) (v := .complex .f32 0 0) (by go_simp) hne
  have j3 := hE.cell_at (k := w.heap.size) (o := 3) (v := .complex .f32 0 0) (by go_simp) hne
  have z0 := hE.frozen_at (k := w.heap.size) (o := 0) (by simp) (by go_simp) hne
  have z1 := hE.frozen_at (k := w.heap.size) (o := 1) (by simp) (by go_simp) hne
  have z2 := hE.frozen_at (k := w.heap.size) (o := 2) (by simp) (by go_simp) hne
  have z3 := hE.frozen_at (k := w.heap.size) (o := 3) (by simp) (by go_simp) hne
  clear hO
  simp only [Nat.zero_mul, Nat.zero_add] at r0 r1 r2 r3
  go_wp2
  refine bodyPost_ret (v := R.val) (by simp [results, Tryz.results19, go_sem, j0, j1, j2, j3]) rfl ⟨rfl, ?_⟩
  exact Ext.set4 (hE0.trans hE) (Nat.le_refl _) hne _ _ _ _

set_option maxHeartbeats 1000000 in
theorem tableOfSequence0_c (w : World) :
    Calls Tryz.prog 6 #[.slice none 0 0] w fun e w' => e = .returned (nz (tabQ [])).told ∧ New w w' := by
  have KS := hid isSequence0_c
  have hN0 := hid ((New.refl w).alloc (.cells #[.complex .f32 0 0, .complex .f32 0 0, .complex .f32 0 0, .complex .f32 0 0] 29))
  have e : nz (tabQ []) = nz unitS := rfl
  rw [e]
  clear e
  have K := hid (fun b w hA => table0_c b w hA)
  have hc := hid (show (nz unitS).c = 0 from rfl)
  generalize nz unitS = R at *
  obtain ⟨c, a0, a1, b0, b1, c0, c1, d0, d1⟩ := R
  have hc0 : c = 0 := hc.out
  subst hc0
  have T := hid (fun b w hA => toldT_c b ⟨0, a0, a1, b0, b1, c0, c1, d0, d1⟩ w hA)
  have eT : toldC (⟨0, a0, a1, b0, b1, c0, c1, d0, d1⟩ : C8) = ⟨0, a0, a1, b0, b1, c0, c1, d0, d1⟩ := if_pos rfl
  rw [eT] at T
  clear eT
  go_enter Tryz.func6, Tryz.ntmps6
  go_wp2_with fail
  with_reducible refine (KS.out _).mono ?_; rintro e w1 ⟨rfl, hN⟩
  have hs1 := hN.size
  simp at hs1
  have i0 := hid (hN.cell_at (k := w.heap.size) (o := 0) (v := .complex .f32 0 0) (by go_simp))
  have i1 := hid (hN.cell_at (k := w.heap.size) (o := 1) (v := .complex .f32 0 0) (by go_simp))
  have i2 := hid (hN.cell_at (k := w.heap.size) (o := 2) (v := .complex .f32 0 0) (by go_simp))
  have i3 := hid (hN.cell_at (k := w.heap.size) (o := 3) (v := .complex .f32 0 0) (by go_simp))
  have f0 := hid (hN.frozen_at (k := w.heap.size) (o := 0) (by simp) (by go_simp))
  have f1 := hid (hN.frozen_at (k := w.heap.size) (o := 1) (by simp) (by go_simp))
  have f2 := hid (hN.frozen_at (k := w.heap.size) (o := 2) (by simp) (by go_simp))
  have f3 := hid (hN.frozen_at (k := w.heap.size) (o := 3) (by simp) (by go_simp))
  go_wp2_with fail
  refine (K.out w1.heap.size _ (At.new _ _ _)).mono ?_; rintro e w2 ⟨rfl, hE⟩
  have hs2 := hE.size
  simp at hs2
  have j0 := hE.cell_at (cell_alloc i0.out _) (by omega)
  have j1 := hE.cell_at (cell_alloc i1.out _) (by omega)
  have j2 := hE.cell_at (cell_alloc i2.out _) (by omega)
  have j3 := hE.cell_at (cell_alloc i3.out _) (by omega)
  have g0 := hE.frozen_at (k := w.heap.size) (o := 0) (by simp; omega) (frozen_alloc (by omega) f0.out _) (by omega)
  have g1 := hE.frozen_at (k := w.heap.size) (o := 1) (by simp; omega) (frozen_alloc (by omega) f1.out _) (by omega)
  have g2 := hE.frozen_at (k := w.heap.size) (o := 2) (by simp; omega) (frozen_alloc (by omega) f2.out _) (by omega)
  have g3 := hE.frozen_at (k := w.heap.size) (o := 3) (by simp; omega) (frozen_alloc (by omega) f3.out _) (by omega)
  go_wp2_with fail
  refine (T.out w1.heap.size _ hE.at_).mono ?_; rintro e w3 ⟨rfl, hN3⟩
  have j0' := hN3.cell_at j0
  have j1' := hN3.cell_at j1
  have j2' := hN3.cell_at j2
  have j3' := hN3.cell_at j3
  have g0' := hN3.frozen_at (k := w.heap.size) (o := 0) (by omega) g0
  have g1' := hN3.frozen_at (k := w.heap.size) (o := 1) (by omega) g1
  have g2' := hN3.frozen_at (k := w.heap.size) (o := 2) (by omega) g2
  have g3' := hN3.frozen_at (k := w.heap.size) (o := 3) (by omega) g3
  go_wp2
  refine bodyPost_ret (v := .tuple #[T4 a0 a1 b0 b1 c0 c1 d0 d1, .int .i64 0]) (by simp [results, Tryz.results6, go_sem, j0', j1', j2', j3']) rfl ⟨rfl, ?_⟩
  exact New.set4 (((hN0.out.trans hN).ext hE (by omega)).trans hN3) (Nat.le_refl _) _ _ _ _

theorem l05Is0_c (w : World) :
    Calls Tryz.prog 44 #[.slice none 0 0] w fun e w' => e = .returned (.bool true) ∧ w = w' := by
  go_enter Tryz.func44, Tryz.ntmps44
  go_wp2_with fail
  refine wp_loop_rounds 1 ?_; rw [rounds_succ]
  go_wp2
  go_ret
  exact ⟨rfl, rfl⟩
set_option maxHeartbeats 1000000 in
set_option maxRecDepth 20000 in
theorem l05Table0_c (w : World) :
    Calls Tryz.prog 45 #[.slice none 0 0, .int .i64 0] w fun e w' => e = .returned (.tuple #[unitS.val, .int .i64 0]) ∧ New w w' := by
  have KU : Hid (∀ w, Calls Tryz.prog 64 #[] w fun e w' => e = .returned unitS.val ∧ New w w') := hid l03Unit_c
  generalize unitS = u at *
  obtain ⟨c, a0, a1, b0, b1, c0, c1, d0, d1⟩ := u
  go_enter Tryz.func45, Tryz.ntmps45
  go_wp2_with fail
  refine (KU.out _).mono ?_; rintro e w1 ⟨rfl, hN⟩
  obtain ⟨l1, l2, l3⟩ := hN.laws
  have hs1 := hN.size
  simp at hs1
  go_wp2_with fail
  refine wp_loop_rounds 1 ?_; rw [rounds_succ]
  go_wp2
  refine bodyPost_ret (v := .tuple #[T4 a0 a1 b0 b1 c0 c1 d0 d1, .int .i64 0]) (by simp [results, Tryz.results45, go_sem, l1, l2, l3]) rfl ⟨rfl, ?_⟩
  exact (New.set4 (((New.refl w).alloc _).trans hN) (Nat.le_refl _) _ _ _ _).alloc _
set_option maxHeartbeats 1000000 in
theorem l00TableOfSequence0_c (w : World) :
    Calls Tryz.prog 20 #[.slice none 0 0] w fun e w' => e = .returned (tabQ []).told ∧ New w w' := by
  have e : tabQ [] = unitS := rfl
  rw [e]
  clear e
  have K := hid l05Table0_c
  have hc := hid (show unitS.c = 0 from rfl)
  generalize unitS = R at *
  obtain ⟨c, a0, a1, b0, b1, c0, c1, d0, d1⟩ := R
  have hc0 : c = 0 := hc.out
  subst hc0
  go_enter Tryz.func20, Tryz.ntmps20
  go_wp2_with fail
  refine (l05Is0_c _).mono ?_; rintro e w' ⟨rfl, rfl⟩
  go_wp2_with fail
  refine (K.out _).mono ?_; rintro e w1 ⟨rfl, hN⟩
  obtain ⟨l1, l2, l3⟩ := hN.laws
  go_wp2
  refine bodyPost_ret (v := .tuple #[T4 a0 a1 b0 b1 c0 c1 d0 d1, .int .i64 0]) (by simp [results, Tryz.results20, go_sem, l1, l2, l3]) rfl ⟨rfl, ?_⟩
  exact New.set4 (((New.refl w).alloc _).trans hN) (Nat.le_refl _) _ _ _ _
set_option maxHeartbeats 1000000 in
theorem specTableOfSequence0_c (w : World) :
    Calls Tryz.prog 7 #[.slice none 0 0] w fun e w' => e = .returned (nz (tabQ [])).told ∧ New w w' := by
  have hc := hid (fun w => l00TableOfSequence0_c w)
  generalize tabQ [] = R at *
  obtain ⟨c, a0, a1, b0, b1, c0, c1, d0, d1⟩ := R
  go_enter Tryz.func7, Tryz.ntmps7
  go_wp2_with fail
  refine (hc.out _).mono ?_; rintro e w1 ⟨rfl, hN⟩
  obtain ⟨l1, l2, l3⟩ := hN.laws
  go_wp2_with fail
  refine (l00Turn_c a0 a1 b0 b1 c0 c1 d0 d1 _).mono ?_; rintro e w2 ⟨rfl, hN2⟩
  obtain ⟨k1, k2, k3⟩ := ((hN.alloc _).trans hN2).laws
  go_wp2
  refine bodyPost_ret (v := C8.told (nz (⟨c, a0, a1, b0, b1, c0, c1, d0, d1⟩ : C8))) (by simp [results, Tryz.results7, go_sem, l1, l2, k1, k2, k3, nz]) rfl ⟨rfl, ?_⟩
  exact New.set4 ((((New.refl w).alloc _).trans hN).alloc _ |>.trans hN2) (Nat.le_refl _) _ _ _ _

set_option maxRecDepth 20000 in
theorem clone0_c (w : World) :
    Calls Tryz.prog 22 #[.slice none 0 0] w fun e w' => e = .returned (.slice none 0 0) ∧ w = w' := by
  have ke := fun w a n c => Lib.run_eql_slice_nil (P := Tryz.prog) w 24 61 a n c 0 0 Tryz.underlying24
  go_enter Tryz.func22, Tryz.ntmps22
  go_wp2
  go_ret
  exact ⟨rfl, rfl⟩
set_option maxRecDepth 20000 in
theorem inverse0_c (w : World) :
    Calls Tryz.prog 8 #[.slice none 0 0] w fun e w' => e = .returned (.tuple #[.slice none 0 0, .int .i64 0]) ∧ New w w' := by
  go_enter Tryz.func8, Tryz.ntmps8
  go_wp2_with fail
  with_reducible refine (isSequence0_c _).mono ?_; rintro e w1 ⟨rfl, hN⟩
  go_wp2_with fail
  with_reducible refine (clone0_c _).mono ?_; rintro e w2 ⟨rfl, rfl⟩
  go_wp2_with fail
  with_reducible refine (reverse0_c _).mono ?_; rintro e w3 ⟨rfl, rfl⟩
  go_wp2_with fail
  refine wp_loop_rounds 1 ?_; rw [rounds_succ]
  go_wp2
  refine bodyPost_ret (v := .tuple #[.slice none 0 0, .int .i64 0]) (by simp [results, Tryz.results8, go_sem]) rfl ⟨rfl, hN⟩
end Go.Proofs.YtmbjomjpnfnbkaaGreat
