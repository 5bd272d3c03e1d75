/-
  Walks of the statement's own functions on lists of pulses.
-/
import Derived.Test.YtmbjomjpnfnbkaaP16
import Derived.Test.YtmbjomjpnfnbkaaT1
import Derived.Test.YtmbjomjpnfnbkaaK2
set_option linter.unusedSimpArgs false
set_option linter.unusedVariables false
namespace Go.Proofs.Ytmbjomjpnfnbkaa
open Go.RowKit Flt

theorem toPulse_c (p : PuI) (w : World) :
    Calls Try.prog 102 #[p.val] w fun e w' => e = .returned p.val ∧ New w w' := by
  go_enter Try.func102, Try.ntmps102
  go_wp2
  refine bodyPost_ret (v := p.val) (by simp [results, Try.results102, go_sem]) rfl ⟨rfl, ?_⟩
  repeat (with_reducible first | exact New.refl _ | apply New.drew | apply New.drewN | apply New.alloc)

theorem infoP : (Try.prog.info? 115).map (fun i => (i.zero, i.size, i.bytes)) = some (some (.agg #[.int .i64 0, .int .i64 0, .bool false]), 3, 24) := by kernel_rfl
def pf (ps : List PuI) : List Value := ps.flatMap fun p => [.int .i64 p.a, .int .i64 p.k, .bool p.back]
theorem pf_length (ps : List PuI) : (pf ps).length = ps.length * 3 := by
  induction ps with
  | nil => rfl
  | cons v l ih => have : pf (v :: l) = .int .i64 v.a :: .int .i64 v.k :: .bool v.back :: pf l := rfl
                   rw [this]; simp [ih]; omega
theorem pf_get : ∀ (l : List PuI) (k : Nat), k < l.length → (pf l)[k * 3]? = some (.int .i64 (l.getD k PuI.zero).a) ∧ (pf l)[k * 3 + 1]? = some (.int .i64 (l.getD k PuI.zero).k) ∧ (pf l)[k * 3 + 2]? = some (.bool (l.getD k PuI.zero).back)
  | [], k, h => absurd h (Nat.not_lt_zero _)
  | v :: l, 0, h => by simp [pf]
  | v :: l, k + 1, h => by
    have ih := pf_get l k (by simpa using h)
    have e : pf (v :: l) = .int .i64 v.a :: .int .i64 v.k :: .bool v.back :: pf l := rfl
    rw [e, show (k + 1) * 3 = k * 3 + 1 + 1 + 1 by omega]
    simpa using ih
/-- The first k pulses written. -/
def pw (xs : List Value) (ps : List PuI) (k : Nat) : List Value := pf (ps.take k) ++ xs.drop (k * 3)
theorem drop3 {xs : List Value} {k : Nat} (h : k * 3 + 2 < xs.length) : ∃ a b c, xs.drop (k * 3) = a :: b :: c :: xs.drop ((k + 1) * 3) := by
  refine ⟨xs[k * 3], xs[k * 3 + 1], xs[k * 3 + 2], ?_⟩
  rw [List.drop_eq_getElem_cons (by omega), List.drop_eq_getElem_cons (by omega), List.drop_eq_getElem_cons (by omega), show (k + 1) * 3 = k * 3 + 1 + 1 + 1 by omega]
theorem pw_set {xs : List Value} {ps : List PuI} {k : Nat} (hx : xs.length = ps.length * 3) (h : k < ps.length) :
    (((pw xs ps k).set (k * 3) (.int .i64 (ps.getD k PuI.zero).a)).set (k * 3 + 1) (.int .i64 (ps.getD k PuI.zero).k)).set (k * 3 + 2) (.bool (ps.getD k PuI.zero).back) = pw xs ps (k + 1) := by
  have hl : (pf (ps.take k)).length = k * 3 := by rw [pf_length, List.length_take]; congr 1; omega
  obtain ⟨a, b, c, hd⟩ := drop3 (xs := xs) (k := k) (by omega)
  have ht : pf (ps.take (k + 1)) = pf (ps.take k) ++ [.int .i64 (ps.getD k PuI.zero).a, .int .i64 (ps.getD k PuI.zero).k, .bool (ps.getD k PuI.zero).back] := by
    rw [List.take_add_one]
    have : ps[k]? = some (ps.getD k PuI.zero) := by simp [List.getD, h]
    rw [this]; simp [pf]
  unfold pw
  rw [hd, ht, List.append_assoc]
  rw [List.set_append_right _ _ (by omega), List.set_append_right _ _ (by omega), List.set_append_right _ _ (by omega), hl]
  simp
theorem pw_length {xs : List Value} {ps : List PuI} {k : Nat} (hx : xs.length = ps.length * 3) (h : k ≤ ps.length) : (pw xs ps k).length = ps.length * 3 := by
  unfold pw; rw [List.length_append, pf_length, List.length_take, List.length_drop]; omega
theorem pw_end {xs : List Value} {ps : List PuI} (hx : xs.length = ps.length * 3) : pw xs ps ps.length = pf ps := by
  unfold pw; rw [List.take_of_length_le (Nat.le_refl _), List.drop_eq_nil_of_le (by omega), List.append_nil]
theorem own_pulses {w : World} {base e g cap : Nat} {ps : List PuI} (h : w.ownsRow base e 3 (.slice (some ⟨g, 0, none⟩) ps.length cap) ps.length (pf ps)) : PuHeld w g ps := fun j hj => by
  obtain ⟨a, b, c⟩ := pf_get ps j hj
  exact ⟨(h.cellAt _ (by omega)).trans a, (h.cellAt _ (by omega)).trans b, (h.cellAt _ (by omega)).trans c⟩
theorem set3_own {w : World} {base e g n cap : Nat} {xs : List Value} (h : w.ownsRow base e 3 (.slice (some ⟨g, 0, none⟩) n cap) n xs) (k : Nat) (v0 v1 v2 : Value) :
    (((w.setCell ⟨g, k * 3, none⟩ v0).setCell ⟨g, k * 3 + 1, none⟩ v1).setCell ⟨g, k * 3 + 2, none⟩ v2).ownsRow base e 3 (.slice (some ⟨g, 0, none⟩) n cap) n (((xs.set (k * 3) v0).set (k * 3 + 1) v1).set (k * 3 + 2) v2) :=
  (((h.stored _ v0).1.stored _ v1).1.stored _ v2).1

set_option maxHeartbeats 2000000 in
set_option maxRecDepth 4000 in
theorem toPulses_c (B o : Nat) (ps : List PuI) (cp : Nat) (w : World) (hlen : ps.length ≤ 1048576)
    (hc : ∀ j, j < ps.length → w.cell? ⟨B, o + j * 3, none⟩ = some (.int .i64 (ps.getD j PuI.zero).a) ∧ w.cell? ⟨B, o + j * 3 + 1, none⟩ = some (.int .i64 (ps.getD j PuI.zero).k) ∧ w.cell? ⟨B, o + j * 3 + 2, none⟩ = some (.bool (ps.getD j PuI.zero).back)) :
    Calls Try.prog 50 #[(.slice (some ⟨B, o, none⟩) ps.length cp)] w fun e w' => e = .returned (.slice (some ⟨w.heap.size, 0, none⟩) ps.length ps.length) ∧ PuHeld w' w.heap.size ps ∧ New w w' ∧ w.heap.size < w'.heap.size := by
  have Hc := hid hc
  obtain ⟨i0, hi, hz0, hz1, hz2⟩ := info_parts infoP
  have hmk : ∀ w : World, (Instr.makeSlice 71 (.int .i64 (ps.length : Int)) (.int .i64 (ps.length : Int))).run Try.prog w = .ok (.slice (some ⟨w.heap.size, 0, none⟩) ps.length ps.length) (w.alloc (.cells (madeCells #[.int .i64 0, .int .i64 0, .bool false] (ps.length * 3)) 115)) := fun w => by
    have := run_make (P := Try.prog) w 71 115 i0 _ Try.underlying71 hi hz0 .i64 .i64 ps.length ps.length (by omega) (Int.le_refl _) (by rw [hz2]; omega) (by omega)
    rw [hz1] at this
    simp only [Int.toNat_natCast] at this
    exact this
  have hsz : (madeCells #[Value.int .i64 0, .int .i64 0, .bool false] (ps.length * 3)).size = ps.length * 3 := size_madeCells _ _
  clear hc hi hz0 hz1 hz2
  generalize madeCells #[Value.int .i64 0, .int .i64 0, .bool false] (ps.length * 3) = mc at *
  have hx : mc.toList.length = ps.length * 3 := by simpa using hsz
  have HX := hid hx
  have HSZ := hid hsz
  clear hx hsz
  generalize hn : ps.length = n at *
  have HN := hid hn
  clear hn
  go_enter Try.func50, Try.ntmps50
  go_wp2_with fail
  go_loopw [4] (fun i wr => ∃ k : Nat, k ≤ n ∧ i = .int .i64 k ∧ Hid (wr.ownsRow w.heap.size 115 3 (.slice (some ⟨w.heap.size, 0, none⟩) n n) n (pw mc.toList ps k)) ∧ New w wr) (fun i _ => n - (intOf i).toNat)
  case atStart => exact ⟨0, Nat.zero_le _, rfl, hid (World.ownsRow_lit _ _ _ (Nat.le_refl _) (by unfold maxLen; omega) HSZ.out), (New.refl w).alloc _⟩
  case round =>
    obtain ⟨k, hk, rfl, hR, hN⟩ := hrel
    by_cases hlt : k < n
    · obtain ⟨c0, c1, c2⟩ := Hc.out k hlt
      have d0 := hN.cell_at c0
      have d1 := hN.cell_at c1
      have d2 := hN.cell_at c2
      have hP := hid (pw_set (xs := mc.toList) (ps := ps) (k := k) (by rw [HX.out, HN.out]) (by rw [HN.out]; exact hlt))
      obtain ⟨v0, b0⟩ := own_cell hR.out (j := k * 3) (by omega)
      obtain ⟨v1, b1⟩ := own_cell hR.out (j := k * 3 + 1) (by omega)
      obtain ⟨v2, b2⟩ := own_cell hR.out (j := k * 3 + 2) (by omega)
      have z0 := hR.out.frozenAt (k * 3)
      have z1 := hR.out.frozenAt (k * 3 + 1)
      have z2 := hR.out.frozenAt (k * 3 + 2)
      have hlr := cell_lt b0
      have hkn : ((k : Int) < (n : Int)) := by omega
      clear c0 c1 c2
      generalize ps.getD k PuI.zero = p at *
      go_wp2_with fail
      with_reducible refine (toPulse_c p _).mono ?_; rintro e w1 ⟨rfl, hN1⟩
      have b0' := hN1.cell_at b0
      have b1' := hN1.cell_at b1
      have b2' := hN1.cell_at b2
      have z0' := hN1.frozen_at hlr z0
      have z1' := hN1.frozen_at hlr z1
      have z2' := hN1.frozen_at hlr z2
      have hO1 := hid (own_new hR.out hN1)
      go_wp2_with fail
      go_roundw
      case rel =>
        refine ⟨k + 1, by omega, by go_num, hid ?_, ?_⟩
        · rw [← hP.out]; exact set3_own hO1.out k _ _ _
        · exact New.set (p := ⟨w.heap.size, k * 3 + 2, none⟩) (New.set (p := ⟨w.heap.size, k * 3 + 1, none⟩) (New.set (p := ⟨w.heap.size, k * 3, none⟩) (hN.trans hN1) (Nat.le_refl _) _) (Nat.le_refl _) _) (Nat.le_refl _) _
      case measure => simp [intOf]; omega
    · have hk' : k = n := by omega
      subst hk'
      have hkn : ¬ ((k : Int) < (k : Int)) := by omega
      go_wp2
      go_ret
      refine ⟨rfl, ?_, hN, (hR.out.lt _ rfl).2⟩
      have h1 := hR.out
      rw [← HN.out, pw_end (by rw [HX.out, HN.out])] at h1
      exact own_pulses h1
end Go.Proofs.Ytmbjomjpnfnbkaa
