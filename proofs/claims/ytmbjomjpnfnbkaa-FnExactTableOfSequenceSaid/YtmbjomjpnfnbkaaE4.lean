/-
  Walk of the statement on TableOfSequence.
-/
import Derived.Test.YtmbjomjpnfnbkaaT7
import Derived.Test.YtmbjomjpnfnbkaaA29
import Derived.Test.YtmbjomjpnfnbkaaE1
set_option linter.unusedSimpArgs false
set_option linter.unusedVariables false
namespace Go.Proofs.Ytmbjomjpnfnbkaa
open Go.RowKit Flt

theorem tabL_lw : ∀ (ps : List PuN) (t : C8) (j : Int), (∀ p ∈ ps, p.ok) → Lw8 j t → 0 ≤ j → j + 2 * (ps.length : Int) ≤ 125 → Lw8 (j + 2 * (ps.length : Int)) (tabL ps t)
  | [], t, j, _, h, _, _ => by
    have e : j + 2 * (([] : List PuN).length : Int) = j := by simp
    rw [e]; exact h
  | p :: ps, t, j, hp, h, h0, h1 => by
    simp only [List.length_cons] at h1
    have h2 := product_lw (pul_lw (hp p (List.mem_cons_self ..))) h h0 (by omega)
    have := tabL_lw ps _ (j + 2) (fun q hq => hp q (List.mem_cons_of_mem _ hq)) h2 (by omega) (by omega)
    have e : j + 2 + 2 * (ps.length : Int) = j + 2 * ((ps.length + 1 : Nat) : Int) := by omega
    rw [e] at this
    exact this
theorem nm_zn {x : Nat} (h : fin S x = true) : Nm (zn x) := ⟨zn_fin h, zn_zn x⟩
theorem nm_0 : Nm 0 := ⟨fin0, by unfold Flt.zn; split <;> rfl⟩
theorem tabQ_fw (ps : List PuI) : Fw8 (tabQ ps) := by
  unfold tabQ
  split
  · rename_i h
    unfold seqB at h
    simp only [Bool.and_eq_true, decide_eq_true_eq] at h
    refine (tabL_lw (ps.map PuI.n) unitS 0 (fun p hp => ?_) unit_lw (by decide) (by simp; omega)).fw
    obtain ⟨q, hq, rfl⟩ := List.mem_map.1 hp
    exact (PuI.ok_n (List.all_eq_true.1 h.1 q hq)).1
  · exact (Lw8.bad 0 1).fw
theorem tabQ_nm (ps : List PuI) : Nm8 (nz (tabQ ps)).a0 (nz (tabQ ps)).a1 (nz (tabQ ps)).b0 (nz (tabQ ps)).b1 (nz (tabQ ps)).c0 (nz (tabQ ps)).c1 (nz (tabQ ps)).d0 (nz (tabQ ps)).d1 :=
  have h := tabQ_fw ps
  ⟨nm_zn h.a0.2, nm_zn h.a1.2, nm_zn h.b0.2, nm_zn h.b1.2, nm_zn h.c0.2, nm_zn h.c1.2, nm_zn h.d0.2, nm_zn h.d1.2⟩

/-- A list of pulses as an argument. -/
def HeldP (w : World) (v : Value) (ps : List PuI) : Prop := (∃ ao cp, v = .slice ao 0 cp ∧ ps = []) ∨ ∃ (B o cp : Nat), v = .slice (some ⟨B, o, none⟩) ps.length cp ∧
  ∀ j, j < ps.length → w.cell? ⟨B, o + j * 3, none⟩ = some (.int .i64 (ps.getD j PuI.zero).a) ∧ w.cell? ⟨B, o + j * 3 + 1, none⟩ = some (.int .i64 (ps.getD j PuI.zero).k) ∧ w.cell? ⟨B, o + j * 3 + 2, none⟩ = some (.bool (ps.getD j PuI.zero).back)
theorem HeldP.new {w w' : World} {v : Value} {ps : List PuI} (h : HeldP w v ps) (hN : New w w') : HeldP w' v ps := by
  rcases h with h | ⟨B, o, cp, e, hc⟩
  · exact .inl h
  · exact .inr ⟨B, o, cp, e, fun j hj => ⟨hN.cell_at (hc j hj).1, hN.cell_at (hc j hj).2.1, hN.cell_at (hc j hj).2.2⟩⟩
theorem HeldP.form {w : World} {v : Value} {ps : List PuI} (h : HeldP w v ps) : ∃ ao cp, v = .slice ao ps.length cp := by
  rcases h with ⟨ao, cp, e, rfl⟩ | ⟨B, o, cp, e, _⟩
  · exact ⟨ao, cp, e⟩
  · exact ⟨_, cp, e⟩

theorem toPulsesH (ps : List PuI) (v : Value) (w : World) (hlen : ps.length ≤ 1048576) (h : HeldP w v ps) :
    Calls Try.prog 50 #[v] w fun e w' => e = .returned (.slice (some ⟨w.heap.size, 0, none⟩) ps.length ps.length) ∧ PuHeld w' w.heap.size ps ∧ New w w' ∧ w.heap.size < w'.heap.size := by
  rcases h with ⟨ao, cp, rfl, rfl⟩ | ⟨B, o, cp, rfl, hc⟩
  · refine (toPulses0_c ao cp w).mono ?_
    rintro e w' ⟨rfl, hN, hs⟩
    exact ⟨rfl, fun j hj => absurd hj (Nat.not_lt_zero _), hN, hs⟩
  · exact toPulses_c B o ps cp w hlen hc

set_option maxHeartbeats 2000000 in
theorem law_s (ps : List PuI) (v : Value) (w : World) (hl : ps.length ≤ 1048576) (h : HeldP w v ps) :
    Calls Try.prog 13 #[v] w fun e w' => e = .returned (.bool true) ∧ New w w' := by
  have HP := hid h
  have T := hid (fun w h => toPulsesH ps v w hl h)
  have c1 := hid (fun g w hP => specTableOfSequence_c g ps.length ps w hP hl)
  have c2 := hid (fun g w hP hg => tableOfSequence_c g ps.length ps w hP hl hg)
  have hn := tabQ_nm ps
  obtain ⟨ao, cp, hv⟩ := h.form
  have HV := hid hv
  have Z := hid (fun w => szPulseS_c ao ps.length cp w hl)
  rw [← HV.out] at Z
  have hp : ¬ ((1048576 : Int) - (ps.length : Int) < 0) := by omega
  have E := hid (fun g g' w hP hP' => eqPulseS_c g g' ps.length ps.length ps w hl hP hP')
  clear h hv
  generalize nz (tabQ ps) = R at *
  obtain ⟨c, a0, a1, b0, b1, c0, c1', d0, d1⟩ := R
  have c3 := hid (fun w => eqTurn_c a0 a1 b0 b1 c0 c1' d0 d1 w hn)
  clear hn
  go_enter Try.func13, Try.ntmps13
  go_wp2_with fail
  with_reducible refine (Z.out _).mono ?_; rintro e w' ⟨rfl, rfl⟩
  go_wp2_with fail
  with_reducible refine (T.out _ HP.out).mono ?_; rintro e w1 ⟨rfl, hP1, hN1, hL1⟩
  have HP1 := hid hP1
  clear hP1
  go_wp2_with fail
  with_reducible refine (c1.out _ _ HP1.out).mono ?_; rintro e w2 ⟨rfl, hN2⟩
  have hN12 := hN1.trans hN2
  have HQ := hid (HP.out.new hN12)
  have s1 := hN1.size
  have s2 := hN2.size
  go_wp2_with fail
  with_reducible refine (T.out _ (HQ.out.new ((New.refl _).alloc _))).mono ?_; rintro e w3 ⟨rfl, hP3, hN3, hL3⟩
  have HP3 := hid hP3
  clear hP3
  have s3 := hN3.size
  simp at s3 hL3
  obtain ⟨l1, l2, l3⟩ := hN3.laws
  go_wp2_with fail
  have HP3' := hid (show PuHeld w3 (w2.heap.size + 1) ps by simpa using HP3.out)
  with_reducible refine (c2.out _ _ HP3'.out (by omega)).mono ?_; rintro e w4 ⟨rfl, hN4⟩
  obtain ⟨i1, i2, i3⟩ := (hN3.trans hN4).laws
  have s4 := hN4.size
  go_wp2_with fail
  with_reducible refine (c3.out _).mono ?_; rintro e w5 ⟨rfl, hN5⟩
  have hN25 := hid (((((New.refl w2).alloc (.cells #[.complex .f32 a0 a1, .complex .f32 b0 b1, .complex .f32 c0 c1', .complex .f32 d0 d1] 26)).trans (hN3.trans hN4)).alloc (.cells #[.complex .f32 a0 a1, .complex .f32 b0 b1, .complex .f32 c0 c1', .complex .f32 d0 d1] 26)).trans hN5)
  have hN35 := hid ((hN4.alloc (.cells #[.complex .f32 a0 a1, .complex .f32 b0 b1, .complex .f32 c0 c1', .complex .f32 d0 d1] 26)).trans hN5)
  clear l1 l2 l3 i1 i2 i3
  go_wp2_with fail
  with_reducible refine (T.out _ (HQ.out.new hN25.out)).mono ?_; rintro e w6 ⟨rfl, hP6, hN6, hL6⟩
  have HP6 := hid hP6
  clear hP6
  go_wp2_with fail
  with_reducible refine (E.out _ _ _ (HP3'.out.new (hN35.out.trans hN6)) HP6.out).mono ?_; rintro e w7 ⟨rfl, hN7⟩
  go_wp2
  go_ret
  exact ⟨rfl, ((hN12.trans hN25.out).trans hN6).trans hN7⟩

theorem law_big (ao : Option Addr) (n cp : Nat) (w : World) (hn : 1048576 < n) (hm : n ≤ 9223372036854775807) :
    Calls Try.prog 13 #[.slice ao n cp] w fun e w' => e = .returned (.bool true) ∧ New w w' := by
  have Z := hid (fun w => szPulseSbig_c ao n cp w hn hm)
  go_enter Try.func13, Try.ntmps13
  go_wp2_with fail
  with_reducible refine (Z.out _).mono ?_; rintro e w' ⟨rfl, rfl⟩
  go_wp2
  go_ret
  exact ⟨rfl, New.refl w⟩
end Go.Proofs.Ytmbjomjpnfnbkaa
