/-
  Walks of the statement's own functions on lists of pulses.
-/
import Derived.Test.YtmbjomjpnfnbkaaT6
set_option linter.unusedSimpArgs false
set_option linter.unusedVariables false
namespace Go.Proofs.Ytmbjomjpnfnbkaa
open Go.RowKit Flt

set_option maxHeartbeats 1000000 in
set_option maxRecDepth 4000 in
theorem toPulses0_c (ao : Option Addr) (cp : Nat) (w : World) :
    Calls Try.prog 50 #[.slice ao 0 cp] w fun e w' => e = .returned (.slice (some ⟨w.heap.size, 0, none⟩) 0 0) ∧ New w w' ∧ w.heap.size < w'.heap.size := by
  obtain ⟨i0, hi, hz0, hz1, hz2⟩ := info_parts infoP
  have hmk : ∀ w : World, (Instr.makeSlice 71 (.int .i64 0) (.int .i64 0)).run Try.prog w = .ok (.slice (some ⟨w.heap.size, 0, none⟩) 0 0) (w.alloc (.cells (madeCells #[.int .i64 0, .int .i64 0, .bool false] (0 * 3)) 115)) := fun w => by
    have := run_make (P := Try.prog) w 71 115 i0 _ Try.underlying71 hi hz0 .i64 .i64 0 0 (by omega) (Int.le_refl _) (by rw [hz2]; decide) (by omega)
    rw [hz1] at this
    exact this
  clear hi hz0 hz1 hz2
  generalize madeCells #[Value.int .i64 0, .int .i64 0, .bool false] (0 * 3) = mc at *
  go_enter Try.func50, Try.ntmps50
  go_wp2_with fail
  refine wp_loop_rounds 1 ?_; rw [rounds_succ]
  go_wp2
  go_ret
  exact ⟨rfl, (New.refl w).alloc _, by simp⟩

theorem szPulseS_c (ao : Option Addr) (n cp : Nat) (w : World) (hn : n ≤ 1048576) :
    Calls Try.prog 48 #[.slice ao n cp, .int .i64 1048576] w fun e w' => e = .returned (.int .i64 (1048576 - (n : Int))) ∧ w = w' := by
  have hw : IntKind.i64.wrap (1048576 - (n : Int)) = 1048576 - (n : Int) := wrap_small (by omega) (by omega)
  have hp : ¬ (1048576 - (n : Int) < 0) := by omega
  go_enter Try.func48, Try.ntmps48
  go_wp2
  go_ret
  exact ⟨rfl, rfl⟩
theorem szPulseSbig_c (ao : Option Addr) (n cp : Nat) (w : World) (hn : 1048576 < n) (hm : n ≤ 9223372036854775807) :
    Calls Try.prog 48 #[.slice ao n cp, .int .i64 1048576] w fun e w' => e = .returned (.int .i64 (-1)) ∧ w = w' := by
  have hw : IntKind.i64.wrap (1048576 - (n : Int)) = 1048576 - (n : Int) := wrap_small (by omega) (by omega)
  have hp : (1048576 - (n : Int) < 0) := by omega
  go_enter Try.func48, Try.ntmps48
  go_wp2
  go_ret
  exact ⟨rfl, rfl⟩

theorem eqPulse_c (p : PuI) (w : World) :
    Calls Try.prog 105 #[p.val, p.val] w fun e w' => e = .returned (.bool true) ∧ New w w' := by
  go_enter Try.func105, Try.ntmps105
  go_wp2
  go_ret
  refine ⟨rfl, ?_⟩
  repeat (with_reducible first | exact New.refl _ | apply New.drew | apply New.drewN | apply New.alloc)

set_option maxHeartbeats 2000000 in
set_option maxRecDepth 5000 in
theorem eqPulseS_c (g g' c c' : Nat) (ps : List PuI) (w : World) (hl : ps.length ≤ 1048576) (hP : PuHeld w g ps) (hP' : PuHeld w g' ps) :
    Calls Try.prog 52 #[.slice (some ⟨g, 0, none⟩) ps.length c, .slice (some ⟨g', 0, none⟩) ps.length c'] w fun e w' => e = .returned (.bool true) ∧ New w w' := by
  have HP := hid hP
  have HP' := hid hP'
  clear hP hP'
  generalize hn : ps.length = n at *
  have Hn := hid hn
  clear hn
  go_enter Try.func52, Try.ntmps52
  go_wp2_with fail
  go_loopw [5] (fun i wr => ∃ k : Nat, k ≤ n ∧ i = .int .i64 k ∧ New w wr) (fun i _ => n - (intOf i).toNat)
  case atStart => exact ⟨0, Nat.zero_le _, rfl, New.refl w⟩
  case round =>
    obtain ⟨k, hk, rfl, hN⟩ := hrel
    by_cases hlt : k < n
    · obtain ⟨c0, c1, c2⟩ := (HP.out.new hN) k (by rw [Hn.out]; exact hlt)
      obtain ⟨b0, b1, b2⟩ := (HP'.out.new hN) k (by rw [Hn.out]; exact hlt)
      have hkn : ((k : Int) < (n : Int)) := by omega
      generalize ps.getD k PuI.zero = p at *
      have K := hid (eqPulse_c p)
      go_wp2_with fail
      go_region_held3 (fun w' => w'.cell? ⟨g, k * 3, none⟩ = some (.int .i64 p.a) ∧ w'.cell? ⟨g, k * 3 + 1, none⟩ = some (.int .i64 p.k) ∧ w'.cell? ⟨g, k * 3 + 2, none⟩ = some (.bool p.back) ∧ w'.cell? ⟨g', k * 3, none⟩ = some (.int .i64 p.a) ∧ w'.cell? ⟨g', k * 3 + 1, none⟩ = some (.int .i64 p.k) ∧ w'.cell? ⟨g', k * 3 + 2, none⟩ = some (.bool p.back)) (((repeat' apply And.intro) <;> (first | (with_reducible assumption) | (go_simp; done))))
        (first | (go_at_call 105; go_split_ands; (with_reducible refine (K.out _).mono ?_); rintro e w1 ⟨rfl, hN1⟩; have d0 := hN1.cell_at (k := g) (o := k * 3) (v := .int .i64 p.a) (by with_reducible assumption); have d1 := hN1.cell_at (k := g) (o := k * 3 + 1) (v := .int .i64 p.k) (by with_reducible assumption); have d2 := hN1.cell_at (k := g) (o := k * 3 + 2) (v := .bool p.back) (by with_reducible assumption); have a0 := hN1.cell_at (k := g') (o := k * 3) (v := .int .i64 p.a) (by with_reducible assumption); have a1 := hN1.cell_at (k := g') (o := k * 3 + 1) (v := .int .i64 p.k) (by with_reducible assumption); have a2 := hN1.cell_at (k := g') (o := k * 3 + 2) (v := .bool p.back) (by with_reducible assumption)))
      rename_i hh; clear hh
      go_wp2_with fail
      go_roundw
      case rel => exact ⟨k + 1, by omega, by go_num, New.trans hN.drew hN1⟩
      case measure => simp [intOf]; omega
    · have hk' : k = n := by omega
      subst hk'
      have hkn : ¬ ((k : Int) < (k : Int)) := by omega
      go_wp2
      go_ret
      exact ⟨rfl, hN⟩
end Go.Proofs.Ytmbjomjpnfnbkaa
