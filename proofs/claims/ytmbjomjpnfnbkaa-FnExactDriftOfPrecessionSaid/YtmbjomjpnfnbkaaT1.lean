/-
  Walks of the statement's own functions on lists of numbers.
-/
import Derived.Test.YtmbjomjpnfnbkaaE1
import Derived.Test.YtmbjomjpnfnbkaaK0
import Derived.Deep.OwnRows
set_option linter.unusedSimpArgs false
set_option linter.unusedVariables false
namespace Go.Proofs.Ytmbjomjpnfnbkaa
open Go.RowKit Flt

theorem new_cell_any {w w' : World} (h : New w w') {a : Addr} {v : Value} (hv : w.cell? a = some v) : w'.cell? a = some v := by
  rw [h.cell (World.block_lt_of_cell? w a hv)]; exact hv

set_option maxHeartbeats 2000000 in
set_option maxRecDepth 4000 in
theorem toFloats_c (a : Addr) (xs : List Nat) (cp : Nat) (w : World) (hlen : xs.length ≤ 1048576)
    (hc : ∀ j, j < xs.length → w.cell? (a.add j) = some (.float .f32 (xs.getD j 0))) :
    Calls Try.prog 24 #[(.slice (some a) xs.length cp)] w fun e w' => e = .returned (.slice (some ⟨w.heap.size, 0, none⟩) xs.length xs.length) ∧ w'.rowIs w.heap.size 34 xs.length (fun j => .float .f32 (xs.getD j 0)) ∧ New w w' := by
  have Hc := hid hc
  have hmk := fun w => run_make_row' (P := Try.prog) 42 34 (.float .f32 0) 4 Try.underlying42 (by kernel_rfl) rfl .i64 .i64 xs.length (by omega) (by omega) w
  clear hc
  go_enter Try.func24, Try.ntmps24
  go_wp2_with fail
  go_loopw [4] (fun i wr => ∃ k : Nat, k ≤ xs.length ∧ i = .int .i64 k ∧ Hid (wr.rowIs w.heap.size 34 xs.length (fun j => .float .f32 (if j < k then xs.getD j 0 else 0))) ∧ New w wr) (fun i _ => xs.length - (intOf i).toNat)
  case atStart => exact ⟨0, Nat.zero_le _, rfl, hid ((World.rowIs_made w _ _ _).congr (fun i hi => by simp)), (New.refl w).alloc _⟩
  case round =>
    obtain ⟨k, hk, rfl, hR, hN⟩ := hrel
    by_cases hlt : k < xs.length
    · have hcell := new_cell_any hN (Hc.out k hlt)
      have hrow := hR.out.cell hlt
      have hfr := hR.out.frozen k
      have hkn : ((k : Int) < (xs.length : Int)) := by omega
      go_wp2_with fail
      go_roundw
      case rel =>
        refine ⟨k + 1, by omega, by go_num, hid ((hR.out.set k _).congr (fun j hj => ?_)), New.set (p := ⟨w.heap.size, k, none⟩) hN (Nat.le_refl _) _⟩
        by_cases e : j = k
        · subst e; simp [hlt]
        · have e2 : (j < k + 1) = (j < k) := by apply propext; omega
          simp only [if_neg e, e2]
      case measure => simp [intOf]; omega
    · have hk' : k = xs.length := by omega
      subst hk'
      have hkn : ¬ ((xs.length : Int) < (xs.length : Int)) := by omega
      go_wp2
      go_ret
      exact ⟨rfl, hR.out.congr (fun j hj => by simp [hj]), hN⟩

set_option maxHeartbeats 1000000 in
set_option maxRecDepth 4000 in
theorem toFloats0_c (w : World) :
    Calls Try.prog 24 #[.slice none 0 0] w fun e w' => e = .returned (.slice (some ⟨w.heap.size, 0, none⟩) 0 0) ∧ w'.rowIs w.heap.size 34 0 (fun j => .float .f32 (([] : List Nat).getD j 0)) ∧ New w w' := by
  have hmk : ∀ w : World, (Instr.makeSlice 42 (.int .i64 0) (.int .i64 0)).run Try.prog w = .ok (.slice (some ⟨w.heap.size, 0, none⟩) 0 0) (w.alloc (.cells (madeCells #[.float .f32 0] 0) 34)) := fun w => run_make_row' (P := Try.prog) 42 34 (.float .f32 0) 4 Try.underlying42 (by kernel_rfl) rfl .i64 .i64 0 (by omega) (by omega) w
  go_enter Try.func24, Try.ntmps24
  go_wp2_with fail
  refine wp_loop_rounds 1 ?_; rw [rounds_succ]
  go_wp2
  go_ret
  exact ⟨rfl, (World.rowIs_made w _ 0 _).congr (fun i hi => absurd hi (by omega)), (New.refl w).alloc _⟩
end Go.Proofs.Ytmbjomjpnfnbkaa
