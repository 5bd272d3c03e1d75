/-
  What a call that makes memory alone leaves of the memory that stood, as rules for the walk.
-/
import Derived.Test.YtmbjomjpnfnbkaaGreatA8
set_option linter.unusedSimpArgs false
set_option linter.unusedVariables false
namespace Go.Proofs.YtmbjomjpnfnbkaaGreat
open Go.RowKit Flt

theorem New.laws {w w' : World} (h : New w w') : (∀ k o, k < w.heap.size → w'.cell? ⟨k, o, none⟩ = w.cell? ⟨k, o, none⟩) ∧ (∀ k o, k < w.heap.size → w'.frozen? ⟨k, o, none⟩ = w.frozen? ⟨k, o, none⟩) ∧ (∀ k, k < w.heap.size → k < w'.heap.size) := by
  refine ⟨fun k o hk => ?_, fun k o hk => h.frozen (p := ⟨k, o, none⟩) hk, fun k hk => Nat.lt_of_lt_of_le hk h.size⟩
  unfold World.cell?
  rw [h.block k hk]
theorem New.set2 {w w' : World} (h : New w w') {b : Nat} (hb : w.heap.size ≤ b) (v0 v1 : Value) : New w ((w'.setCell ⟨b, 0, none⟩ v0).setCell ⟨b, 1, none⟩ v1) :=
  New.set (p := ⟨b, 1, none⟩) (New.set (p := ⟨b, 0, none⟩) h hb _) hb _
theorem New.set4 {w w' : World} (h : New w w') {b : Nat} (hb : w.heap.size ≤ b) (v0 v1 v2 v3 : Value) : New w ((((w'.setCell ⟨b, 0, none⟩ v0).setCell ⟨b, 1, none⟩ v1).setCell ⟨b, 2, none⟩ v2).setCell ⟨b, 3, none⟩ v3) :=
  New.set (p := ⟨b, 3, none⟩) (New.set (p := ⟨b, 2, none⟩) (h.set2 hb v0 v1) hb _) hb _
end Go.Proofs.YtmbjomjpnfnbkaaGreat
