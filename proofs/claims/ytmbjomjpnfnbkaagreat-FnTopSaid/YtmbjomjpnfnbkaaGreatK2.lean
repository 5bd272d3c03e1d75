/-
  Small walks and facts that several texts share.
-/
import Derived.Test.YtmbjomjpnfnbkaaGreatK1
set_option linter.unusedSimpArgs false
set_option linter.unusedVariables false
namespace Go.Proofs.YtmbjomjpnfnbkaaGreat
open Go.RowKit Flt

def inB (n l h : Int) : Bool := decide (l ≤ n) && decide (n ≤ h)
theorem within_c (n l h : Int) (w : World) :
    Calls Tryz.prog 54 #[.int .i64 n, .int .i64 l, .int .i64 h] w fun e w' => e = .returned (.bool (inB n l h)) ∧ w = w' := by
  unfold inB
  by_cases h1 : l ≤ n
  · by_cases h2 : n ≤ h
    · have e : (decide (l ≤ n) && decide (n ≤ h)) = true := by simp [h1, h2]
      rw [e]
      clear e
      go_enter Tryz.func54, Tryz.ntmps54
      go_wp2
      go_ret; exact ⟨rfl, rfl⟩
    · have e : (decide (l ≤ n) && decide (n ≤ h)) = false := by simp [h1, h2]
      rw [e]
      clear e
      go_enter Tryz.func54, Tryz.ntmps54
      go_wp2
      go_ret; exact ⟨rfl, rfl⟩
  · have e : (decide (l ≤ n) && decide (n ≤ h)) = false := by simp [h1]
    rw [e]
    clear e
    go_enter Tryz.func54, Tryz.ntmps54
    go_wp2
    go_ret; exact ⟨rfl, rfl⟩

theorem l01In_c (n l h : Int) (w : World) :
    Calls Tryz.prog 63 #[.int .i64 n, .int .i64 l, .int .i64 h] w fun e w' => e = .returned (.bool (inB n l h)) ∧ w = w' := by
  unfold inB
  by_cases h1 : l ≤ n
  · by_cases h2 : n ≤ h
    · have e : (decide (l ≤ n) && decide (n ≤ h)) = true := by simp [h1, h2]
      rw [e]
      clear e
      go_enter Tryz.func63, Tryz.ntmps63
      go_wp2
      go_ret; exact ⟨rfl, rfl⟩
    · have e : (decide (l ≤ n) && decide (n ≤ h)) = false := by simp [h1, h2]
      rw [e]
      clear e
      go_enter Tryz.func63, Tryz.ntmps63
      go_wp2
      go_ret; exact ⟨rfl, rfl⟩
  · have e : (decide (l ≤ n) && decide (n ≤ h)) = false := by simp [h1]
    rw [e]
    clear e
    go_enter Tryz.func63, Tryz.ntmps63
    go_wp2
    go_ret; exact ⟨rfl, rfl⟩

theorem own_forms {w : World} {base size n : Nat} {e : TypeId} {v : Value} {xs : List Value} (h : w.ownsRow base e size v n xs) : (v = .slice none 0 0 ∧ n = 0) ∨ ∃ g cap, v = .slice (some ⟨g, 0, none⟩) n cap := by
  rcases h.2 with h0 | ⟨g, cap, _, hv, _⟩
  · exact Or.inl h0
  · exact Or.inr ⟨g, cap, hv⟩

theorem own_cell {w : World} {base e size g n cap : Nat} {xs : List Value} (h : w.ownsRow base e size (.slice (some ⟨g, 0, none⟩) n cap) n xs) {j : Nat} (hj : j < n * size) : ∃ v, w.cell? ⟨g, j, none⟩ = some v := by
  have hl := h.1
  have := h.cellAt j hj
  rw [List.getElem?_eq_getElem (by omega)] at this
  exact ⟨_, this⟩
theorem conjS_c (p q : Nat) (w : World) :
    Calls Tryz.prog 97 #[.complex .f32 p q] w fun e w' => e = .returned (.complex .f32 p (ng q)) ∧ w = w' := by
  go_enter Tryz.func97, Tryz.ntmps97
  go_wp2
  go_ret; exact ⟨rfl, rfl⟩
end Go.Proofs.YtmbjomjpnfnbkaaGreat
