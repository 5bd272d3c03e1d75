/-
  The times of a ramp are numbers.
-/
import Derived.Test.YtmbjomjpnfnbkaaP11
import Derived.Laws.Cover2
set_option linter.unusedSimpArgs false
set_option linter.unusedVariables false
namespace Go.Proofs.Ytmbjomjpnfnbkaa
open Go.RowKit Flt

/-- A small whole number as a float32. -/
def fi (m : Nat) : Nat := floatOfInt .f32 (m : Int)
theorem fi_all : ∀ m : Nat, m < 601 → m ≠ 0 → (fin S (fi m) = true ∧ rg S (fi m) ≠ 0 ∧ fi m < 2 ^ 32) := by
  have h : (List.range 601).all (fun m => m == 0 || (fin S (fi m) && (rg S (fi m) != 0) && decide (fi m < 2 ^ 32))) = true := by decide +kernel
  intro m hm h0
  have := List.all_eq_true.1 h m (List.mem_range.2 hm)
  simp [h0] at this
  exact ⟨this.1.1, this.1.2, this.2⟩
theorem fi_val {m : Nat} (hm : m < 601) (h0 : m ≠ 0) : val S (fi m) ≠ 0 := fun hc => (fi_all m hm h0).2.1 ((val_zero_iff S S_good (fi_all m hm h0).1).1 hc)
theorem fi_rg : ∀ m : Nat, m < 601 → m ≠ 0 → rg S 1065353216 ≤ rg S (fi m) := by
  have h : (List.range 601).all (fun m => m == 0 || decide (rg S 1065353216 ≤ rg S (fi m))) = true := by decide +kernel
  intro m hm h0
  have := List.all_eq_true.1 h m (List.mem_range.2 hm)
  simpa [h0] using this
theorem fi_ge {m : Nat} (hm : m < 601) (h0 : m ≠ 0) : 1 ≤ ab (val S (fi m)) := by
  have hf := (fi_all m hm h0).1
  have hi := (fin_iff S (fi m) S_good).1 hf
  have h1 : rv S (rg S 1065353216) ≤ rv S (rg S (fi m)) := (rv_mono S (by decide) hi).2 (fi_rg m hm h0)
  rw [← val_ab S S_good fin_1, ← val_ab S S_good hf, val1] at h1
  have : ab (1 : Rat) = 1 := by decide +kernel
  rw [this] at h1
  exact h1

/-- The time of the field i of n. -/
def tq (n i : Nat) : Nat := divs (fi (2 * i + 1)) (fi (2 * n))
theorem tq_fin {n i : Nat} (hn : n ≤ 300) (hi : i < n) : fin S (tq n i) = true :=
  (divs_le (fi_all _ (by omega) (by omega)).1 (fi_all _ (by omega) (by omega)).1 (fi_ge (by omega) (by omega))).1
theorem tq_M {n i : Nat} (hn : n ≤ 300) (hi : i < n) : divM (fi (2 * i + 1)) (fi (2 * n)) 0 = (0, zn (tq n i)) := by
  have a := (fi_all (2 * i + 1) (by omega) (by omega)).1
  have b := (fi_all (2 * n) (by omega) (by omega)).1
  rw [divM_e (Eqv.refl a) (Eqv.refl b) (fi_val (by omega) (by omega)) 0]
  exact rnd_g (tq_fin hn hi)
theorem vecM_tq {a b : V3N} {n i : Nat} (hn : n ≤ 300) (hi : i < n) (c : Int) :
    vecM a b (divM (fi (2 * i + 1)) (fi (2 * n)) c).2 (divM (fi (2 * i + 1)) (fi (2 * n)) c).1 = vecM a b (zn (tq n i)) c := by
  by_cases hc : c = 0
  · subst hc; rw [tq_M hn hi]
  · rw [divM_ne _ _ hc]
    simp only [vecM_ne _ _ _ hc]
end Go.Proofs.Ytmbjomjpnfnbkaa
