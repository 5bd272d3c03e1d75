/-
  The law of the choice of a step: what the program computes is what the reference does.
-/
import Derived.Test.YtmbjomjpnfnbkaaP4
set_option linter.unusedSimpArgs false
set_option linter.unusedVariables false
namespace Go.Proofs.Ytmbjomjpnfnbkaa
open Flt

/-- 'x <= y', as the model asks it. -/
def leB (x y : Nat) : Bool := match Go.FloatKind.f32.format.order x y with
  | some .lt => true
  | some .eq => true
  | _ => false
theorem leB_iff {x y : Nat} (hx : fin S x = true) (hy : fin S y = true) : leB x y = decide (val S x ≤ val S y) := by
  have e : Go.FloatKind.f32.format.order x y = S.order x y := rfl
  unfold leB
  rw [e, order_fin S hx hy]
  by_cases h1 : val S x < val S y
  · rw [if_pos h1]
    have : val S x ≤ val S y := by grind
    simp [this]
  · by_cases h2 : val S x = val S y
    · rw [if_neg h1, if_pos h2]
      have : val S x ≤ val S y := by grind
      simp [this]
    · rw [if_neg h1, if_neg h2]
      have : ¬ val S x ≤ val S y := by grind
      simp [this]

/-- The reference's rounds: the code, the step. -/
def chS (x y z e : Nat) : Nat → Nat → Int × Nat
  | 0, _ => (4, 0)
  | n + 1, h => if (errS x y z h).1 ≠ 0 then ((errS x y z h).1, 0) else if leB (errS x y z h).2 e = true then (0, h) else chS x y z e n (divs h 1073741824)
/-- The program's rounds. -/
def chM (x y z e : Nat) : Nat → Nat → Int × Nat
  | 0, _ => (4, 0)
  | n + 1, h => if (leB (errM x y z h 0).2 e || ((errM x y z h 0).1 != 0)) = true then (if (errM x y z h 0).1 = 0 then (0, zn h) else ((errM x y z h 0).1, 0)) else chM x y z e n (divM h 1073741824 0).2

theorem errM_zn {x y z k : Nat} (hk : fin S k = true) (c : Int) : errM x y z (zn k) c = errM x y z k c := by
  unfold errM
  simp only [stepM_zn hk, divM_zn hk fin_2]

theorem choose_law {x y z e : Nat} (hx : FW x) (hy : FW y) (hz : FW z) (he : fin S e = true) (hf : ∀ h, FW h → fin S (errS x y z h).2 = true) : ∀ (n h : Nat), FW h → (chM x y z e n h) = ((chS x y z e n h).1, zn (chS x y z e n h).2)
  | 0, h, hh => by unfold chM chS; simp only [zn_zero fin0 val0]
  | n + 1, h, hh => by
    obtain ⟨e1, e2, e3⟩ := err_law hx hy hz hh
    have lk : FW (divs h 1073741824) := ⟨divs_lt hh.2 fin_2 (by rw [val2]; decide), half_fin hh.2⟩
    have ek : (divM h 1073741824 0).2 = zn (divs h 1073741824) := by rw [divM_e (Eqv.refl hh.2) (Eqv.refl fin_2) (by rw [val2]; decide) 0, rnd_g lk.2]
    unfold chM chS
    by_cases h0 : (errM x y z h 0).1 = 0
    · have hs0 : (errS x y z h).1 = 0 := by rw [e1]; exact h0
      have hl : leB (errM x y z h 0).2 e = leB (errS x y z h).2 e := by
        rw [e2 h0, leB_iff (zn_fin (hf h hh)) he, leB_iff (hf h hh) he, zn_val (hf h hh)]
      rw [hl]
      cases hb : leB (errS x y z h).2 e with
      | true => simp [h0, hs0]
      | false =>
        simp only [h0, hs0, bne_self_eq_false, Bool.or_false, Bool.false_eq_true, if_false, ne_eq, not_true_eq_false]
        rw [ek]
        have ih := choose_law hx hy hz he hf n (divs h 1073741824) lk
        rw [← ih]
        cases n with
        | zero => rfl
        | succ m =>
          unfold chM
          rw [errM_zn lk.2, divM_zn lk.2 fin_2, zn_zn]
    · have hs0 : (errS x y z h).1 ≠ 0 := by rw [e1]; exact h0
      have : ((errM x y z h 0).1 != 0) = true := by simp [h0]
      rw [if_pos (by rw [this]; simp), if_neg h0, if_pos hs0, e1]
      simp only [zn_zero fin0 val0]
end Go.Proofs.Ytmbjomjpnfnbkaa
