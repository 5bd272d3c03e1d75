/-
  The reference's part of a field of a ramp never meets a NaN.
-/
import Derived.Test.YtmbjomjpnfnbkaaP12
set_option linter.unusedSimpArgs false
set_option linter.unusedVariables false
namespace Flt
open Ieee Go

theorem rmag_of_val {x : Nat} (h : fin S x = true) (h0 : val S x ≠ 0) : rmag S (rg S x) ≠ 0 := rmag_ne S (fun hc => h0 ((val_zero_iff S S_good h).2 hc))
/-- A quotient is not much less than the quotient of the places. -/
theorem quo_low {x y : Nat} (hx : fin S x = true) (hy : fin S y = true) (x0 : val S x ≠ 0) (y0 : val S y ≠ 0) : (2 : Rat) ^ (rplace S (rg S x) - rplace S (rg S y) - 49) ≤ ab (dv (quo S x y)) := by
  rw [dv_quo_abs]
  have hM := rmag_of_val hx x0
  have hN := rmag_of_val hy y0
  have lM := rmag_S_log (rg S x)
  have lN := rmag_S_log (rg S y)
  generalize rmag S (rg S x) = M at *
  generalize rmag S (rg S y) = N at *
  generalize rplace S (rg S x) = i at *
  generalize rplace S (rg S y) = j at *
  have e4 : S.fractionBits = 23 := rfl
  rw [e4]
  have hA : 2 * ((M <<< (23 + 2 + N.log2 - M.log2)) / N) + ((M <<< (23 + 2 + N.log2 - M.log2)) % N != 0).toNat ≠ 0 := by
    intro hc
    have h1 : (M <<< (23 + 2 + N.log2 - M.log2)) / N = 0 := by omega
    have h2 : ((M <<< (23 + 2 + N.log2 - M.log2)) % N != 0).toNat = 0 := by omega
    have h3 : (M <<< (23 + 2 + N.log2 - M.log2)) % N = 0 := by
      by_cases hz : (M <<< (23 + 2 + N.log2 - M.log2)) % N = 0
      · exact hz
      · have : ((M <<< (23 + 2 + N.log2 - M.log2)) % N != 0) = true := by simp [hz]
        rw [this] at h2; cases h2
    have h4 := Nat.div_add_mod (M <<< (23 + 2 + N.log2 - M.log2)) N
    rw [h1, h3] at h4
    simp at h4
    rw [Nat.shiftLeft_eq] at h4
    have := Nat.mul_eq_zero.1 h4.symm
    rcases this with h | h
    · exact hM h
    · exact absurd h (Nat.ne_of_gt (Nat.two_pow_pos _))
  generalize 2 * ((M <<< (23 + 2 + N.log2 - M.log2)) / N) + ((M <<< (23 + 2 + N.log2 - M.log2)) % N != 0).toNat = A at *
  have h1 : (2 : Rat) ^ (i - j - ((23 + 2 + N.log2 - M.log2 : Nat) : Int) - 1 + (A.log2 : Int)) ≤ mg A (i - j - ((23 + 2 + N.log2 - M.log2 : Nat) : Int) - 1) := mg_log_le hA
  have h2 : (2 : Rat) ^ (i - j - 49) ≤ (2 : Rat) ^ (i - j - ((23 + 2 + N.log2 - M.log2 : Nat) : Int) - 1 + (A.log2 : Int)) := zp_mono (by omega)
  grind
theorem nn_inf {x : Nat} {s : Bool} (h : S.read x = .infinity s) : nn x = true := by unfold nn; rw [h]; rfl
theorem mul_some {x t : Nat} (hx : nn x = true) (ht : fin S t = true) (h0 : val S t ≠ 0) : floatBits .mul .f32 x t = some (muls x t) ∧ nn (muls x t) = true := by
  rcases read_cases hx with hf | ⟨s, hs⟩
  · exact ⟨(muls_eq hf ht).1, nn_rnd (muls_eq hf ht).2⟩
  · have hr := read_fin S t S_good ht
    have hM := rmag_of_val ht h0
    have e : S.mul x t = some (S.write (.infinity (s ^^ sg S t))) := by
      unfold Ieee.Format.mul; rw [hs, hr]; simp only [Ieee.Datum.product, if_neg hM]; rfl
    refine ⟨?_, ?_⟩
    · show S.mul x t = _
      rw [e]; unfold muls; rw [e]; rfl
    · unfold muls; rw [e]
      show nn (S.write (.infinity _)) = true
      cases s <;> cases sg S t <;> decide +kernel
theorem add_some {x y : Nat} (hx : fin S x = true) (hy : nn y = true) : floatBits .add .f32 x y = some (adds x y) := by
  rcases read_cases hy with hf | ⟨s, hs⟩
  · exact (adds_eq hx hf).1
  · have hr := read_fin S x S_good hx
    have e : S.add x y = some (S.write (.infinity s)) := by
      unfold Ieee.Format.add; rw [hs, hr]; rfl
    show S.add x y = _
    unfold adds; rw [e]; rfl
end Flt
namespace Go.Proofs.Ytmbjomjpnfnbkaa
open Go.RowKit Flt

theorem fi_place : ∀ m : Nat, m < 601 → m ≠ 0 → (-23 ≤ rplace S (rg S (fi m)) ∧ rplace S (rg S (fi m)) ≤ 0) := by
  have h : (List.range 601).all (fun m => m == 0 || (decide (-23 ≤ rplace S (rg S (fi m))) && decide (rplace S (rg S (fi m)) ≤ 0))) = true := by decide +kernel
  intro m hm h0
  have := List.all_eq_true.1 h m (List.mem_range.2 hm)
  simpa [h0] using this
theorem tq_ne {n i : Nat} (hn : n ≤ 300) (hi : i < n) : val S (tq n i) ≠ 0 := by
  have a := (fi_all (2 * i + 1) (by omega) (by omega)).1
  have b := (fi_all (2 * n) (by omega) (by omega)).1
  have a0 := fi_val (m := 2 * i + 1) (by omega) (by omega)
  have b0 := fi_val (m := 2 * n) (by omega) (by omega)
  have l := quo_low a b a0 b0
  have p1 := fi_place (2 * i + 1) (by omega) (by omega)
  have p2 := fi_place (2 * n) (by omega) (by omega)
  have l2 : (2 : Rat) ^ (-72 : Int) ≤ ab (dv (quo S (fi (2 * i + 1)) (fi (2 * n)))) := by
    have := zp_mono (show (-72 : Int) ≤ rplace S (rg S (fi (2 * i + 1))) - rplace S (rg S (fi (2 * n))) - 49 by omega)
    grind
  have g := (divs_eq a b b0).2.ge S_good (k := -72) (by rw [S_least]; decide) (tq_fin hn hi) l2
  intro hc
  have hc' : val S (divs (fi (2 * i + 1)) (fi (2 * n))) = 0 := hc
  rw [hc'] at g
  have := zp_pos (-72)
  simp [ab] at g
  grind
theorem comp_some {x y t : Nat} (hx : FW x) (hy : FW y) (ht : fin S t = true) (h0 : val S t ≠ 0) :
    floatBits .sub .f32 y x = some (subs y x) ∧ floatBits .mul .f32 (subs y x) t = some (muls (subs y x) t) ∧ floatBits .add .f32 x (muls (subs y x) t) = some (compS x y t) := by
  have a := subs_eq hy.2 hx.2
  have b := mul_some (nn_rnd a.2) ht h0
  exact ⟨a.1, b.1, add_some hx.2 b.2⟩
end Go.Proofs.Ytmbjomjpnfnbkaa
