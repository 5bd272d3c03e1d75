/-
  How far a rounding strays; in the words of the plain arithmetic.
-/
import Derived.Test.YtmbjomjpnfnbkaaP0
set_option linter.unusedSimpArgs false
set_option linter.unusedVariables false
namespace Flt
open Ieee Go

/-- A small part, and a very small number. -/
def eps : Rat := 2 ^ (-20 : Int)
def tau : Rat := 2 ^ (-140 : Int)

theorem max_le_add {a b : Int} : (2 : Rat) ^ (max a b) ≤ 2 ^ a + 2 ^ b := by
  have h1 := zp_pos a
  have h2 := zp_pos b
  rcases Int.le_total a b with h | h
  · rw [Int.max_eq_right h]; grind
  · rw [Int.max_eq_left h]; grind
theorem near_f (f : Format) {m : Nat} {e : Int} (hb : 21 ≤ f.fractionBits) (hl : f.leastPlace ≤ -140) (hm : m ≠ 0) (h : rung f m e < f.infRung) :
    ab (rv f (rung f m e) - mg m e) ≤ mg m e * eps + tau := by
  obtain ⟨h1, h2⟩ := rv_near f hm h
  have h3 : (2 : Rat) ^ (last f m e) ≤ 2 ^ (e + m.log2 - f.fractionBits) + 2 ^ f.leastPlace := max_le_add
  have h4 : (2 : Rat) ^ (e + m.log2 - f.fractionBits) ≤ 2 ^ ((e + m.log2) + (-20)) := zp_mono (by omega)
  have h5 : (2 : Rat) ^ f.leastPlace ≤ 2 ^ (-140 : Int) := zp_mono hl
  have h6 : (2 : Rat) ^ (e + m.log2) ≤ mg m e := mg_log_le hm
  rw [zp_add] at h4
  have h7 := Rat.mul_le_mul_of_nonneg_right h6 (Rat.le_of_lt (zp_pos (-20)))
  have h8 := mg_nonneg m e
  have h9 : (0 : Rat) < 2 ^ (-20 : Int) := zp_pos _
  have h10 : (0 : Rat) ≤ mg m e * 2 ^ (-20 : Int) := Rat.mul_nonneg h8 (Rat.le_of_lt h9)
  have h11 : (0 : Rat) < 2 ^ (-140 : Int) := zp_pos _
  show ab _ ≤ mg m e * 2 ^ (-20 : Int) + 2 ^ (-140 : Int)
  unfold ab
  split <;> grind
theorem Rnd.err {f : Format} {q : Rat} {r : Nat} (g : Good f) (hb : 21 ≤ f.fractionBits) (hl : f.leastPlace ≤ -140) (h : Rnd f q r) (hf : fin f r = true) : ab (val f r - q) ≤ ab q * eps + tau := by
  obtain ⟨s, m, e, rfl, rfl⟩ := h
  have he : (0 : Rat) < tau := zp_pos _
  have hf' := hf
  rw [fin_iff f _ g, (rg_write f g s m e).1] at hf'
  have hv := val_fin f _ g hf
  rw [(rg_write f g s m e).1, (rg_write f g s m e).2] at hv
  rw [dv_abs]
  by_cases hm : m = 0
  · subst hm
    have h0 : rung f 0 e = 0 := by simp [rung]
    rw [h0, rv_zero] at hv
    have : val f (f.write (.number s 0 e)) = 0 := by rw [hv]; cases s <;> simp
    rw [this]
    have d0 : dv (.number s 0 e) = 0 := by
      have := dv_abs s 0 e
      rw [mg_zero] at this
      unfold ab at this
      split at this <;> grind
    rw [d0, mg_zero]
    have : ab (0 - 0 : Rat) = 0 := by decide +kernel
    rw [this]; grind
  · have h1 := near_f f hb hl hm hf'
    have d : dv (.number s m e) = if s then - mg m e else mg m e := rfl
    rw [hv, d]
    cases s with
    | false => simpa using h1
    | true =>
      have : (if true = true then -rv f (rung f m e) else rv f (rung f m e)) - (if true = true then - mg m e else mg m e) = -(rv f (rung f m e) - mg m e) := by
        simp only [if_true]; grind
      rw [this, ab_neg]; exact h1
theorem Rnd.errS {q : Rat} {r : Nat} (h : Rnd S q r) (hf : fin S r = true) : ab (val S r - q) ≤ ab q * eps + tau := h.err S_good (by decide) (by decide) hf
theorem Rnd.errD {q : Rat} {r : Nat} (h : Rnd D q r) (hf : fin D r = true) : ab (val D r - q) ≤ ab q * eps + tau := h.err D_good (by decide) (by decide) hf
end Flt
