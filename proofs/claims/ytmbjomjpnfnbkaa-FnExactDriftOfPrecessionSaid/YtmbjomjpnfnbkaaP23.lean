/-
  The powers of a step of a field: their parts stay below 2^58.
-/
import Derived.Test.YtmbjomjpnfnbkaaP22
set_option linter.unusedSimpArgs false
set_option linter.unusedVariables false
namespace Go.Proofs.Ytmbjomjpnfnbkaa
open Flt

/-- What a step of numbers comes to: a bad code, or a table whose parts' squares sum up to 5/4 at most. -/
theorem stepS_norm {x y z h : Nat} (hx : fin S x = true) (hy : fin S y = true) (hz : fin S z = true) (hh : fin S h = true) :
    stepS x y z h = bad8 3 ∨ ∃ p X Y Z, stepS x y z h = tabS p X Y Z ∧ Lw 3 p ∧ Lw 3 X ∧ Lw 3 Y ∧ Lw 3 Z ∧ nS p X Y Z ≤ 5 / 4 := by
  by_cases hb : fin S (sqS x y z) = false ∨ fin S (muls (divs h 1073741824) (divs h 1073741824)) = false ∨ fin S (muls (muls (divs h 1073741824) (divs h 1073741824)) (sqS x y z)) = false
  · left; unfold stepS; simp only [if_pos hb]
  · have h1 : fin S (sqS x y z) = true := by cases h : fin S (sqS x y z) <;> simp_all
    have h2 : fin S (muls (divs h 1073741824) (divs h 1073741824)) = true := by cases h : fin S (muls (divs h 1073741824) (divs h 1073741824)) <;> simp_all
    have h3 : fin S (muls (muls (divs h 1073741824) (divs h 1073741824)) (sqS x y z)) = true := by cases h : fin S (muls (muls (divs h 1073741824) (divs h 1073741824)) (sqS x y z)) <;> simp_all
    obtain ⟨_, _, _, md, md1, ms, mp, mf⟩ := stepS_mid hx hy hz hh h1 h2 h3
    have pk := (muls_pos (half_fin hh)).val h2
    have pm := (sqS_pos hx hy hz).val h1
    have pq := (muls_pos2 h2 h1 pk pm).val h3
    have d0 : val S (adds 1065353216 (muls (muls (divs h 1073741824) (divs h 1073741824)) (sqS x y z))) ≠ 0 := by grind
    have hdq := (adds_ge fin_1 h3 md (by rw [val1]; decide) pq).2
    obtain ⟨g1, g2, g3⟩ := sqS_ge hx hy hz h1
    obtain ⟨s1, s2, s3, _⟩ := sqS_parts hx hy hz h1
    have bx := step_part hh hx rfl rfl h2 h1 g1 s1 rfl h3 md md1 hdq
    have by' := step_part hh hy rfl rfl h2 h1 g2 s2 rfl h3 md md1 hdq
    have bz := step_part hh hz rfl rfl h2 h1 g3 s3 rfl h3 md md1 hdq
    have lp : Lw 1 (divs (subs 1065353216 (muls (muls (divs h 1073741824) (divs h 1073741824)) (sqS x y z))) (adds 1065353216 (muls (muls (divs h 1073741824) (divs h 1073741824)) (sqS x y z)))) := ⟨divs_lt ms md d0, step_p h3 pq⟩
    right
    refine ⟨_, _, _, _, ?_, lp.mono (by decide), ⟨muls_lt mf hx, bx⟩, ⟨muls_lt mf hy, by'⟩, ⟨muls_lt mf hz, bz⟩, step_core hx hy hz hh h1 h2 h3 rfl rfl rfl rfl rfl rfl bx.1 by'.1 bz.1⟩
    unfold stepS
    simp only [if_neg hb]
    rw [if_neg (by rw [bx.1, by'.1, bz.1]; simp)]

/-- The powers of a table, bare. -/
def powS (s : C8) : Nat → C8
  | 0 => s
  | k + 1 => productS s (powS s k)
def Bn : Nat → Rat
  | 0 => 2
  | k + 1 => 13 / 10 * Bn k
theorem Bn_ge : ∀ k, 1 ≤ Bn k
  | 0 => by unfold Bn; decide +kernel
  | k + 1 => by have := Bn_ge k; unfold Bn; grind
theorem Bn_le : ∀ k, k < 301 → Bn k ≤ 2 ^ (58 : Int) * 2 ^ (58 : Int) := by
  have h : (List.range 301).all (fun k => decide (Bn k ≤ 2 ^ (58 : Int) * 2 ^ (58 : Int))) = true := by decide +kernel
  intro k hk
  exact of_decide_eq_true (List.all_eq_true.1 h k (List.mem_range.2 hk))
theorem root_le {x c : Rat} (hc : 0 ≤ c) (h : x * x ≤ c * c) : ab x ≤ c := by
  apply Classical.byContradiction
  intro hn
  have h1 : c < ab x := by grind
  have h2 := ab_sq x
  have h3 := sq_le hc (Rat.le_of_lt h1)
  have h4 : c * c < ab x * ab x := by
    have a1 := Rat.mul_lt_mul_of_pos_right h1 (show 0 < ab x by grind)
    have a2 := rmul_l (Rat.le_of_lt h1) hc
    grind
  grind
theorem lw_of {k : Int} {x : Nat} {B : Rat} (h : Lw k x) (hx : val S x * val S x ≤ B) (hB : B ≤ 2 ^ (58 : Int) * 2 ^ (58 : Int)) : Lw 58 x :=
  ⟨h.1, h.2.1, root_le (Rat.le_of_lt (zp_pos 58)) (by grind)⟩
theorem cols_lw {k : Int} {t : C8} {B : Rat} (h : Lw8 k t) (h1 : n1 t ≤ B) (h2 : n2 t ≤ B) (hB : B ≤ 2 ^ (58 : Int) * 2 ^ (58 : Int)) : Lw8 58 t := by
  unfold n1 at h1
  unfold n2 at h2
  have a0 := sq_nonneg (val S t.a0); have a1 := sq_nonneg (val S t.a1); have c0 := sq_nonneg (val S t.c0); have c1 := sq_nonneg (val S t.c1)
  have b0 := sq_nonneg (val S t.b0); have b1 := sq_nonneg (val S t.b1); have d0 := sq_nonneg (val S t.d0); have d1 := sq_nonneg (val S t.d1)
  exact ⟨lw_of h.a0 (by grind) hB, lw_of h.a1 (by grind) hB, lw_of h.b0 (by grind) hB, lw_of h.b1 (by grind) hB, lw_of h.c0 (by grind) hB, lw_of h.c1 (by grind) hB, lw_of h.d0 (by grind) hB, lw_of h.d1 (by grind) hB⟩
theorem tabS_lw3 {p x y z : Nat} (hp : Lw 3 p) (hx : Lw 3 x) (hy : Lw 3 y) (hz : Lw 3 z) : Lw8 3 (tabS p x y z) := ⟨hp, hz.ng, hy.ng, hx.ng, hy, hx.ng, hp, hz⟩
theorem val_ng {k : Int} {x : Nat} (h : Lw k x) : val S (ng x) = - val S x := (ng_fin h.1 h.2.1).2

theorem pow_small {p x y z : Nat} (hp : Lw 3 p) (hx : Lw 3 x) (hy : Lw 3 y) (hz : Lw 3 z) (hN : nS p x y z ≤ 5 / 4) : ∀ k, k < 301 → Lw8 58 (powS (tabS p x y z) k) ∧ n1 (powS (tabS p x y z) k) ≤ Bn k ∧ n2 (powS (tabS p x y z) k) ≤ Bn k
  | 0, _ => by
    refine ⟨(tabS_lw3 hp hx hy hz).mono (by decide), ?_, ?_⟩
    · unfold nS at hN
      show val S p * val S p + val S (ng z) * val S (ng z) + val S y * val S y + val S (ng x) * val S (ng x) ≤ 2
      rw [val_ng hz, val_ng hx]
      grind
    · unfold nS at hN
      show val S (ng y) * val S (ng y) + val S (ng x) * val S (ng x) + val S p * val S p + val S z * val S z ≤ 2
      rw [val_ng hy, val_ng hx]
      grind
  | k + 1, h => by
    obtain ⟨l, i1, i2⟩ := pow_small hp hx hy hz hN k (by omega)
    have hB := Bn_ge k
    have c1 := col_err hp hx hy hz l.a0 l.a1 l.c0 l.c1 (by decide) (by decide) hN hB i1
    have c2 := col_err hp hx hy hz l.b0 l.b1 l.d0 l.d1 (by decide) (by decide) hN hB i2
    have hl := (product_law (tabS_lw3 hp hx hy hz) l (by decide) (by decide)).2
    have e1 : n1 (powS (tabS p x y z) (k + 1)) ≤ Bn (k + 1) := c1
    have e2 : n2 (powS (tabS p x y z) (k + 1)) ≤ Bn (k + 1) := c2
    exact ⟨cols_lw hl e1 e2 (Bn_le _ h), e1, e2⟩
end Go.Proofs.Ytmbjomjpnfnbkaa
