/-
  What the program's operations come to where their arguments have the values of other numbers; in the words of the plain arithmetic.
-/
import Derived.Test.YtmbjomjpnfnbkaaGreatB
set_option linter.unusedSimpArgs false
set_option linter.unusedVariables false
namespace Flt
open Ieee Go

/-- A number, its zero without a sign. -/
def zn (x : Nat) : Nat := if isZ x = true then 0 else x
theorem zn_fin {x : Nat} (h : fin S x = true) : fin S (zn x) = true := by
  unfold zn; split
  · exact fin0
  · exact h
theorem zn_val {x : Nat} (h : fin S x = true) : val S (zn x) = val S x := by
  unfold zn; split
  · rename_i h1; rw [val0, (isZ_iff h).1 h1]
  · rfl
theorem Eqv.zn {x : Nat} (h : fin S x = true) : Eqv S (zn x) x := ⟨zn_fin h, h, zn_val h⟩
theorem Eqv.symm {f : Ieee.Format} {x y : Nat} (h : Eqv f x y) : Eqv f y x := ⟨h.2.1, h.1, h.2.2.symm⟩
theorem Eqv.trans {f : Ieee.Format} {x y z : Nat} (h : Eqv f x y) (k : Eqv f y z) : Eqv f x z := ⟨h.1, k.2.1, h.2.2.trans k.2.2⟩
theorem isZ_congr {x y : Nat} (h : Eqv S x y) : isZ x = isZ y := by
  rw [Bool.eq_iff_iff, isZ_iff h.1, isZ_iff h.2.1, h.2.2]
theorem zn_zero {x : Nat} (h : fin S x = true) (h0 : val S x = 0) : zn x = 0 := by unfold zn; rw [if_pos ((isZ_iff h).2 h0)]
theorem zn_zn (x : Nat) : zn (zn x) = zn x := by
  unfold zn; split
  · rfl
  · rfl
theorem zn_lt {x : Nat} (h : x < 2 ^ 32) : zn x < 2 ^ 32 := by unfold zn; split <;> omega

/-- Words of one value are one, but for the sign of a zero. -/
theorem zn_eq {x y : Nat} (hx : x < 2 ^ 32) (hy : y < 2 ^ 32) (h : Eqv S x y) : zn x = zn y := by
  by_cases h0 : val S x = 0
  · rw [zn_zero h.1 h0, zn_zero h.2.1 (h.2.2 ▸ h0)]
  · have hv := val_inj S S_good h.1 h.2.1 h.2.2
    have hz : rg S x ≠ 0 := fun hc => h0 ((val_zero_iff S S_good h.1).2 hc)
    have hs : sg S x = sg S y := hv.2.resolve_right hz
    have hw : S.signWeight = 2 ^ 31 := by decide
    have : x = y := by
      have h1 := hv.1
      unfold rg at h1; unfold sg at hs
      rw [hw] at h1 hs
      have a1 : x / 2 ^ 31 < 2 := by omega
      have a2 : y / 2 ^ 31 < 2 := by omega
      have : x / 2 ^ 31 = y / 2 ^ 31 := by
        generalize x / 2 ^ 31 = a at *
        generalize y / 2 ^ 31 = b at *
        have ha : a = 0 ∨ a = 1 := by omega
        have hb : b = 0 ∨ b = 1 := by omega
        rcases ha with rfl | rfl <;> rcases hb with rfl | rfl <;> simp_all
      omega
    rw [this]

/-- What 'round' gives where no code was kept. -/
theorem rnd_g {x : Nat} (h : fin S x = true) : rnd x 0 = (0, zn x) := by
  cases h1 : (FloatKind.f32.format.order x 0 == some .eq)
  · rw [rnd_yes h h1]
    have : zn x = x := by
      unfold zn isZ; rw [h1]; rfl
    rw [this]
  · rw [rnd_zero 0 h h1]
    have : zn x = 0 := by
      unfold zn isZ; rw [h1]; rfl
    rw [this]
theorem rnd_b {x : Nat} (h : fin S x = false) : rnd x 0 = (3, 0) := by rw [rnd_no 0 h]; rfl
theorem rnd_ne (x : Nat) {c : Int} (h : c ≠ 0) : rnd x c = (c, 0) := by
  cases hf : fin S x
  · rw [rnd_no c hf, failc_ne 3 h]
  · exact rnd_code x hf h
theorem Rnd.lt32' {q : Rat} {r : Nat} (h : Rnd S q r) : r < 2 ^ 32 := h.lt S_good
/-- Two roundings of one value. -/
theorem rnd_one {q : Rat} {r r' : Nat} (h : Rnd S q r) (h' : Rnd S q r') (c : Int) : rnd r c = rnd r' c := by
  have hv := h.fin_val S_good h'
  by_cases hc : c = 0
  · subst hc
    cases hf : fin S r with
    | false => rw [rnd_b hf, rnd_b (hv.1 ▸ hf)]
    | true => rw [rnd_g hf, rnd_g (hv.1 ▸ hf), zn_eq h.lt32' h'.lt32' ⟨hf, hv.1 ▸ hf, hv.2 hf⟩]
  · rw [rnd_ne _ hc, rnd_ne _ hc]

theorem mulM_e {a a' b b' : Nat} (ha : Eqv S a a') (hb : Eqv S b b') (c : Int) : mulM a b c = rnd (muls a' b') c := by
  have r := (muls_eq ha.1 hb.1).2
  rw [ha.2.2, hb.2.2] at r
  exact rnd_one r (muls_eq ha.2.1 hb.2.1).2 c
theorem addM_e {a a' b b' : Nat} (ha : Eqv S a a') (hb : Eqv S b b') (c : Int) : addM a b c = rnd (adds a' b') c := by
  have r := (adds_eq ha.1 hb.1).2
  rw [ha.2.2, hb.2.2] at r
  exact rnd_one r (adds_eq ha.2.1 hb.2.1).2 c
theorem subM_e {a a' b b' : Nat} (ha : Eqv S a a') (hb : Eqv S b b') (c : Int) : subM a b c = rnd (subs a' b') c := by
  have r := (subs_eq ha.1 hb.1).2
  rw [ha.2.2, hb.2.2] at r
  exact rnd_one r (subs_eq ha.2.1 hb.2.1).2 c
theorem divM_e {a a' b b' : Nat} (ha : Eqv S a a') (hb : Eqv S b b') (h0 : val S b' ≠ 0) (c : Int) : divM a b c = rnd (divs a' b') c := by
  have hz : isZ b = false := by
    cases h : isZ b with
    | false => rfl
    | true => exact absurd (hb.2.2 ▸ (isZ_iff hb.1).1 h) h0
  rw [divM_other a c hz]
  have r := (divs_eq ha.1 hb.1 (hb.2.2 ▸ h0)).2
  rw [quo_congr S S_good ha.1 hb.1 ha.2.1 hb.2.1 (hb.2.2 ▸ h0) ha.2.2 hb.2.2] at r
  exact rnd_one r (divs_eq ha.2.1 hb.2.1 h0).2 c
theorem mulM_ne (x y : Nat) {c : Int} (h : c ≠ 0) : mulM x y c = (c, 0) := rnd_ne _ h
theorem addM_ne (x y : Nat) {c : Int} (h : c ≠ 0) : addM x y c = (c, 0) := rnd_ne _ h
theorem subM_ne (x y : Nat) {c : Int} (h : c ≠ 0) : subM x y c = (c, 0) := rnd_ne _ h
theorem bothM_ne (a b x y : Nat) {c : Int} (h : c ≠ 0) : bothM a b x y c = (c, 0) := rnd_ne _ h
theorem divM_ne (x y : Nat) {c : Int} (h : c ≠ 0) : divM x y c = (c, 0) := by
  unfold divM; split
  · rfl
  · exact rnd_ne _ h
theorem bothM_e {a b x y a' b' x' y' : Nat} (ha : Eqv S a a') (hb : Eqv S b b') (hx : Eqv S x x') (hy : Eqv S y y') (c : Int) : bothM a b x y c = rnd (bothS a' b' x' y') c := by
  have r1 := bothS_rnd ha.1 hb.1 hx.1 hy.1
  have r2 := bothS_rnd ha.2.1 hb.2.1 hx.2.1 hy.2.1
  unfold bothM
  by_cases hc : c = 0
  · subst hc
    have hv := bothS_congr ha hb hx hy
    cases hf : fin S (bothS a b x y) with
    | false => rw [rnd_b hf, rnd_b (hv.1 ▸ hf)]
    | true => rw [rnd_g hf, rnd_g (hv.1 ▸ hf), zn_eq r1.lt32' r2.lt32' ⟨hf, hv.1 ▸ hf, hv.2 hf⟩]
  · rw [rnd_ne _ hc, rnd_ne _ hc]
theorem zM_g {x y : Nat} (hx : fin S x = true) (hy : fin S y = true) : zM x y 0 = (0, zn x, zn y) := by
  unfold zM; simp only [rnd_g hx, rnd_g hy]
theorem zM_ne (x y : Nat) {c : Int} (h : c ≠ 0) : zM x y c = (c, 0, 0) := by
  unfold zM; simp only [rnd_ne _ h]
theorem ng_congr {x y : Nat} (hx : x < 2 ^ 32) (hy : y < 2 ^ 32) (h : Eqv S x y) : Eqv S (Op.negFloat .f32 x) (Op.negFloat .f32 y) := by
  have a := ng_fin hx h.1; have b := ng_fin hy h.2.1
  exact ⟨a.1, b.1, by rw [a.2, b.2, h.2.2]⟩
theorem ng_lt {x : Nat} (hx : x < 2 ^ 32) : Op.negFloat .f32 x < 2 ^ 32 := by rw [negFloat_eq]; exact (ng_parts hx).1
theorem muls_lt {x y : Nat} (hx : fin S x = true) (hy : fin S y = true) : muls x y < 2 ^ 32 := (muls_eq hx hy).2.lt32'
theorem adds_lt {x y : Nat} (hx : fin S x = true) (hy : fin S y = true) : adds x y < 2 ^ 32 := (adds_eq hx hy).2.lt32'
theorem subs_lt {x y : Nat} (hx : fin S x = true) (hy : fin S y = true) : subs x y < 2 ^ 32 := (subs_eq hx hy).2.lt32'
theorem divs_lt {x y : Nat} (hx : fin S x = true) (hy : fin S y = true) (h0 : val S y ≠ 0) : divs x y < 2 ^ 32 := (divs_eq hx hy h0).2.lt32'
theorem sqS_parts {x y z : Nat} (hx : fin S x = true) (hy : fin S y = true) (hz : fin S z = true) (h : fin S (sqS x y z) = true) :
    fin S (muls x x) = true ∧ fin S (muls y y) = true ∧ fin S (muls z z) = true ∧ fin S (adds (muls x x) (muls y y)) = true := by
  have a := adds_pos (muls_pos hx) (muls_pos hy)
  have b := (adds_pos a.2.1 (muls_pos hz)).2.2 h
  have c := a.2.2 b.1
  exact ⟨c.1, c.2, b.2, b.1⟩
end Flt
