/-
  The law of a step of a field: what the program computes is what the reference does.
-/
import Derived.Test.YtmbjomjpnfnbkaaGreatP0
import Derived.Test.YtmbjomjpnfnbkaaGreatD3
set_option linter.unusedSimpArgs false
set_option linter.unusedVariables false
namespace Go.Proofs.YtmbjomjpnfnbkaaGreat
open Flt

/-- A table, the zeros of its parts without a sign. -/
def nz (t : C8) : C8 := ⟨t.c, zn t.a0, zn t.a1, zn t.b0, zn t.b1, zn t.c0, zn t.c1, zn t.d0, zn t.d1⟩
theorem nz_bad (c : Int) : nz (bad8 c) = bad8 c := by
  have : zn 0 = 0 := by unfold zn; split <;> rfl
  unfold nz bad8; simp only [this]
theorem toldC_ne {t : C8} {c : Int} (h : t.c = c) (h0 : c ≠ 0) : toldC t = bad8 c := by
  unfold toldC; rw [if_neg (by rw [h]; exact h0), h]; rfl
theorem toldC_zero {t : C8} (h : t.c = 0) : toldC t = t := by unfold toldC; rw [if_pos h]

theorem ofPartsM_ne (p x y z : Nat) {c : Int} (h : c ≠ 0) : (ofPartsM p x y z c).c = c := by
  unfold ofPartsM; simp only [zM_ne _ _ h]
theorem dotM_ne (x y z p q r : Nat) {c : Int} (h : c ≠ 0) : dotM x y z p q r c = (c, 0) := by
  unfold dotM; simp only [mulM_ne _ _ h, addM_ne _ _ h]

theorem dotM_sq {x y z : Nat} (hx : fin S x = true) (hy : fin S y = true) (hz : fin S z = true) : dotM x y z x y z 0 = rnd (sqS x y z) 0 := by
  unfold dotM sqS
  have ex := Eqv.refl hx; have ey := Eqv.refl hy; have ez := Eqv.refl hz
  simp only [mulM_e ex ex, mulM_e ey ey, mulM_e ez ez]
  have a := adds_pos (muls_pos hx) (muls_pos hy)
  have b := adds_pos a.2.1 (muls_pos hz)
  have bad (h : fin S (sqS x y z) = false) : rnd (adds (adds (muls x x) (muls y y)) (muls z z)) 0 = ((3 : Int), 0) := rnd_b h
  have nf {p : Prop} (h : fin S (sqS x y z) = true → False) : rnd (adds (adds (muls x x) (muls y y)) (muls z z)) 0 = ((3 : Int), 0) := by
    refine bad ?_
    cases hh : fin S (sqS x y z)
    · rfl
    · exact absurd hh h
  cases h1 : fin S (muls x x) with
  | false =>
    rw [nf (p := True) (fun h => by have := (sqS_parts hx hy hz h).1; rw [h1] at this; cases this)]
    simp only [rnd_b h1, rnd_ne _ (show (3 : Int) ≠ 0 by decide), addM_ne _ _ (show (3 : Int) ≠ 0 by decide)]
  | true =>
    cases h2 : fin S (muls y y) with
    | false =>
      rw [nf (p := True) (fun h => by have := (sqS_parts hx hy hz h).2.1; rw [h2] at this; cases this)]
      simp only [rnd_g h1, rnd_b h2, rnd_ne _ (show (3 : Int) ≠ 0 by decide), addM_ne _ _ (show (3 : Int) ≠ 0 by decide)]
    | true =>
      simp only [rnd_g h1, rnd_g h2, addM_e (Eqv.zn h1) (Eqv.zn h2)]
      cases h3 : fin S (adds (muls x x) (muls y y)) with
      | false =>
        rw [nf (p := True) (fun h => by have := (sqS_parts hx hy hz h).2.2.2; rw [h3] at this; cases this)]
        simp only [rnd_b h3, rnd_ne _ (show (3 : Int) ≠ 0 by decide), addM_ne _ _ (show (3 : Int) ≠ 0 by decide)]
      | true =>
        cases h4 : fin S (muls z z) with
        | false =>
          rw [nf (p := True) (fun h => by have := (sqS_parts hx hy hz h).2.2.1; rw [h4] at this; cases this)]
          simp only [rnd_g h3, rnd_b h4, rnd_ne _ (show (3 : Int) ≠ 0 by decide), addM_ne _ _ (show (3 : Int) ≠ 0 by decide)]
        | true =>
          simp only [rnd_g h3, rnd_g h4, addM_e (Eqv.zn h3) (Eqv.zn h4)]

theorem ofPartsM_g {p x y z p' x' y' z' : Nat} (hp : Eqv S p p') (hx : Eqv S x x') (hy : Eqv S y y') (hz : Eqv S z z') (lp : p < 2 ^ 32) (lx : x < 2 ^ 32) (ly : y < 2 ^ 32) (lz : z < 2 ^ 32)
    (lp' : p' < 2 ^ 32) (lx' : x' < 2 ^ 32) (ly' : y' < 2 ^ 32) (lz' : z' < 2 ^ 32) : ofPartsM p x y z 0 = nz (tabS p' x' y' z') := by
  have nx := ng_congr lx lx' hx; have ny := ng_congr ly ly' hy; have nz' := ng_congr lz lz' hz
  unfold ofPartsM ng
  simp only [zM_g hp.1 nz'.1, zM_g ny.1 nx.1, zM_g hy.1 nx.1, zM_g hp.1 hz.1]
  unfold nz tabS ng
  simp only [zn_eq lp lp' hp, zn_eq (ng_lt lz) (ng_lt lz') nz', zn_eq (ng_lt ly) (ng_lt ly') ny, zn_eq (ng_lt lx) (ng_lt lx') nx, zn_eq ly ly' hy, zn_eq lz lz' hz]

theorem step_law {x y z h : Nat} (hx : fin S x = true) (hy : fin S y = true) (hz : fin S z = true) (hh : fin S h = true) :
    toldC (stepM x y z h 0) = nz (stepS x y z h) := by
  have n3 : (3 : Int) ≠ 0 := by decide
  have fk := half_fin hh
  have e1 : divM h 1073741824 0 = rnd (divs h 1073741824) 0 := divM_e (Eqv.refl hh) (Eqv.refl fin_2) (by rw [val2]; decide) 0
  cases h2 : fin S (muls (divs h 1073741824) (divs h 1073741824)) with
  | false =>
    have : stepS x y z h = bad8 3 := by unfold stepS; simp only [if_pos (Or.inr (Or.inl h2))]
    rw [this, nz_bad]
    refine toldC_ne ?_ n3
    unfold stepM
    simp only [e1, rnd_g fk, mulM_e (Eqv.zn fk) (Eqv.zn fk), rnd_b h2, dotM_ne _ _ _ _ _ _ n3, mulM_ne _ _ n3, addM_ne _ _ n3, subM_ne _ _ n3, divM_ne _ _ n3, ofPartsM_ne _ _ _ _ n3]
  | true =>
    cases h1 : fin S (sqS x y z) with
    | false =>
      have : stepS x y z h = bad8 3 := by unfold stepS; simp only [if_pos (Or.inl h1)]
      rw [this, nz_bad]
      refine toldC_ne ?_ n3
      unfold stepM
      simp only [e1, rnd_g fk, mulM_e (Eqv.zn fk) (Eqv.zn fk), rnd_g h2, dotM_sq hx hy hz, rnd_b h1, mulM_ne _ _ n3, addM_ne _ _ n3, subM_ne _ _ n3, divM_ne _ _ n3, ofPartsM_ne _ _ _ _ n3]
    | true =>
      cases h3 : fin S (muls (muls (divs h 1073741824) (divs h 1073741824)) (sqS x y z)) with
      | false =>
        have : stepS x y z h = bad8 3 := by unfold stepS; simp only [if_pos (Or.inr (Or.inr h3))]
        rw [this, nz_bad]
        refine toldC_ne ?_ n3
        unfold stepM
        simp only [e1, rnd_g fk, mulM_e (Eqv.zn fk) (Eqv.zn fk), rnd_g h2, dotM_sq hx hy hz, rnd_g h1, mulM_e (Eqv.zn h2) (Eqv.zn h1), rnd_b h3, mulM_ne _ _ n3, addM_ne _ _ n3, subM_ne _ _ n3, divM_ne _ _ n3, ofPartsM_ne _ _ _ _ n3]
      | true =>
        obtain ⟨_, _, _, md, md1, ms, mp, mf⟩ := stepS_mid hx hy hz hh h1 h2 h3
        have hS : stepS x y z h = (let d := adds 1065353216 (muls (muls (divs h 1073741824) (divs h 1073741824)) (sqS x y z)); let p := divs (subs 1065353216 (muls (muls (divs h 1073741824) (divs h 1073741824)) (sqS x y z))) d; let f := divs h d; if fin S (muls f x) = false ∨ fin S (muls f y) = false ∨ fin S (muls f z) = false then bad8 3 else tabS p (muls f x) (muls f y) (muls f z)) := by
          unfold stepS
          simp only [h1, h2, h3, Bool.true_eq_false, false_or, if_false]
        rw [hS]
        unfold stepM
        simp only [e1, rnd_g fk, mulM_e (Eqv.zn fk) (Eqv.zn fk), rnd_g h2, dotM_sq hx hy hz, rnd_g h1, mulM_e (Eqv.zn h2) (Eqv.zn h1), rnd_g h3]
        generalize muls (muls (divs h 1073741824) (divs h 1073741824)) (sqS x y z) = q at *
        simp only [addM_e (Eqv.refl fin_1) (Eqv.zn h3), subM_e (Eqv.refl fin_1) (Eqv.zn h3), rnd_g md, rnd_g ms]
        have d0 : val S (adds 1065353216 q) ≠ 0 := by have := md1; grind
        simp only [divM_e (Eqv.zn ms) (Eqv.zn md) d0, divM_e (Eqv.refl hh) (Eqv.zn md) d0, rnd_g mp, rnd_g mf]
        have lp := divs_lt ms md d0
        generalize adds 1065353216 q = d at *
        have ef := Eqv.zn mf
        have hf := mf
        have hp := mp
        clear d0 hS
        generalize divs (subs 1065353216 q) d = p at *
        generalize divs h d = f at *
        simp only [mulM_e ef (Eqv.refl hx), mulM_e ef (Eqv.refl hy), mulM_e ef (Eqv.refl hz)]
        have lx := muls_lt hf hx; have ly := muls_lt hf hy; have lz := muls_lt hf hz
        cases hX : fin S (muls f x) with
        | false =>
          rw [if_pos (.inl rfl), nz_bad]
          refine toldC_ne ?_ n3
          simp only [rnd_b hX, rnd_ne _ n3, ofPartsM_ne _ _ _ _ n3]
        | true =>
          cases hY : fin S (muls f y) with
          | false =>
            rw [if_pos (.inr (.inl rfl)), nz_bad]
            refine toldC_ne ?_ n3
            simp only [rnd_g hX, rnd_b hY, rnd_ne _ n3, ofPartsM_ne _ _ _ _ n3]
          | true =>
            cases hZ : fin S (muls f z) with
            | false =>
              rw [if_pos (.inr (.inr rfl)), nz_bad]
              refine toldC_ne ?_ n3
              simp only [rnd_g hX, rnd_g hY, rnd_b hZ, rnd_ne _ n3, ofPartsM_ne _ _ _ _ n3]
            | true =>
              rw [if_neg (by simp)]
              simp only [rnd_g hX, rnd_g hY, rnd_g hZ]
              rw [ofPartsM_g (Eqv.zn hp) (Eqv.zn hX) (Eqv.zn hY) (Eqv.zn hZ) (zn_lt lp) (zn_lt lx) (zn_lt ly) (zn_lt lz) lp lx ly lz]
              exact toldC_zero rfl
end Go.Proofs.YtmbjomjpnfnbkaaGreat
