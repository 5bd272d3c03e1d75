/-
  The law of a ramp's field: what the program computes of one part is what the reference does.
-/
import Derived.Test.YtmbjomjpnfnbkaaP9
set_option linter.unusedSimpArgs false
set_option linter.unusedVariables false
namespace Go.Proofs.Ytmbjomjpnfnbkaa
open Go.RowKit Flt

theorem product_nf {x y : Ieee.Datum} (h : (∀ s m e, x ≠ .number s m e) ∨ (∀ s m e, y ≠ .number s m e)) : fin S ((x.product y).map S.write |>.getD qn) = false := by
  cases x with
  | nan s t => cases y <;> exact qn_fin
  | infinity s =>
    cases y with
    | nan t u => exact qn_fin
    | infinity t => exact inf_nf _
    | number t n j =>
      simp only [Ieee.Datum.product]
      split
      · exact qn_fin
      · exact inf_nf _
  | number s m i =>
    cases y with
    | nan t u => exact qn_fin
    | infinity t =>
      simp only [Ieee.Datum.product]
      split
      · exact qn_fin
      · exact inf_nf _
    | number t n j => rcases h with h | h <;> exact absurd rfl (h _ _ _)
theorem muls_nf {x y : Nat} (h : fin S x = false ∨ fin S y = false) : fin S (muls x y) = false :=
  product_nf (h.imp not_num not_num)
theorem RawR.mulG {x y r n x' y' : Nat} (h : RawR .mul x y r n) (hx : AsG x x') (hy : AsG y y') : AsG r (muls x' y') := by
  have a : AsG r (muls x y) := h.asg rfl
  by_cases hf : fin S x = true ∧ fin S y = true
  · rw [← hx.2 hf.1, ← hy.2 hf.2]; exact a
  · have h1 : fin S x = false ∨ fin S y = false := by
      cases h1 : fin S x <;> cases h2 : fin S y <;> simp_all
    have n1 := muls_nf h1
    have n2 : fin S (muls x' y') = false := muls_nf (h1.imp (fun h => hx.1 ▸ h) (fun h => hy.1 ▸ h))
    have n3 : fin S r = false := a.1.trans n1
    exact ⟨n3.trans n2.symm, fun h => by rw [n3] at h; cases h⟩

/-- A part of a field of a ramp, from x to y at t, bare. -/
def compS (x y t : Nat) : Nat := adds x (muls (subs y x) t)
/-- The program's part. -/
def compM (x y t : Nat) (c : Int) : Int × Nat :=
  let u := subM y x c
  let v := mulM u.2 t u.1
  addM x v.2 v.1
theorem compM_ne (x y t : Nat) {c : Int} (h : c ≠ 0) : compM x y t c = (c, 0) := by
  unfold compM; simp only [subM_ne _ _ h, mulM_ne _ _ h, addM_ne _ _ h]
theorem comp_law {x y t : Nat} (hx : FW x) (hy : FW y) (ht : fin S t = true) :
    (fin S (compS x y t) = true → compM x y (zn t) 0 = (0, zn (compS x y t))) ∧ (fin S (compS x y t) = false → compM x y (zn t) 0 = (3, 0)) := by
  have n3 : (3 : Int) ≠ 0 := by decide
  unfold compM compS
  rw [subM_e (Eqv.refl hy.2) (Eqv.refl hx.2) 0]
  cases fu : fin S (subs y x) with
  | false =>
    have : fin S (adds x (muls (subs y x) t)) = false := adds_nf (.inr (muls_nf (.inl fu)))
    rw [this]
    refine ⟨fun h => (by cases h), fun _ => ?_⟩
    simp only [rnd_b fu, mulM_ne _ _ n3, addM_ne _ _ n3]
  | true =>
    simp only [rnd_g fu]
    rw [mulM_e (Eqv.zn fu) (Eqv.zn ht) 0]
    cases fv : fin S (muls (subs y x) t) with
    | false =>
      have : fin S (adds x (muls (subs y x) t)) = false := adds_nf (.inr fv)
      rw [this]
      refine ⟨fun h => (by cases h), fun _ => ?_⟩
      simp only [rnd_b fv, addM_ne _ _ n3]
    | true =>
      simp only [rnd_g fv]
      rw [addM_e (Eqv.refl hx.2) (Eqv.zn fv) 0]
      exact ⟨fun h => rnd_g h, fun h => rnd_b h⟩
end Go.Proofs.Ytmbjomjpnfnbkaa
