/-
  The law of a compensated sum: what the program computes is what the reference does.
-/
import Derived.Test.YtmbjomjpnfnbkaaA13
import Derived.Test.YtmbjomjpnfnbkaaP4
import Derived.Test.YtmbjomjpnfnbkaaD1
set_option linter.unusedSimpArgs false
set_option linter.unusedVariables false
namespace Go.Proofs.Ytmbjomjpnfnbkaa
open Go.RowKit Flt

/-! What is not a number stays none. -/
theorem inf_nf (s : Bool) : fin S (S.write (.infinity s)) = false := by cases s <;> decide +kernel
theorem sum_nf {x y : Ieee.Datum} (h : (∀ s m e, x ≠ .number s m e) ∨ (∀ s m e, y ≠ .number s m e)) : fin S ((x.sum y).map S.write |>.getD qn) = false := by
  cases x with
  | nan s t => cases y <;> exact qn_fin
  | infinity s =>
    cases y with
    | nan t u => exact qn_fin
    | infinity t =>
      simp only [Ieee.Datum.sum]
      split
      · exact inf_nf s
      · exact qn_fin
    | number t n j => exact inf_nf s
  | number s m i =>
    cases y with
    | nan t u => exact qn_fin
    | infinity t => exact inf_nf t
    | number t n j => rcases h with h | h <;> exact absurd rfl (h _ _ _)
theorem not_num {x : Nat} (h : fin S x = false) : ∀ s m e, S.read x ≠ .number s m e := by
  intro s m e hc; unfold fin at h; rw [hc] at h; cases h
theorem adds_nf {x y : Nat} (h : fin S x = false ∨ fin S y = false) : fin S (adds x y) = false :=
  sum_nf (h.imp not_num not_num)
theorem subs_nf {x y : Nat} (h : fin S x = false ∨ fin S y = false) : fin S (subs x y) = false :=
  sum_nf (h.imp not_num fun hy s m e hc => by
    cases hr : S.read y with
    | number a b c => exact not_num hy _ _ _ hr
    | infinity a => rw [hr] at hc; cases hc
    | nan a b => rw [hr] at hc; cases hc)

/-- As good as: a number just if the other is one, and then the same. -/
def AsG (q v : Nat) : Prop := fin S q = fin S v ∧ (fin S q = true → q = v)
theorem AsG.refl (q : Nat) : AsG q q := ⟨rfl, fun _ => rfl⟩
theorem RawR.asg {op : BinOp} {x y r n v : Nat} (h : RawR op x y r n) (hv : ((floatBits op .f32 x y).getD qn) = v) : AsG r v := by
  rcases h with ⟨u, hu, rfl, _⟩ | ⟨hu, hn⟩
  · rw [hu] at hv; cases hv; exact AsG.refl _
  · rw [hu] at hv
    have hf : fin S r = false := by
      cases hf : fin S r with
      | false => rfl
      | true => rw [nn_of_fin hf] at hn; cases hn
    subst hv
    exact ⟨by rw [hf]; exact qn_fin.symm, fun h => by rw [hf] at h; cases h⟩
theorem RawR.add {x y r n x' y' : Nat} (h : RawR .add x y r n) (hx : AsG x x') (hy : AsG y y') : AsG r (adds x' y') := by
  have a : AsG r (adds x y) := h.asg rfl
  by_cases hf : fin S x = true ∧ fin S y = true
  · rw [← hx.2 hf.1, ← hy.2 hf.2]; exact a
  · have h1 : fin S x = false ∨ fin S y = false := by
      cases h1 : fin S x <;> cases h2 : fin S y <;> simp_all
    have n1 := adds_nf h1
    have n2 : fin S (adds x' y') = false := adds_nf (h1.imp (fun h => hx.1 ▸ h) (fun h => hy.1 ▸ h))
    have n3 : fin S r = false := a.1.trans n1
    exact ⟨n3.trans n2.symm, fun h => by rw [n3] at h; cases h⟩
theorem RawR.sub {x y r n x' y' : Nat} (h : RawR .sub x y r n) (hx : AsG x x') (hy : AsG y y') : AsG r (subs x' y') := by
  have a : AsG r (subs x y) := h.asg rfl
  by_cases hf : fin S x = true ∧ fin S y = true
  · rw [← hx.2 hf.1, ← hy.2 hf.2]; exact a
  · have h1 : fin S x = false ∨ fin S y = false := by
      cases h1 : fin S x <;> cases h2 : fin S y <;> simp_all
    have n1 := subs_nf h1
    have n2 : fin S (subs x' y') = false := subs_nf (h1.imp (fun h => hx.1 ▸ h) (fun h => hy.1 ▸ h))
    have n3 : fin S r = false := a.1.trans n1
    exact ⟨n3.trans n2.symm, fun h => by rw [n3] at h; cases h⟩

/-- 'x >= y', as the model asks it. -/
def geB2 (x y : Nat) : Bool := match Go.FloatKind.f32.format.order x y with
  | some .gt => true
  | some .eq => true
  | _ => false
theorem geB2_iff {x y : Nat} (hx : fin S x = true) (hy : fin S y = true) : geB2 x y = decide (val S y ≤ val S x) := by
  have e : Go.FloatKind.f32.format.order x y = S.order x y := rfl
  unfold geB2
  rw [e, order_fin S hx hy]
  by_cases h1 : val S x < val S y
  · rw [if_pos h1]
    have : ¬ val S y ≤ val S x := by grind
    simp [this]
  · by_cases h2 : val S x = val S y
    · rw [if_neg h1, if_pos h2]
      have : val S y ≤ val S x := by grind
      simp [this]
    · rw [if_neg h1, if_neg h2]
      have : val S y ≤ val S x := by grind
      simp [this]

/-- The reference's size. -/
def sz2 (x : Nat) : Nat := mx x (ng x)
theorem sz2_is {x : Nat} (h : FW x) : Is (sz2 x) (ab (val S x)) := by
  have hn := ng_fin h.1 h.2
  have m := mx_is (p := val S x) (q := - val S x) ⟨h.1, h.2, rfl⟩ ⟨ng_lt h.1, hn.1, hn.2⟩
  have e : (if val S x < - val S x then - val S x else val S x) = ab (val S x) := by unfold ab; split <;> split <;> grind
  rw [e] at m; exact m
/-- What is lost by an addition, bare. -/
def lostS (s x : Nat) : Nat := if geB2 (sz2 s) (sz2 x) = true then adds (subs s (adds s x)) x else adds (subs x (adds s x)) s
/-- The reference's sum from a state on. -/
def csS : List Nat → Nat → Nat → Int × Nat
  | [], s, r => if fin S (adds s r) = true then (0, adds s r) else (3, 0)
  | x :: xs, s, r => if fin S (adds s x) = true ∧ fin S (adds r (lostS s x)) = true then csS xs (adds s x) (adds r (lostS s x)) else (3, 0)
/-- The program's sum from a state on. -/
def csM : List Nat → Nat → Nat → Int → Int × Nat
  | [], s, r, c => addM s r c
  | x :: xs, s, r, c =>
    let t := addM s x c
    if geB2 (sizeM s) (sizeM x) = true then
      let u := subM s t.2 t.1
      let v := addM u.2 x u.1
      let q := addM r v.2 v.1
      csM xs t.2 q.2 q.1
    else
      let u := subM x t.2 t.1
      let v := addM u.2 s u.1
      let q := addM r v.2 v.1
      csM xs t.2 q.2 q.1

theorem csM_ne {c : Int} (h : c ≠ 0) : ∀ (xs : List Nat) (s r : Nat), csM xs s r c = (c, 0)
  | [], s, r => addM_ne _ _ h
  | x :: xs, s, r => by
    unfold csM
    simp only [addM_ne _ _ h, subM_ne _ _ h, csM_ne h xs, ite_self]

theorem size_geB {s x : Nat} (hs : FW s) (hx : FW x) : geB2 (sizeM (zn s)) (sizeM x) = geB2 (sz2 s) (sz2 x) := by
  have ws : FW (zn s) := ⟨zn_lt hs.1, zn_fin hs.2⟩
  have a := (sizeM_is ws).1
  rw [zn_val hs.2] at a
  have b := (sizeM_is hx).1
  have c := sz2_is hs
  have d := sz2_is hx
  rw [geB2_iff a.fin b.fin, geB2_iff c.fin d.fin, a.val, b.val, c.val, d.val]

theorem adds_fin {x y : Nat} (h : fin S (adds x y) = true) : fin S x = true ∧ fin S y = true := by
  constructor
  · cases hx : fin S x with
    | true => rfl
    | false => rw [adds_nf (.inl hx)] at h; cases h
  · cases hy : fin S y with
    | true => rfl
    | false => rw [adds_nf (.inr hy)] at h; cases h

theorem toldN_3 : toldN (3, 0) = (3, 0) := rfl
/-- The rest of a round: what the program keeps of what is lost. -/
theorem lost_law {r a b t y : Nat} (hr : FW r) (ha : FW a) (hb : Eqv S b a) (ht : FW t) (hy : FW y) {y' : Nat} (hy' : Eqv S y' y) :
    let u := subM b (zn t) 0
    let v := addM u.2 y' u.1
    let q := addM (zn r) v.2 v.1
    (fin S (adds r (adds (subs a t) y)) = true → q = (0, zn (adds r (adds (subs a t) y)))) ∧ (fin S (adds r (adds (subs a t) y)) = false → q = (3, 0)) := by
  have eu : subM b (zn t) 0 = rnd (subs a t) 0 := subM_e hb (Eqv.zn ht.2) 0
  simp only [eu]
  cases fu : fin S (subs a t) with
  | false =>
    have : fin S (adds r (adds (subs a t) y)) = false := adds_nf (.inr (adds_nf (.inl fu)))
    rw [this]
    refine ⟨fun h => (by cases h), fun _ => ?_⟩
    simp only [rnd_b fu, addM_ne _ _ (show (3 : Int) ≠ 0 by decide)]
  | true =>
    simp only [rnd_g fu]
    rw [addM_e (Eqv.zn fu) hy' 0]
    cases fv : fin S (adds (subs a t) y) with
    | false =>
      have : fin S (adds r (adds (subs a t) y)) = false := adds_nf (.inr fv)
      rw [this]
      refine ⟨fun h => (by cases h), fun _ => ?_⟩
      simp only [rnd_b fv, addM_ne _ _ (show (3 : Int) ≠ 0 by decide)]
    | true =>
      simp only [rnd_g fv]
      rw [addM_e (Eqv.zn hr.2) (Eqv.zn fv) 0]
      exact ⟨fun h => rnd_g h, fun h => rnd_b h⟩

theorem cs_law : ∀ (xs : List Nat) (s r : Nat), (∀ x ∈ xs, FW x) → FW s → FW r → toldN (csM xs (zn s) (zn r) 0) = ((csS xs s r).1, zn (csS xs s r).2)
  | [], s, r, _, hs, hr => by
    unfold csM csS
    rw [addM_e (Eqv.zn hs.2) (Eqv.zn hr.2) 0]
    cases hf : fin S (adds s r) with
    | true => rw [rnd_g hf, if_pos rfl]; rfl
    | false => rw [rnd_b hf, if_neg (by simp)]; simp only [zn_zero fin0 val0, toldN_3]
  | x :: xs, s, r, hx, hs, hr => by
    have fx : FW x := hx x (List.mem_cons_self ..)
    have et : addM (zn s) x 0 = rnd (adds s x) 0 := addM_e (Eqv.zn hs.2) (Eqv.refl fx.2) 0
    unfold csM csS
    simp only [et, size_geB hs fx]
    cases ft : fin S (adds s x) with
    | false =>
      simp only [Bool.false_eq_true, false_and, if_false, rnd_b ft, subM_ne _ _ (show (3 : Int) ≠ 0 by decide), addM_ne _ _ (show (3 : Int) ≠ 0 by decide), csM_ne (show (3 : Int) ≠ 0 by decide), ite_self, toldN_3, zn_zero fin0 val0]
    | true =>
      have wt : FW (adds s x) := ⟨adds_lt hs.2 fx.2, ft⟩
      simp only [rnd_g ft]
      have key : ∀ q : Int × Nat, (fin S (adds r (lostS s x)) = true → q = (0, zn (adds r (lostS s x)))) → (fin S (adds r (lostS s x)) = false → q = (3, 0)) →
          toldN (csM xs (zn (adds s x)) q.2 q.1) = ((if True ∧ fin S (adds r (lostS s x)) = true then csS xs (adds s x) (adds r (lostS s x)) else (3, 0)).1, zn (if True ∧ fin S (adds r (lostS s x)) = true then csS xs (adds s x) (adds r (lostS s x)) else (3, 0)).2) := by
        intro q h1 h2
        cases fq : fin S (adds r (lostS s x)) with
        | false =>
          rw [h2 fq, if_neg (by simp)]
          simp only [csM_ne (show (3 : Int) ≠ 0 by decide), toldN_3, zn_zero fin0 val0]
        | true =>
          rw [h1 fq, if_pos (by simp)]
          obtain ⟨f1, f2⟩ := adds_fin fq
          exact cs_law xs _ _ (fun y hy => hx y (List.mem_cons_of_mem _ hy)) wt ⟨adds_lt f1 f2, fq⟩
      unfold lostS at key ⊢
      split
      · rename_i hg
        rw [if_pos hg] at key
        have l := lost_law hr hs (Eqv.zn hs.2) wt fx (Eqv.refl fx.2)
        exact key _ l.1 l.2
      · rename_i hg
        rw [if_neg hg] at key
        have l := lost_law hr fx (Eqv.refl fx.2) wt hs (Eqv.zn hs.2)
        exact key _ l.1 l.2
theorem csS_FW : ∀ (xs : List Nat) (s r : Nat), FW s → FW r → (∀ x ∈ xs, FW x) → fin S (csS xs s r).2 = true
  | [], s, r, hs, hr, _ => by
    unfold csS; split
    · assumption
    · exact fin0
  | x :: xs, s, r, hs, hr, hx => by
    unfold csS; split
    · rename_i h
      obtain ⟨f1, f2⟩ := adds_fin h.2
      exact csS_FW xs _ _ ⟨adds_lt hs.2 (hx x (List.mem_cons_self ..)).2, h.1⟩ ⟨adds_lt f1 f2, h.2⟩ (fun y hy => hx y (List.mem_cons_of_mem _ hy))
    · exact fin0
end Go.Proofs.Ytmbjomjpnfnbkaa
