/-
  The law of the fields of a ramp: what the program computes is what the reference does.
-/
import Derived.Test.YtmbjomjpnfnbkaaP10
set_option linter.unusedSimpArgs false
set_option linter.unusedVariables false
namespace Go.Proofs.Ytmbjomjpnfnbkaa
open Go.RowKit Flt

/-- A vector of words. -/
structure V3N where
  x : Nat
  y : Nat
  z : Nat
def V3N.fw (v : V3N) : Prop := FW v.x ∧ FW v.y ∧ FW v.z
def V3N.zn (v : V3N) : V3N := ⟨Flt.zn v.x, Flt.zn v.y, Flt.zn v.z⟩
/-- A field of a ramp at t, bare. -/
def vecS (a b : V3N) (t : Nat) : V3N := ⟨compS a.x b.x t, compS a.y b.y t, compS a.z b.z t⟩
/-- The program's field: the code, the vector. -/
def vecM (a b : V3N) (t : Nat) (c : Int) : Int × V3N :=
  let u := compM a.x b.x t c
  let v := compM a.y b.y t u.1
  let w := compM a.z b.z t v.1
  (w.1, ⟨u.2, v.2, w.2⟩)
def V3N.fin (v : V3N) : Bool := Flt.fin S v.x && Flt.fin S v.y && Flt.fin S v.z
def V3N.zero : V3N := ⟨0, 0, 0⟩

theorem vecM_ne (a b : V3N) (t : Nat) {c : Int} (h : c ≠ 0) : vecM a b t c = (c, V3N.zero) := by
  unfold vecM V3N.zero; simp only [compM_ne _ _ _ h]
theorem vec_law {a b : V3N} {t : Nat} (ha : a.fw) (hb : b.fw) (ht : fin S t = true) :
    ((vecS a b t).fin = true → vecM a b (zn t) 0 = (0, (vecS a b t).zn)) ∧ ((vecS a b t).fin = false → (vecM a b (zn t) 0).1 = 3) := by
  have n3 : (3 : Int) ≠ 0 := by decide
  have l1 := comp_law ha.1 hb.1 ht
  have l2 := comp_law ha.2.1 hb.2.1 ht
  have l3 := comp_law ha.2.2 hb.2.2 ht
  unfold vecM vecS V3N.fin V3N.zn
  simp only
  cases f1 : fin S (compS a.x b.x t) with
  | false =>
    refine ⟨fun h => (by simp at h), fun _ => ?_⟩
    simp only [l1.2 f1, compM_ne _ _ _ n3]
  | true =>
    cases f2 : fin S (compS a.y b.y t) with
    | false =>
      refine ⟨fun h => (by simp at h), fun _ => ?_⟩
      simp only [l1.1 f1, l2.2 f2, compM_ne _ _ _ n3]
    | true =>
      cases f3 : fin S (compS a.z b.z t) with
      | false =>
        refine ⟨fun h => (by simp at h), fun _ => ?_⟩
        simp only [l1.1 f1, l2.1 f2, l3.2 f3]
      | true =>
        refine ⟨fun _ => ?_, fun h => (by simp at h)⟩
        simp only [l1.1 f1, l2.1 f2, l3.1 f3]

/-- The reference's fields at the times of a list: the code, the fields. -/
def rampS (a b : V3N) : List Nat → Int × List V3N
  | [] => (0, [])
  | t :: ts => if (vecS a b t).fin = true then (if (rampS a b ts).1 = 0 then (0, vecS a b t :: (rampS a b ts).2) else ((rampS a b ts).1, [])) else (3, [])
/-- The program's fields, from a code on. -/
def rampM (a b : V3N) : List Nat → Int → Int × List V3N
  | [], c => (c, [])
  | t :: ts, c => ((rampM a b ts (vecM a b t c).1).1, (vecM a b t c).2 :: (rampM a b ts (vecM a b t c).1).2)
theorem rampM_ne (a b : V3N) {c : Int} (h : c ≠ 0) : ∀ ts : List Nat, (rampM a b ts c).1 = c
  | [] => rfl
  | t :: ts => by unfold rampM; simp only [vecM_ne _ _ _ h]; exact rampM_ne a b h ts
theorem ramp_law {a b : V3N} (ha : a.fw) (hb : b.fw) : ∀ ts : List Nat, (∀ t ∈ ts, fin S t = true) →
    (rampM a b (ts.map zn) 0).1 = (rampS a b ts).1 ∧ ((rampS a b ts).1 = 0 → (rampM a b (ts.map zn) 0).2 = (rampS a b ts).2.map V3N.zn)
  | [], _ => ⟨rfl, fun _ => rfl⟩
  | t :: ts, h => by
    obtain ⟨l1, l2⟩ := vec_law ha hb (h t (List.mem_cons_self ..))
    obtain ⟨i1, i2⟩ := ramp_law ha hb ts (fun u hu => h u (List.mem_cons_of_mem _ hu))
    rw [List.map_cons]
    unfold rampM rampS
    cases hf : (vecS a b t).fin with
    | false =>
      rw [if_neg (by simp)]
      have e := l2 hf
      refine ⟨?_, fun h => (by simp at h)⟩
      simp only [e, rampM_ne a b (show (3 : Int) ≠ 0 by decide)]
    | true =>
      rw [if_pos rfl]
      have e := l1 hf
      simp only [e]
      by_cases h0 : (rampS a b ts).1 = 0
      · rw [if_pos h0]
        refine ⟨by rw [i1, h0], fun _ => ?_⟩
        rw [i2 h0]; rfl
      · rw [if_neg h0]
        exact ⟨i1, fun h => absurd h h0⟩
end Go.Proofs.Ytmbjomjpnfnbkaa
