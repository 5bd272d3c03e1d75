/-
  The drifts of the powers of a step: what the program computes, whatever its code, and what the reference's are.
-/
import Derived.Test.YtmbjomjpnfnbkaaP23
import Derived.Test.YtmbjomjpnfnbkaaP24
import Derived.Test.YtmbjomjpnfnbkaaK2
set_option linter.unusedSimpArgs false
set_option linter.unusedVariables false
namespace Go.Proofs.Ytmbjomjpnfnbkaa
open Flt

theorem inTableM_bad (a0 a1 b0 b1 x0 x1 y0 y1 : Nat) {c : Int} (h : c ≠ 0) : inTableM a0 a1 b0 b1 x0 x1 y0 y1 c = (c, 0, 0) := by
  unfold inTableM plusM timesM; simp only [bothM_ne _ _ _ _ h, addM_ne _ _ h]
theorem productM_bad8 (s t : C8) {c : Int} (h : c ≠ 0) : productM s t c = bad8 c := by
  unfold productM bad8; simp only [inTableM_bad _ _ _ _ _ _ _ _ h]
/-- A family of powers, the code that all have, and their drifts. -/
structure Fam (st : C8) (c : Int) (pw : Nat → C8) (dr : Nat → Nat) : Prop where
  st3 : Lw8 3 st
  p0 : pw 0 = st
  pc : ∀ k, k < 301 → (pw k).c = c
  pn : ∀ k, k < 300 → productM st (pw k) c = pw (k + 1)
  lw : ∀ k, k < 301 → Lw8 58 (pw k)
  d : ∀ k, k < 301 → driftM (pw k) c = (c, dr k)
theorem Fam.stc {st : C8} {c : Int} {pw : Nat → C8} {dr : Nat → Nat} (F : Fam st c pw dr) : st.c = c := by
  have := F.pc 0 (by omega); rwa [F.p0] at this
theorem fam_bad : Fam (bad8 3) 3 (fun _ => bad8 3) (fun _ => (driftM (bad8 3) 3).2) := by
  refine ⟨Lw8.bad 3 3, rfl, fun _ _ => rfl, fun k _ => productM_bad8 _ _ (by decide), fun _ _ => Lw8.bad 58 3, fun k _ => ?_⟩
  have := (driftM_ne (bad8 3) (c := 3) (by decide)).1
  exact Prod.ext this rfl
theorem powS_small {x y z h : Nat} (hx : fin S x = true) (hy : fin S y = true) (hz : fin S z = true) (hh : fin S h = true) (e : (stepS x y z h).c = 0) :
    Lw8 3 (stepS x y z h) ∧ (∀ k, k < 301 → Lw8 58 (powS (stepS x y z h) k)) ∧ (∀ k, (powS (stepS x y z h) k).c = 0) := by
  rcases stepS_norm hx hy hz hh with h | ⟨p, X, Y, Z, h, hp, hX, hY, hZ, hN⟩
  · rw [h] at e; exact absurd e (by decide)
  · rw [h]
    refine ⟨tabS_lw3 hp hX hY hZ, fun k hk => (pow_small hp hX hY hZ hN k hk).1, fun k => ?_⟩
    cases k with
    | zero => rfl
    | succ k => rfl
theorem fam_good {x y z h : Nat} (hx : FW x) (hy : FW y) (hz : FW z) (hh : FW h) (e : (stepS x y z h).c = 0) :
    Fam (stepM x y z h 0) 0 (fun k => nz (powS (stepS x y z h) k)) (fun k => zn (driftS (powS (stepS x y z h) k))) := by
  obtain ⟨l3, l, hc⟩ := powS_small hx.2 hy.2 hz.2 hh.2 e
  rw [stepM_g hx hy hz hh e]
  refine ⟨l3.nz, rfl, fun k _ => hc k, fun k hk => ?_, fun k hk => (l k hk).nz, fun k hk => drift_law (l k hk)⟩
  exact (product_law l3 (l k (by omega)) (by decide) (by decide)).1
/-- The drifts. -/
def drs (dr : Nat → Nat) (n : Nat) : List Nat := (List.range n).map dr
theorem drs_snoc (dr : Nat → Nat) (n : Nat) : drs dr (n + 1) = drs dr n ++ [dr n] := by simp [drs, List.range_succ]
def fl32 (l : List Nat) : List Go.Value := l.map fun x => .float .f32 x
theorem fl32_snoc (l : List Nat) (x : Nat) : fl32 (l ++ [x]) = fl32 l ++ [.float .f32 x] := by simp [fl32]
theorem drs_length (dr : Nat → Nat) (n : Nat) : (drs dr n).length = n := by simp [drs]
/-- The answer. -/
def driftR (x y z h : Nat) (n : Int) : Int × List Nat :=
  if isFin4 x y z h = true then (if inB n 1 300 = true then (if (stepS x y z h).c = 0 then (0, drs (fun k => zn (driftS (powS (stepS x y z h) k))) n.toNat) else (3, [])) else (2, [])) else (1, [])
theorem driftR_bad1 {x y z h : Nat} {n : Int} (hf : isFin4 x y z h = false) : driftR x y z h n = (1, []) := if_neg (by simp [hf])
theorem driftR_bad2 {x y z h : Nat} {n : Int} (hf : isFin4 x y z h = true) (h2 : inB n 1 300 = false) : driftR x y z h n = (2, []) := by unfold driftR; rw [if_pos hf, if_neg (by simp [h2])]
theorem driftR_bad3 {x y z h : Nat} {n : Int} (hf : isFin4 x y z h = true) (h2 : inB n 1 300 = true) (h3 : (stepS x y z h).c ≠ 0) : driftR x y z h n = (3, []) := by unfold driftR; rw [if_pos hf, if_pos h2, if_neg h3]
theorem driftR_good {x y z h : Nat} {n : Int} (hf : isFin4 x y z h = true) (h2 : inB n 1 300 = true) (h3 : (stepS x y z h).c = 0) : driftR x y z h n = (0, drs (fun k => zn (driftS (powS (stepS x y z h) k))) n.toNat) := by unfold driftR; rw [if_pos hf, if_pos h2, if_pos h3]
/-- In every case with numbers in bounds: a family, and what is told of it. -/
theorem fam_all {x y z h : Nat} {n : Int} (hx : FW x) (hy : FW y) (hz : FW z) (hh : FW h) (hf : isFin4 x y z h = true) (h2 : inB n 1 300 = true) :
    ∃ pw dr, Fam (stepM x y z h 0) (stepM x y z h 0).c pw dr ∧ driftR x y z h n = if (stepM x y z h 0).c = 0 then (0, drs dr n.toNat) else ((stepM x y z h 0).c, []) := by
  by_cases e : (stepS x y z h).c = 0
  · have F := fam_good hx hy hz hh e
    have e2 := F.stc
    rw [e2]
    exact ⟨_, _, F, by rw [driftR_good hf h2 e, if_pos rfl]⟩
  · rcases stepS_norm hx.2 hy.2 hz.2 hh.2 with h3 | ⟨p, X, Y, Z, h3, _⟩
    · have e3 := stepM_b hx hy hz hh h3
      rw [e3]
      refine ⟨_, _, fam_bad, ?_⟩
      rw [driftR_bad3 hf h2 e, if_neg (show (bad8 3).c ≠ 0 by decide)]
      rfl
    · rw [h3] at e; exact absurd rfl e
end Go.Proofs.Ytmbjomjpnfnbkaa
