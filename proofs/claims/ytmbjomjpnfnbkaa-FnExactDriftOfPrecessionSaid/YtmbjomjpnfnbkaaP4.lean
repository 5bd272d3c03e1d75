/-
  The law of the error of a step: what the program computes is what the reference does.
-/
import Derived.Test.YtmbjomjpnfnbkaaP3
import Derived.Test.YtmbjomjpnfnbkaaD7
set_option linter.unusedSimpArgs false
set_option linter.unusedVariables false
namespace Go.Proofs.Ytmbjomjpnfnbkaa
open Flt

theorem ofPartsM_bad (p x y z : Nat) {c : Int} (h : c ≠ 0) : ofPartsM p x y z c = bad8 c := by
  unfold ofPartsM bad8; simp only [zM_ne _ _ h]
theorem ofPartsM_zero {p x y z : Nat} (hp : FW p) (hx : FW x) (hy : FW y) (hz : FW z) : (ofPartsM p x y z 0).c = 0 := by
  rw [ofPartsM_g (Eqv.refl hp.2) (Eqv.refl hx.2) (Eqv.refl hy.2) (Eqv.refl hz.2) hp.1 hx.1 hy.1 hz.1 hp.1 hx.1 hy.1 hz.1]; rfl
theorem stepM_bad (x y z h : Nat) {c : Int} (hc : c ≠ 0) : stepM x y z h c = bad8 c := by
  unfold stepM
  simp only [divM_ne _ _ hc, mulM_ne _ _ hc, dotM_ne _ _ _ _ _ _ hc, addM_ne _ _ hc, subM_ne _ _ hc, ofPartsM_bad _ _ _ _ hc]
/-- A step: a code and nothing else, or no code. -/
theorem stepM_or {x y z h : Nat} (hx : FW x) (hy : FW y) (hz : FW z) (hh : FW h) (c : Int) : (stepM x y z h c).c = 0 ∨ stepM x y z h c = bad8 (stepM x y z h c).c := by
  have key : ∀ (k kk d0 q d s p f X Y Z : Int × Nat), divM h 1073741824 c = k → mulM k.2 k.2 k.1 = kk → dotM x y z x y z kk.1 = d0 → mulM kk.2 d0.2 d0.1 = q → addM 1065353216 q.2 q.1 = d → subM 1065353216 q.2 d.1 = s → divM s.2 d.2 s.1 = p → divM h d.2 p.1 = f →
      mulM f.2 x f.1 = X → mulM f.2 y X.1 = Y → mulM f.2 z Y.1 = Z → (ofPartsM p.2 X.2 Y.2 Z.2 Z.1).c = 0 ∨ ofPartsM p.2 X.2 Y.2 Z.2 Z.1 = bad8 (ofPartsM p.2 X.2 Y.2 Z.2 Z.1).c := by
    intro k kk d0 q d s p f X Y Z e1 e2 e3 e4 e5 e6 e7 e8 e9 e10 e11
    have fq : fin S q.2 = true := e4 ▸ mulM_fin _ _ _
    have fd : fin S d.2 = true := e5 ▸ rnd_fin _ _
    have fs : fin S s.2 = true := e6 ▸ rnd_fin _ _
    have wp : FW p.2 := e7 ▸ divM_FW fs fd _
    have wf : FW f.2 := e8 ▸ divM_FW hh.2 fd _
    have wX : FW X.2 := e9 ▸ mulM_FW wf.2 hx.2 _
    have wY : FW Y.2 := e10 ▸ mulM_FW wf.2 hy.2 _
    have wZ : FW Z.2 := e11 ▸ mulM_FW wf.2 hz.2 _
    by_cases hz0 : Z.1 = 0
    · left; rw [hz0]; exact ofPartsM_zero wp wX wY wZ
    · right; rw [ofPartsM_bad _ _ _ _ hz0]; rfl
  exact key _ _ _ _ _ _ _ _ _ _ _ rfl rfl rfl rfl rfl rfl rfl rfl rfl rfl rfl

theorem divM_zn {k y : Nat} (hk : fin S k = true) (hy : fin S y = true) (c : Int) : divM (zn k) y c = divM k y c := by
  cases h0 : isZ y with
  | true => rw [divM_zero _ _ h0, divM_zero _ _ h0]
  | false =>
    have hv : val S y ≠ 0 := fun hz => by rw [(isZ_iff hy).2 hz] at h0; cases h0
    rw [divM_e (Eqv.zn hk) (Eqv.refl hy) hv, divM_e (Eqv.refl hk) (Eqv.refl hy) hv]
theorem stepM_zn {x y z k : Nat} (hk : fin S k = true) (c : Int) : stepM x y z (zn k) c = stepM x y z k c := by
  have fd : ∀ (q : Nat) (c' : Int), fin S (addM 1065353216 q c').2 = true := fun q c' => rnd_fin _ _
  unfold stepM
  simp only [divM_zn hk fin_2, divM_zn hk (fd _ _)]

theorem stepS_lw {x y z h : Nat} (hx : fin S x = true) (hy : fin S y = true) (hz : fin S z = true) (hh : fin S h = true) : Lw8 3 (stepS x y z h) ∧ ((stepS x y z h).c = 0 ∨ stepS x y z h = bad8 3) := by
  rcases stepS_cases hx hy hz hh with e | ⟨p, X, Y, Z, e, hp, hX, hY, hZ⟩
  · rw [e]; exact ⟨Lw8.bad 3 3, .inr rfl⟩
  · rw [e]
    have hp' : Lw 3 p := Lw.mono (k := 1) hp (by decide)
    exact ⟨Lw8.tab hp' hX hY hZ, .inl rfl⟩
/-- The program's step where the reference's has no code, and where it has. -/
theorem stepM_g {x y z h : Nat} (hx : FW x) (hy : FW y) (hz : FW z) (hh : FW h) (e : (stepS x y z h).c = 0) : stepM x y z h 0 = nz (stepS x y z h) := by
  have l := step_law hx.2 hy.2 hz.2 hh.2
  rcases stepM_or hx hy hz hh 0 with h0 | h0
  · rwa [toldC_zero h0] at l
  · by_cases h1 : (stepM x y z h 0).c = 0
    · rwa [toldC_zero h1] at l
    · rw [toldC_ne rfl h1] at l
      have : (nz (stepS x y z h)).c = 0 := e
      rw [← l] at this
      simp only [bad8] at this
      exact absurd this h1
theorem stepM_b {x y z h : Nat} (hx : FW x) (hy : FW y) (hz : FW z) (hh : FW h) (e : stepS x y z h = bad8 3) : stepM x y z h 0 = bad8 3 := by
  have l := step_law hx.2 hy.2 hz.2 hh.2
  rw [e, nz_bad] at l
  by_cases h1 : (stepM x y z h 0).c = 0
  · rw [toldC_zero h1] at l
    exact l
  · rw [toldC_ne rfl h1] at l
    have e3 : (stepM x y z h 0).c = 3 := by have := congrArg C8.c l; exact this
    rcases stepM_or hx hy hz hh 0 with h0 | h0
    · exact absurd h0 h1
    · rw [h0, e3]
theorem stepM_lw {x y z h : Nat} (hx : FW x) (hy : FW y) (hz : FW z) (hh : FW h) (c : Int) : Lw8 3 (stepM x y z h c) := by
  by_cases hc : c = 0
  · subst hc
    obtain ⟨l, e | e⟩ := stepS_lw hx.2 hy.2 hz.2 hh.2
    · rw [stepM_g hx hy hz hh e]; exact l.nz
    · rw [stepM_b hx hy hz hh e]; exact Lw8.bad 3 3
  · rw [stepM_bad _ _ _ _ hc]; exact Lw8.bad 3 c

def mxq (p q : Rat) : Rat := if p < q then q else p
theorem mxq3 (m a b : Rat) (ha : 0 ≤ a) : mxq m (mxq (mxq 0 a) b) = mxq (mxq m a) b := by unfold mxq; grind

theorem dist_step {m m' : Nat} {q : Rat} {d e : Nat} (hm : Is m q) (hm' : Is m' q) (hz : zn m = m) (hd : FW d) (he : FW e) :
    ∃ q', Is (mx m (greatM (zn d) (zn e))) q' ∧ Is (upS (upS m' (szS d)) (szS e)) q' ∧ zn (mx m (greatM (zn d) (zn e))) = mx m (greatM (zn d) (zn e)) := by
  have fd : FW (zn d) := ⟨zn_lt hd.1, zn_fin hd.2⟩
  have fe : FW (zn e) := ⟨zn_lt he.1, zn_fin he.2⟩
  obtain ⟨s1, z1⟩ := sizeM_is fd
  obtain ⟨s2, z2⟩ := sizeM_is fe
  rw [zn_val hd.2] at s1
  rw [zn_val he.2] at s2
  have g := mx_is (mx_is Is.zero s1) s2
  have zg : zn (greatM (zn d) (zn e)) = greatM (zn d) (zn e) := zn_mx (mx_is Is.zero s1).fin s2.fin (zn_mx fin0 s1.fin (zn_zero fin0 val0) z1) z2
  have a := mx_is hm g
  have b := upS_is (upS_is hm' (szS_is hd)) (szS_is he)
  refine ⟨_, a, ?_, zn_mx hm.fin g.fin hz zg⟩
  have := mxq3 q (ab (val S d)) (ab (val S e)) (ab_nonneg _)
  unfold mxq at this
  rw [this]; exact b

theorem dist_law {s t : C8} {k : Int} (hs : Lw8 k s) (ht : Lw8 k t) (h3 : -149 ≤ k + 1) (h4 : k + 1 ≤ 127) :
    distM (nz s) (nz t) 0 = (0, zn (distS s t)) ∧ Df8 s t := by
  obtain ⟨e0, l0, m0⟩ := minus_law hs.a0 hs.a1 ht.a0 ht.a1 h3 h4
  obtain ⟨e1, l1, m1⟩ := minus_law hs.b0 hs.b1 ht.b0 ht.b1 h3 h4
  obtain ⟨e2, l2, m2⟩ := minus_law hs.c0 hs.c1 ht.c0 ht.c1 h3 h4
  obtain ⟨e3, l3, m3⟩ := minus_law hs.d0 hs.d1 ht.d0 ht.d1 h3 h4
  refine ⟨?_, ⟨l0.2.1, m0.2.1, l1.2.1, m1.2.1, l2.2.1, m2.2.1, l3.2.1, m3.2.1⟩⟩
  obtain ⟨q0, a0, b0, z0⟩ := dist_step Is.zero Is.zero (zn_zero fin0 val0) l0.FW m0.FW
  obtain ⟨q1, a1, b1, z1⟩ := dist_step a0 b0 z0 l1.FW m1.FW
  obtain ⟨q2, a2, b2, z2⟩ := dist_step a1 b1 z1 l2.FW m2.FW
  obtain ⟨q3, a3, b3, z3⟩ := dist_step a2 b2 z2 l3.FW m3.FW
  have e := a3.eq b3
  rw [z3] at e
  unfold distM distS nz
  simp only [e0, e1, e2, e3]
  rw [e]

/-- 'stepError', from no code on. -/
def errM (x y z h : Nat) (c : Int) : Int × Nat :=
  let a := stepM x y z h c
  let k := divM h 1073741824 a.c
  let f := stepM x y z k.2 k.1
  let p := productM f f f.c
  distM a p p.c
/-- The error of a step, bare. -/
def errS (x y z h : Nat) : Int × Nat :=
  let a := stepS x y z h
  let f := stepS x y z (divs h 1073741824)
  if a.c ≠ 0 then (a.c, 0) else if f.c ≠ 0 then (f.c, 0) else (0, distS a (productS f f))

theorem err_law {x y z h : Nat} (hx : FW x) (hy : FW y) (hz : FW z) (hh : FW h) : (errS x y z h).1 = (errM x y z h 0).1 ∧ ((errM x y z h 0).1 = 0 → (errM x y z h 0).2 = zn (errS x y z h).2) ∧ ((errM x y z h 0).1 ≠ 0 → (errS x y z h).2 = 0) := by
  have n3 : (3 : Int) ≠ 0 := by decide
  have fk := half_fin hh.2
  have lk : divs h 1073741824 < 2 ^ 32 := divs_lt hh.2 fin_2 (by rw [val2]; decide)
  have e1 : divM h 1073741824 0 = (0, zn (divs h 1073741824)) := by rw [divM_e (Eqv.refl hh.2) (Eqv.refl fin_2) (by rw [val2]; decide) 0, rnd_g fk]
  obtain ⟨la, ea | ea⟩ := stepS_lw hx.2 hy.2 hz.2 hh.2
  · obtain ⟨lf, ef | ef⟩ := stepS_lw hx.2 hy.2 hz.2 fk
    · have s1 := stepM_g hx hy hz hh ea
      have hst : stepM x y z (zn (divs h 1073741824)) 0 = nz (stepS x y z (divs h 1073741824)) := by
        rw [stepM_zn fk]; exact stepM_g hx hy hz ⟨lk, fk⟩ ef
      have hp := product_law lf lf (by decide) (by decide)
      have hd := dist_law (k := 8) (la.mono (by decide)) hp.2 (by decide) (by decide)
      have hM : errM x y z h 0 = (0, zn (distS (stepS x y z h) (productS (stepS x y z (divs h 1073741824)) (stepS x y z (divs h 1073741824))))) := by
        unfold errM
        have c1 : (nz (stepS x y z h)).c = 0 := ea
        have c2 : (nz (stepS x y z (divs h 1073741824))).c = 0 := ef
        simp only [s1, c1, e1, hst, c2, hp.1]
        exact hd.1
      have hS : errS x y z h = (0, distS (stepS x y z h) (productS (stepS x y z (divs h 1073741824)) (stepS x y z (divs h 1073741824)))) := by
        unfold errS; simp only [ea, ef]; rfl
      rw [hM, hS]
      exact ⟨rfl, fun _ => rfl, fun h => absurd rfl h⟩
    · have s1 := stepM_g hx hy hz hh ea
      have hst : stepM x y z (zn (divs h 1073741824)) 0 = bad8 3 := by
        rw [stepM_zn fk]; exact stepM_b hx hy hz ⟨lk, fk⟩ ef
      have c1 : (nz (stepS x y z h)).c = 0 := ea
      have c3 : (bad8 3).c = 3 := rfl
      have hM : (errM x y z h 0).1 = 3 := by
        unfold errM
        simp only [s1, c1, e1, hst, c3, productM_ne _ _ n3, distM_ne _ _ n3]
      have hS : errS x y z h = (3, 0) := by
        unfold errS; simp only [ea, ef, c3]; rfl
      rw [hM, hS]
      exact ⟨rfl, fun h => absurd h n3, fun _ => rfl⟩
  · have s1 := stepM_b hx hy hz hh ea
    have c3 : (bad8 3).c = 3 := rfl
    have hM : (errM x y z h 0).1 = 3 := by
      unfold errM
      simp only [s1, c3, divM_ne _ _ n3, stepM_bad _ _ _ _ n3, productM_ne _ _ n3, distM_ne _ _ n3]
    have hS : errS x y z h = (3, 0) := by
      unfold errS; simp only [ea, c3]; rfl
    rw [hM, hS]
    exact ⟨rfl, fun h => absurd h n3, fun _ => rfl⟩
end Go.Proofs.Ytmbjomjpnfnbkaa
