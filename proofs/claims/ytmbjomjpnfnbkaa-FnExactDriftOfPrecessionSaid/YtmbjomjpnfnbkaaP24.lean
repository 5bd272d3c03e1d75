/-
  The drift of a table: what the program computes is what the reference does.
-/
import Derived.Test.YtmbjomjpnfnbkaaP4
import Derived.Test.YtmbjomjpnfnbkaaP3
set_option linter.unusedSimpArgs false
set_option linter.unusedVariables false
namespace Go.Proofs.Ytmbjomjpnfnbkaa
open Flt

/-- 'normSquare', 'determinant', 'drift'. -/
def normSqM (a0 a1 b0 b1 : Nat) (c : Int) : Int × Nat :=
  let q := squareM a0 a1 c
  let r := squareM b0 b1 q.1
  addM q.2 r.2 r.1
def detM (t : C8) (c : Int) : C3 :=
  let r := timesM t.a0 t.a1 t.d0 t.d1 c
  let s := timesM t.b0 t.b1 t.c0 t.c1 r.1
  minusM r.2.1 r.2.2 s.2.1 s.2.2 s.1
def driftM (t : C8) (c : Int) : Int × Nat :=
  let n := normSqM t.a0 t.a1 t.b0 t.b1 c
  let q := subM n.2 1065353216 n.1
  let d := detM t q.1
  let m := minusM d.2.1 d.2.2 1065353216 0 d.1
  (m.1, mx (sizeM q.2) (greatM m.2.1 m.2.2))
/-- The reference's, bare. -/
def normSqS (t : C8) : Nat := adds (bothS t.a0 t.a0 t.a1 t.a1) (bothS t.b0 t.b0 t.b1 t.b1)
def detS (t : C8) : Nat × Nat := (subs (timesS t.a0 t.a1 t.d0 t.d1).1 (timesS t.b0 t.b1 t.c0 t.c1).1, subs (timesS t.a0 t.a1 t.d0 t.d1).2 (timesS t.b0 t.b1 t.c0 t.c1).2)
def driftS (t : C8) : Nat := upS (upS (szS (subs (normSqS t) 1065353216)) (szS (subs (detS t).1 1065353216))) (szS (detS t).2)

theorem driftM_ne (t : C8) {c : Int} (h : c ≠ 0) : (driftM t c).1 = c ∧ (driftM t c).2 = mx (sizeM 0) (greatM 0 0) := by
  unfold driftM normSqM detM squareM timesM minusM
  simp only [bothM_ne _ _ _ _ h, addM_ne _ _ h, subM_ne _ _ h]
  exact ⟨trivial, trivial⟩

/-- What a small table's drift is made of is numbers. -/
structure DrF (t : C8) : Prop where
  s1 : Lw 118 (bothS t.a0 t.a0 t.a1 t.a1)
  s2 : Lw 118 (bothS t.b0 t.b0 t.b1 t.b1)
  n : Lw 119 (normSqS t)
  q : Lw 120 (subs (normSqS t) 1065353216)
  t1 : Lw 118 (timesS t.a0 t.a1 t.d0 t.d1).1
  t2 : Lw 118 (timesS t.a0 t.a1 t.d0 t.d1).2
  t3 : Lw 118 (timesS t.b0 t.b1 t.c0 t.c1).1
  t4 : Lw 118 (timesS t.b0 t.b1 t.c0 t.c1).2
  d1 : Lw 119 (detS t).1
  d2 : Lw 119 (detS t).2
  m : Lw 120 (subs (detS t).1 1065353216)
theorem one_lw2 (k : Int) (h : 0 ≤ k) : Lw k 1065353216 := by
  refine Lw.mono (k := 0) ⟨by decide, fin_1, ?_⟩ h
  rw [val1, Rat.zpow_zero]; decide +kernel
theorem drF_of {t : C8} (h : Lw8 58 t) : DrF t := by
  have b : ∀ {a b x y : Nat}, Lw 58 a → Lw 58 b → Lw 58 x → Lw 58 y → Lw 118 (bothS a b x y) := fun ha hb hx hy => (bothS_lw (k := 116) ha hb hx hy (by decide) (by decide) (by decide)).mono (by decide)
  have s1 := b h.a0 h.a0 h.a1 h.a1
  have s2 := b h.b0 h.b0 h.b1 h.b1
  have t1 := b h.a0 h.d0 h.a1.ng h.d1
  have t2 := b h.a0 h.d1 h.a1 h.d0
  have t3 := b h.b0 h.c0 h.b1.ng h.c1
  have t4 := b h.b0 h.c1 h.b1 h.c0
  have n : Lw 119 (normSqS t) := adds_lw s1 s2 (by decide) (by decide)
  have d1 : Lw 119 (detS t).1 := subs_lw t1 t3 (by decide) (by decide)
  have d2 : Lw 119 (detS t).2 := subs_lw t2 t4 (by decide) (by decide)
  exact ⟨s1, s2, n, subs_lw n (one_lw2 119 (by decide)) (by decide) (by decide), t1, t2, t3, t4, d1, d2, subs_lw d1 (one_lw2 119 (by decide)) (by decide) (by decide)⟩
theorem subs_zero {x : Nat} (h : FW x) : zn (subs x 0) = zn x := by
  have r := (subs_eq h.2 fin0).2
  rw [val0, show val S x - 0 = val S x by grind] at r
  have e := r.exact S_good h.2
  exact zn_eq r.lt32' h.1 ⟨e.1, h.2, e.2⟩

theorem drift_law {t : C8} (h : Lw8 58 t) : driftM (nz t) 0 = (0, zn (driftS t)) := by
  have D := drF_of h
  have za0 := Eqv.zn h.a0.2.1; have za1 := Eqv.zn h.a1.2.1; have zb0 := Eqv.zn h.b0.2.1; have zb1 := Eqv.zn h.b1.2.1
  have zc0 := Eqv.zn h.c0.2.1; have zc1 := Eqv.zn h.c1.2.1; have zd0 := Eqv.zn h.d0.2.1; have zd1 := Eqv.zn h.d1.2.1
  have na1 := ng_congr (zn_lt h.a1.1) h.a1.1 za1
  have nb1 := ng_congr (zn_lt h.b1.1) h.b1.1 zb1
  have e1 : squareM (zn t.a0) (zn t.a1) 0 = (0, zn (bothS t.a0 t.a0 t.a1 t.a1)) := by unfold squareM; rw [bothM_e za0 za0 za1 za1 0]; exact rnd_g D.s1.2.1
  have e2 : squareM (zn t.b0) (zn t.b1) 0 = (0, zn (bothS t.b0 t.b0 t.b1 t.b1)) := by unfold squareM; rw [bothM_e zb0 zb0 zb1 zb1 0]; exact rnd_g D.s2.2.1
  have e3 : normSqM (zn t.a0) (zn t.a1) (zn t.b0) (zn t.b1) 0 = (0, zn (normSqS t)) := by
    unfold normSqM
    simp only [e1, e2]
    rw [addM_e (Eqv.zn D.s1.2.1) (Eqv.zn D.s2.2.1) 0]; exact rnd_g D.n.2.1
  have e4 : subM (zn (normSqS t)) 1065353216 0 = (0, zn (subs (normSqS t) 1065353216)) := by rw [subM_e (Eqv.zn D.n.2.1) (Eqv.refl fin_1) 0]; exact rnd_g D.q.2.1
  have e5 : timesM (zn t.a0) (zn t.a1) (zn t.d0) (zn t.d1) 0 = (0, zn (timesS t.a0 t.a1 t.d0 t.d1).1, zn (timesS t.a0 t.a1 t.d0 t.d1).2) := by
    unfold timesM
    rw [bothM_e za0 zd0 na1 zd1 0, bothM_e za0 zd1 za1 zd0]
    have f1 : fin S (bothS t.a0 t.d0 (Go.Op.negFloat .f32 t.a1) t.d1) = true := D.t1.2.1
    have f2 : fin S (bothS t.a0 t.d1 t.a1 t.d0) = true := D.t2.2.1
    rw [rnd_g f1]
    simp only [rnd_g f2]
    rfl
  have e6 : timesM (zn t.b0) (zn t.b1) (zn t.c0) (zn t.c1) 0 = (0, zn (timesS t.b0 t.b1 t.c0 t.c1).1, zn (timesS t.b0 t.b1 t.c0 t.c1).2) := by
    unfold timesM
    rw [bothM_e zb0 zc0 nb1 zc1 0, bothM_e zb0 zc1 zb1 zc0]
    have f1 : fin S (bothS t.b0 t.c0 (Go.Op.negFloat .f32 t.b1) t.c1) = true := D.t3.2.1
    have f2 : fin S (bothS t.b0 t.c1 t.b1 t.c0) = true := D.t4.2.1
    rw [rnd_g f1]
    simp only [rnd_g f2]
    rfl
  have e7 : detM (nz t) 0 = (0, zn (detS t).1, zn (detS t).2) := by
    unfold detM nz
    simp only [e5, e6]
    unfold minusM
    rw [subM_e (Eqv.zn D.t1.2.1) (Eqv.zn D.t3.2.1) 0]
    have f1 : fin S (subs (timesS t.a0 t.a1 t.d0 t.d1).1 (timesS t.b0 t.b1 t.c0 t.c1).1) = true := D.d1.2.1
    have f2 : fin S (subs (timesS t.a0 t.a1 t.d0 t.d1).2 (timesS t.b0 t.b1 t.c0 t.c1).2) = true := D.d2.2.1
    rw [rnd_g f1]
    simp only [subM_e (Eqv.zn D.t2.2.1) (Eqv.zn D.t4.2.1) 0, rnd_g f2]
    rfl
  have e8 : minusM (zn (detS t).1) (zn (detS t).2) 1065353216 0 0 = (0, zn (subs (detS t).1 1065353216), zn (detS t).2) := by
    unfold minusM
    rw [subM_e (Eqv.zn D.d1.2.1) (Eqv.refl fin_1) 0, rnd_g D.m.2.1]
    have f2 : fin S (subs (detS t).2 0) = true := by
      have r := (subs_eq D.d2.2.1 fin0).2
      rw [val0, show val S (detS t).2 - 0 = val S (detS t).2 by grind] at r
      exact (r.exact S_good D.d2.2.1).1
    simp only [subM_e (Eqv.zn D.d2.2.1) (Eqv.refl fin0) 0, rnd_g f2, subs_zero D.d2.FW]
  obtain ⟨s1, z1⟩ := sizeM_is (⟨zn_lt D.q.1, zn_fin D.q.2.1⟩ : FW (zn (subs (normSqS t) 1065353216)))
  rw [zn_val D.q.2.1] at s1
  obtain ⟨q', a, b, z⟩ := dist_step s1 (szS_is D.q.FW) z1 D.m.FW D.d2.FW
  have e := a.eq b
  rw [z] at e
  unfold driftM
  have en : normSqM (nz t).a0 (nz t).a1 (nz t).b0 (nz t).b1 0 = (0, zn (normSqS t)) := e3
  simp only [en, e4, e7, e8]
  rw [e]
  rfl
theorem driftS_fin {t : C8} (h : Lw8 58 t) : fin S (driftS t) = true := by
  have D := drF_of h
  exact (upS_is (upS_is (szS_is D.q.FW) (szS_is D.m.FW)) (szS_is D.d2.FW)).fin
end Go.Proofs.Ytmbjomjpnfnbkaa
