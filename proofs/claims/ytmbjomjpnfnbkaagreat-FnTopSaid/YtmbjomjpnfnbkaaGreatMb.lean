/-
  The laws of opposite tables and of tables of one pulse.
-/
import Derived.Test.YtmbjomjpnfnbkaaGreatP3
import Derived.Test.YtmbjomjpnfnbkaaGreatP16
import Derived.Test.YtmbjomjpnfnbkaaGreatMa
set_option linter.unusedSimpArgs false
set_option linter.unusedVariables false
namespace Flt
open Ieee Go
/-- The rounding of a number's opposite. -/
theorem Rnd.opp {f : Format} (g : Good f) {q : Rat} {r r' : Nat} (h : Rnd f q r) (h' : Rnd f (-q) r') (hf : fin f r = true) : fin f r' = true ∧ val f r' = - val f r := by
  obtain ⟨s, m, e, rfl, rfl⟩ := h
  have h2 : Rnd f (- dv (.number s m e)) (f.write (.number (!s) m e)) := ⟨!s, m, e, by
    have d1 : dv (.number s m e) = if s then - mg m e else mg m e := rfl
    have d2 : dv (.number (!s) m e) = if (!s) then - mg m e else mg m e := rfl
    rw [d1, d2]; cases s <;> simp <;> grind, rfl⟩
  have w1 := rg_write f g s m e
  have w2 := rg_write f g (!s) m e
  have hf2 : fin f (f.write (.number (!s) m e)) = true := by
    rw [fin_iff f _ g, w2.1]; rw [fin_iff f _ g, w1.1] at hf; exact hf
  have v1 := val_fin f _ g hf
  have v2 := val_fin f _ g hf2
  rw [w1.1, w1.2] at v1
  rw [w2.1, w2.2] at v2
  have k := h2.fin_val g h'
  refine ⟨k.1 ▸ hf2, ?_⟩
  rw [← k.2 hf2, v1, v2]
  cases s <;> simp <;> grind
/-- Numbers of the opposite value. -/
def Opp (f : Format) (x y : Nat) : Prop := fin f x = true ∧ fin f y = true ∧ val f x = - val f y
end Flt
namespace Go.Proofs.YtmbjomjpnfnbkaaGreat
open Flt Go

theorem Opp.neg {x y : Nat} (hx : x < 2 ^ 32) (hy : y < 2 ^ 32) (h : Opp S x y) : Opp S (ng x) (ng y) := by
  have a := ng_fin hx h.1; have b := ng_fin hy h.2.1
  refine ⟨a.1, b.1, ?_⟩
  have e1 : val S (ng x) = - val S x := a.2
  have e2 : val S (ng y) = - val S y := b.2
  rw [e1, e2, h.2.2]
theorem bothS_opp {a b x y a' b' x' y' : Nat} (ha : Opp S a' a) (hb : Eqv S b' b) (hx : Opp S x' x) (hy : Eqv S y' y) (hf : fin S (bothS a b x y) = true) :
    Opp S (bothS a' b' x' y') (bothS a b x y) := by
  have c1 := cv_fin ha.2.1; have c2 := cv_fin hb.2.1; have c3 := cv_fin hx.2.1; have c4 := cv_fin hy.2.1
  have d1 := cv_fin ha.1; have d2 := cv_fin hb.1; have d3 := cv_fin hx.1; have d4 := cv_fin hy.1
  have m1 := muld_cv ha.2.1 hb.2.1; have m2 := muld_cv hx.2.1 hy.2.1
  have n1 := muld_cv ha.1 hb.1; have n2 := muld_cv hx.1 hy.1
  have e1 : val D (muld (cv a') (cv b')) = - val D (muld (cv a) (cv b)) := by
    have r1 := (muld_eq c1.1 c2.1).2; have r2 := (muld_eq d1.1 d2.1).2
    rw [d1.2, d2.2, ha.2.2, hb.2.2] at r2; rw [c1.2, c2.2] at r1
    exact (r1.opp D_good (by rw [show -(val S a * val S b) = -val S a * val S b by grind]; exact r2) m1.1).2
  have e2 : val D (muld (cv x') (cv y')) = - val D (muld (cv x) (cv y)) := by
    have r1 := (muld_eq c3.1 c4.1).2; have r2 := (muld_eq d3.1 d4.1).2
    rw [d3.2, d4.2, hx.2.2, hy.2.2] at r2; rw [c3.2, c4.2] at r1
    exact (r1.opp D_good (by rw [show -(val S x * val S y) = -val S x * val S y by grind]; exact r2) m2.1).2
  have s1 := (addd_eq m1.1 m2.1).2
  have s2 := (addd_eq n1.1 n2.1).2
  rw [e1, e2] at s2
  have hD := bothD_fin ha.2.1 hb.2.1 hx.2.1 hy.2.1
  have e3 := s1.opp D_good (by rw [show -(val D (muld (cv a) (cv b)) + val D (muld (cv x) (cv y))) = -val D (muld (cv a) (cv b)) + -val D (muld (cv x) (cv y)) by grind]; exact s2) hD
  have t1 := bothS_rnd ha.2.1 hb.2.1 hx.2.1 hy.2.1
  have t2 := bothS_rnd ha.1 hb.1 hx.1 hy.1
  have e4 : val D (bothD a' b' x' y') = - val D (bothD a b x y) := e3.2
  rw [e4] at t2
  have := t1.opp S_good t2 hf
  exact ⟨this.1, hf, this.2⟩
theorem Eqv.rfl' {x : Nat} (h : fin S x = true) : Eqv S x x := ⟨h, h, rfl⟩
theorem bothS_opp' {a b x y a' b' x' y' : Nat} (ha : Eqv S a' a) (hb : Opp S b' b) (hx : Eqv S x' x) (hy : Opp S y' y) (hf : fin S (bothS a b x y) = true) :
    Opp S (bothS a' b' x' y') (bothS a b x y) := by
  have c1 := cv_fin ha.2.1; have c2 := cv_fin hb.2.1; have c3 := cv_fin hx.2.1; have c4 := cv_fin hy.2.1
  have d1 := cv_fin ha.1; have d2 := cv_fin hb.1; have d3 := cv_fin hx.1; have d4 := cv_fin hy.1
  have m1 := muld_cv ha.2.1 hb.2.1; have m2 := muld_cv hx.2.1 hy.2.1
  have n1 := muld_cv ha.1 hb.1; have n2 := muld_cv hx.1 hy.1
  have e1 : val D (muld (cv a') (cv b')) = - val D (muld (cv a) (cv b)) := by
    have r1 := (muld_eq c1.1 c2.1).2; have r2 := (muld_eq d1.1 d2.1).2
    rw [d1.2, d2.2, ha.2.2, hb.2.2] at r2; rw [c1.2, c2.2] at r1
    exact (r1.opp D_good (by rw [show -(val S a * val S b) = val S a * -val S b by grind]; exact r2) m1.1).2
  have e2 : val D (muld (cv x') (cv y')) = - val D (muld (cv x) (cv y)) := by
    have r1 := (muld_eq c3.1 c4.1).2; have r2 := (muld_eq d3.1 d4.1).2
    rw [d3.2, d4.2, hx.2.2, hy.2.2] at r2; rw [c3.2, c4.2] at r1
    exact (r1.opp D_good (by rw [show -(val S x * val S y) = val S x * -val S y by grind]; exact r2) m2.1).2
  have s1 := (addd_eq m1.1 m2.1).2
  have s2 := (addd_eq n1.1 n2.1).2
  rw [e1, e2] at s2
  have hD := bothD_fin ha.2.1 hb.2.1 hx.2.1 hy.2.1
  have e3 := s1.opp D_good (by rw [show -(val D (muld (cv a) (cv b)) + val D (muld (cv x) (cv y))) = -val D (muld (cv a) (cv b)) + -val D (muld (cv x) (cv y)) by grind]; exact s2) hD
  have t1 := bothS_rnd ha.2.1 hb.2.1 hx.2.1 hy.2.1
  have t2 := bothS_rnd ha.1 hb.1 hx.1 hy.1
  have e4 : val D (bothD a' b' x' y') = - val D (bothD a b x y) := e3.2
  rw [e4] at t2
  have := t1.opp S_good t2 hf
  exact ⟨this.1, hf, this.2⟩
theorem bothS_oo {a b x y a' b' x' y' : Nat} (ha : Opp S a' a) (hb : Opp S b' b) (hx : Opp S x' x) (hy : Opp S y' y) (hf : fin S (bothS a b x y) = true) :
    Eqv S (bothS a' b' x' y') (bothS a b x y) := by
  have k1 := bothS_opp' (Eqv.rfl' ha.2.1) hb (Eqv.rfl' hx.2.1) hy hf
  have k2 := bothS_opp ha (Eqv.rfl' hb.1) hx (Eqv.rfl' hy.1) k1.1
  exact ⟨k2.1, hf, by rw [k2.2.2, k1.2.2]; grind⟩
theorem adds_eqv {x y x' y' : Nat} (hx : Eqv S x' x) (hy : Eqv S y' y) (hf : fin S (adds x y) = true) : Eqv S (adds x' y') (adds x y) := by
  have r1 := (adds_eq hx.2.1 hy.2.1).2
  have r2 := (adds_eq hx.1 hy.1).2
  rw [hx.2.2, hy.2.2] at r2
  have := r1.fin_val S_good r2
  exact ⟨this.1 ▸ hf, hf, (this.2 hf).symm⟩
theorem adds_opp {x y x' y' : Nat} (hx : Opp S x' x) (hy : Opp S y' y) (hf : fin S (adds x y) = true) : Opp S (adds x' y') (adds x y) := by
  have r1 := (adds_eq hx.2.1 hy.2.1).2
  have r2 := (adds_eq hx.1 hy.1).2
  rw [hx.2.2, hy.2.2] at r2
  have := r1.opp S_good (by rw [show -(val S x + val S y) = -val S x + -val S y by grind]; exact r2) hf
  exact ⟨this.1, hf, this.2⟩

/-- A number of the value of another one that is at most 2^k. -/
structure EV (k : Int) (x' x : Nat) : Prop where
  lt : x' < 2 ^ 32
  lw : Lw k x
  e : Eqv S x' x
theorem EV.refl {k : Int} {x : Nat} (h : Lw k x) : EV k x x := ⟨h.1, h, Eqv.rfl' h.2.1⟩
theorem EV.zn {k : Int} {x : Nat} (h : Lw k x) : EV k (zn x) x := ⟨zn_lt h.1, h, Eqv.zn h.2.1⟩
structure EV8 (k : Int) (s' s : C8) : Prop where
  a0 : EV k s'.a0 s.a0
  a1 : EV k s'.a1 s.a1
  b0 : EV k s'.b0 s.b0
  b1 : EV k s'.b1 s.b1
  c0 : EV k s'.c0 s.c0
  c1 : EV k s'.c1 s.c1
  d0 : EV k s'.d0 s.d0
  d1 : EV k s'.d1 s.d1
theorem EV8.refl {k : Int} {s : C8} (h : Lw8 k s) : EV8 k s s := ⟨.refl h.a0, .refl h.a1, .refl h.b0, .refl h.b1, .refl h.c0, .refl h.c1, .refl h.d0, .refl h.d1⟩
theorem EV8.nz {k : Int} {s : C8} (h : Lw8 k s) : EV8 k (nz s) s := ⟨.zn h.a0, .zn h.a1, .zn h.b0, .zn h.b1, .zn h.c0, .zn h.c1, .zn h.d0, .zn h.d1⟩
theorem times_e {a b p q a' b' p' q' : Nat} {k j : Int} (ha : EV k a' a) (hb : EV k b' b) (hp : EV j p' p) (hq : EV j q' q) (h3 : -149 ≤ k + j) (h4 : k + j ≤ 125) :
    timesM a' b' p' q' 0 = (0, zn (timesS a b p q).1, zn (timesS a b p q).2) ∧ Lw (k + j + 1) (timesS a b p q).1 ∧ Lw (k + j + 1) (timesS a b p q).2 := by
  have l1 := bothS_lw (k := k + j) ha.lw hp.lw hb.lw.ng hq.lw (Int.le_refl _) h3 (by omega)
  have l2 := bothS_lw (k := k + j) ha.lw hq.lw hb.lw hp.lw (Int.le_refl _) h3 (by omega)
  have en := ng_congr hb.lt hb.lw.1 hb.e
  refine ⟨?_, l1, l2⟩
  unfold timesM timesS ng
  simp only [bothM_e ha.e hp.e en hq.e, bothM_e ha.e hq.e hb.e hp.e, rnd_g l1.2.1, rnd_g l2.2.1]
theorem inTable_e {a0 a1 b0 b1 x0 x1 y0 y1 a0' a1' b0' b1' x0' x1' y0' y1' : Nat} {k j : Int} (ha0 : EV k a0' a0) (ha1 : EV k a1' a1) (hb0 : EV j b0' b0) (hb1 : EV j b1' b1) (hx0 : EV k x0' x0) (hx1 : EV k x1' x1) (hy0 : EV j y0' y0) (hy1 : EV j y1' y1) (h3 : -149 ≤ k + j) (h4 : k + j ≤ 125) :
    inTableM a0' a1' b0' b1' x0' x1' y0' y1' 0 = (0, zn (inTableS a0 a1 b0 b1 x0 x1 y0 y1).1, zn (inTableS a0 a1 b0 b1 x0 x1 y0 y1).2) ∧ Lw (k + j + 2) (inTableS a0 a1 b0 b1 x0 x1 y0 y1).1 ∧ Lw (k + j + 2) (inTableS a0 a1 b0 b1 x0 x1 y0 y1).2 := by
  obtain ⟨e1, l1, l2⟩ := times_e ha0 ha1 hb0 hb1 h3 h4
  obtain ⟨e2, m1, m2⟩ := times_e hx0 hx1 hy0 hy1 h3 h4
  have n1 := adds_lw l1 m1 (by omega) (by omega)
  have n2 := adds_lw l2 m2 (by omega) (by omega)
  rw [show k + j + 1 + 1 = k + j + 2 by omega] at n1 n2
  refine ⟨?_, n1, n2⟩
  unfold inTableM inTableS plusM
  simp only [e1, e2, addM_e (Eqv.zn l1.2.1) (Eqv.zn m1.2.1), addM_e (Eqv.zn l2.2.1) (Eqv.zn m2.2.1), rnd_g n1.2.1, rnd_g n2.2.1]
theorem product_e {s t s' t' : C8} {k j : Int} (hs : EV8 k s' s) (ht : EV8 j t' t) (h3 : -149 ≤ k + j) (h4 : k + j ≤ 125) :
    productM s' t' 0 = nz (productS s t) ∧ Lw8 (k + j + 2) (productS s t) := by
  have r0 := inTable_e hs.a0 hs.a1 ht.a0 ht.a1 hs.b0 hs.b1 ht.c0 ht.c1 h3 h4
  have r1 := inTable_e hs.a0 hs.a1 ht.b0 ht.b1 hs.b0 hs.b1 ht.d0 ht.d1 h3 h4
  have r2 := inTable_e hs.c0 hs.c1 ht.a0 ht.a1 hs.d0 hs.d1 ht.c0 ht.c1 h3 h4
  have r3 := inTable_e hs.c0 hs.c1 ht.b0 ht.b1 hs.d0 hs.d1 ht.d0 ht.d1 h3 h4
  refine ⟨?_, ⟨r0.2.1, r0.2.2, r1.2.1, r1.2.2, r2.2.1, r2.2.2, r3.2.1, r3.2.2⟩⟩
  unfold productM productS nz
  simp only [r0.1, r1.1, r2.1, r3.1]

/-- A number of the opposite value of another one that is at most 2^k. -/
structure OV (k : Int) (x' x : Nat) : Prop where
  lt : x' < 2 ^ 32
  lw : Lw k x
  o : Opp S x' x
theorem OV.neg {k : Int} {x' x : Nat} (h : OV k x' x) : OV k (ng x') (ng x) := ⟨ng_lt h.lt, h.lw.ng, Opp.neg h.lt h.lw.1 h.o⟩
theorem OV.lw' {k : Int} {x' x : Nat} (h : OV k x' x) : Lw k x' := ⟨h.lt, h.o.1, by rw [h.o.2.2, ab_neg]; exact h.lw.2.2⟩
structure OV8 (k : Int) (s' s : C8) : Prop where
  a0 : OV k s'.a0 s.a0
  a1 : OV k s'.a1 s.a1
  b0 : OV k s'.b0 s.b0
  b1 : OV k s'.b1 s.b1
  c0 : OV k s'.c0 s.c0
  c1 : OV k s'.c1 s.c1
  d0 : OV k s'.d0 s.d0
  d1 : OV k s'.d1 s.d1
theorem OV8.lw' {k : Int} {s' s : C8} (h : OV8 k s' s) : Lw8 k s' := ⟨h.a0.lw', h.a1.lw', h.b0.lw', h.b1.lw', h.c0.lw', h.c1.lw', h.d0.lw', h.d1.lw'⟩
theorem OV8.lw {k : Int} {s' s : C8} (h : OV8 k s' s) : Lw8 k s := ⟨h.a0.lw, h.a1.lw, h.b0.lw, h.b1.lw, h.c0.lw, h.c1.lw, h.d0.lw, h.d1.lw⟩
theorem OV8.adj {k : Int} {s' s : C8} (h : OV8 k s' s) : OV8 k (adjS s') (adjS s) := ⟨h.a0, h.a1.neg, h.c0, h.c1.neg, h.b0, h.b1.neg, h.d0, h.d1.neg⟩
theorem times_o {a b p q a' b' : Nat} {k j : Int} (ha : OV k a' a) (hb : OV k b' b) (hp : Lw j p) (hq : Lw j q) (h3 : -149 ≤ k + j) (h4 : k + j ≤ 125) :
    OV (k + j + 1) (timesS a' b' p q).1 (timesS a b p q).1 ∧ OV (k + j + 1) (timesS a' b' p q).2 (timesS a b p q).2 := by
  have l1 := bothS_lw (k := k + j) ha.lw hp hb.lw.ng hq (Int.le_refl _) h3 (by omega)
  have l2 := bothS_lw (k := k + j) ha.lw hq hb.lw hp (Int.le_refl _) h3 (by omega)
  have m1 := bothS_lw (k := k + j) ha.lw' hp hb.lw'.ng hq (Int.le_refl _) h3 (by omega)
  have m2 := bothS_lw (k := k + j) ha.lw' hq hb.lw' hp (Int.le_refl _) h3 (by omega)
  exact ⟨⟨m1.1, l1, bothS_opp ha.o (Eqv.rfl' hp.2.1) hb.neg.o (Eqv.rfl' hq.2.1) l1.2.1⟩, ⟨m2.1, l2, bothS_opp ha.o (Eqv.rfl' hq.2.1) hb.o (Eqv.rfl' hp.2.1) l2.2.1⟩⟩
theorem inTable_o {a0 a1 b0 b1 x0 x1 y0 y1 a0' a1' x0' x1' : Nat} {k j : Int} (ha0 : OV k a0' a0) (ha1 : OV k a1' a1) (hb0 : Lw j b0) (hb1 : Lw j b1) (hx0 : OV k x0' x0) (hx1 : OV k x1' x1) (hy0 : Lw j y0) (hy1 : Lw j y1) (h3 : -149 ≤ k + j) (h4 : k + j ≤ 125) :
    OV (k + j + 2) (inTableS a0' a1' b0 b1 x0' x1' y0 y1).1 (inTableS a0 a1 b0 b1 x0 x1 y0 y1).1 ∧ OV (k + j + 2) (inTableS a0' a1' b0 b1 x0' x1' y0 y1).2 (inTableS a0 a1 b0 b1 x0 x1 y0 y1).2 := by
  obtain ⟨l1, l2⟩ := times_o ha0 ha1 hb0 hb1 h3 h4
  obtain ⟨m1, m2⟩ := times_o hx0 hx1 hy0 hy1 h3 h4
  have n1 := adds_lw l1.lw m1.lw (by omega) (by omega)
  have n2 := adds_lw l2.lw m2.lw (by omega) (by omega)
  rw [show k + j + 1 + 1 = k + j + 2 by omega] at n1 n2
  exact ⟨⟨adds_lt l1.o.1 m1.o.1, n1, adds_opp l1.o m1.o n1.2.1⟩, ⟨adds_lt l2.o.1 m2.o.1, n2, adds_opp l2.o m2.o n2.2.1⟩⟩
theorem product_o {s t s' : C8} {k j : Int} (hs : OV8 k s' s) (ht : Lw8 j t) (h3 : -149 ≤ k + j) (h4 : k + j ≤ 125) : OV8 (k + j + 2) (productS s' t) (productS s t) := by
  have r0 := inTable_o hs.a0 hs.a1 ht.a0 ht.a1 hs.b0 hs.b1 ht.c0 ht.c1 h3 h4
  have r1 := inTable_o hs.a0 hs.a1 ht.b0 ht.b1 hs.b0 hs.b1 ht.d0 ht.d1 h3 h4
  have r2 := inTable_o hs.c0 hs.c1 ht.a0 ht.a1 hs.d0 hs.d1 ht.c0 ht.c1 h3 h4
  have r3 := inTable_o hs.c0 hs.c1 ht.b0 ht.b1 hs.d0 hs.d1 ht.d0 ht.d1 h3 h4
  exact ⟨r0.1, r0.2, r1.1, r1.2, r2.1, r2.2, r3.1, r3.2⟩
theorem times_oo {a b p q a' b' p' q' : Nat} {k j : Int} (ha : OV k a' a) (hb : OV k b' b) (hp : OV j p' p) (hq : OV j q' q) (h3 : -149 ≤ k + j) (h4 : k + j ≤ 125) :
    EV (k + j + 1) (timesS a' b' p' q').1 (timesS a b p q).1 ∧ EV (k + j + 1) (timesS a' b' p' q').2 (timesS a b p q).2 := by
  have l1 := bothS_lw (k := k + j) ha.lw hp.lw hb.lw.ng hq.lw (Int.le_refl _) h3 (by omega)
  have l2 := bothS_lw (k := k + j) ha.lw hq.lw hb.lw hp.lw (Int.le_refl _) h3 (by omega)
  have m1 := bothS_lw (k := k + j) ha.lw' hp.lw' hb.lw'.ng hq.lw' (Int.le_refl _) h3 (by omega)
  have m2 := bothS_lw (k := k + j) ha.lw' hq.lw' hb.lw' hp.lw' (Int.le_refl _) h3 (by omega)
  exact ⟨⟨m1.1, l1, bothS_oo ha.o hp.o hb.neg.o hq.o l1.2.1⟩, ⟨m2.1, l2, bothS_oo ha.o hq.o hb.o hp.o l2.2.1⟩⟩
theorem inTable_oo {a0 a1 b0 b1 x0 x1 y0 y1 a0' a1' b0' b1' x0' x1' y0' y1' : Nat} {k j : Int} (ha0 : OV k a0' a0) (ha1 : OV k a1' a1) (hb0 : OV j b0' b0) (hb1 : OV j b1' b1) (hx0 : OV k x0' x0) (hx1 : OV k x1' x1) (hy0 : OV j y0' y0) (hy1 : OV j y1' y1) (h3 : -149 ≤ k + j) (h4 : k + j ≤ 125) :
    zn (inTableS a0' a1' b0' b1' x0' x1' y0' y1').1 = zn (inTableS a0 a1 b0 b1 x0 x1 y0 y1).1 ∧ zn (inTableS a0' a1' b0' b1' x0' x1' y0' y1').2 = zn (inTableS a0 a1 b0 b1 x0 x1 y0 y1).2 := by
  obtain ⟨l1, l2⟩ := times_oo ha0 ha1 hb0 hb1 h3 h4
  obtain ⟨m1, m2⟩ := times_oo hx0 hx1 hy0 hy1 h3 h4
  have n1 := adds_lw l1.lw m1.lw (by omega) (by omega)
  have n2 := adds_lw l2.lw m2.lw (by omega) (by omega)
  exact ⟨zn_eq (adds_lt l1.e.1 m1.e.1) n1.1 (adds_eqv l1.e m1.e n1.2.1), zn_eq (adds_lt l2.e.1 m2.e.1) n2.1 (adds_eqv l2.e m2.e n2.2.1)⟩
theorem product_oo {s t s' t' : C8} {k j : Int} (hs : OV8 k s' s) (ht : OV8 j t' t) (h3 : -149 ≤ k + j) (h4 : k + j ≤ 125) : nz (productS s' t') = nz (productS s t) := by
  have r0 := inTable_oo hs.a0 hs.a1 ht.a0 ht.a1 hs.b0 hs.b1 ht.c0 ht.c1 h3 h4
  have r1 := inTable_oo hs.a0 hs.a1 ht.b0 ht.b1 hs.b0 hs.b1 ht.d0 ht.d1 h3 h4
  have r2 := inTable_oo hs.c0 hs.c1 ht.a0 ht.a1 hs.d0 hs.d1 ht.c0 ht.c1 h3 h4
  have r3 := inTable_oo hs.c0 hs.c1 ht.b0 ht.b1 hs.d0 hs.d1 ht.d0 ht.d1 h3 h4
  unfold productS nz
  simp only [r0.1, r0.2, r1.1, r1.2, r2.1, r2.2, r3.1, r3.2]
/-- The table of the same numbers with the other sign. -/
def oppS (s : C8) : C8 := ⟨s.c, ng s.a0, ng s.a1, ng s.b0, ng s.b1, ng s.c0, ng s.c1, ng s.d0, ng s.d1⟩
theorem OV.of {k : Int} {x : Nat} (h : Lw k x) : OV k (ng (zn x)) x := by
  have a := ng_fin (zn_lt h.1) (zn_fin h.2.1)
  refine ⟨ng_lt (zn_lt h.1), h, a.1, h.2.1, ?_⟩
  have e : val S (ng (zn x)) = - val S (zn x) := a.2
  rw [e, zn_val h.2.1]
theorem OV8.of {k : Int} {s : C8} (h : Lw8 k s) : OV8 k (oppS (nz s)) s := ⟨.of h.a0, .of h.a1, .of h.b0, .of h.b1, .of h.c0, .of h.c1, .of h.d0, .of h.d1⟩
/-- Opposite tables make the same of vectors. -/
theorem around_opp {s m : C8} {k j : Int} (hs : Lw8 k s) (hm : Lw8 j m) (h1 : -149 ≤ k + j) (h2 : k + j ≤ 125) (h3 : -149 ≤ k + j + 2 + k) (h4 : k + j + 2 + k ≤ 125) :
    nz (productS (productS (oppS (nz s)) m) (adjS (oppS (nz s)))) = nz (productS (productS s m) (adjS s)) :=
  product_oo (product_o (OV8.of hs) hm h1 h2) (OV8.of hs).adj h3 h4
end Go.Proofs.YtmbjomjpnfnbkaaGreat

namespace Go.Proofs.YtmbjomjpnfnbkaaGreat
open Flt

def C8.parts (t : C8) : List Nat := [t.a0, t.a1, t.b0, t.b1, t.c0, t.c1, t.d0, t.d1]
theorem C8.ext_parts {s t : C8} (h0 : s.c = t.c) (h : s.parts = t.parts) : s = t := by
  obtain ⟨c, a0, a1, b0, b1, c0, c1, d0, d1⟩ := s
  obtain ⟨c', a0', a1', b0', b1', c0', c1', d0', d1'⟩ := t
  simp only [C8.parts, List.cons.injEq, and_true] at h
  simp only at h0
  obtain ⟨rfl, rfl, rfl, rfl, rfl, rfl, rfl, rfl⟩ := h
  subst h0
  rfl
def turnOf (a c s : Nat) (b : Bool) : C8 := if b = true then adjS (aboutS a c s) else aboutS a c s
def backOk (a c s : Nat) (b : Bool) : Bool := (nz (productS (turnOf a c s (!b)) unitS)).parts == (nz (adjS (nz (productS (turnOf a c s b) unitS)))).parts
def backAll (c s : Nat) : Bool := (backOk 0 c s false && backOk 0 c s true) && ((backOk 1 c s false && backOk 1 c s true) && (backOk 2 c s false && backOk 2 c s true))
/-- The squares of both parts sum up to 5/4 at most. -/
def normOk (c s : Nat) : Bool := decide (val S c * val S c + val S s * val S s ≤ 5 / 4)
structure Hal (k : Nat) : Prop where
  back : backAll (hC k) (hS k) = true
  norm : normOk (hC k) (hS k) = true
theorem hC_0 : hC 0 = 0 := rfl
theorem hS_0 : hS 0 = 1065353216 := rfl
theorem back_0 : backAll 0 1065353216 = true := by decide +kernel
theorem norm_0 : normOk 0 1065353216 = true := by decide +kernel
theorem hal_0 : Hal 0 := ⟨by rw [hC_0, hS_0]; exact back_0, by rw [hC_0, hS_0]; exact norm_0⟩
theorem hC_1 : hC 1 = 1060439283 := by
  rw [show hC 1 = rootS (divs (adds 1065353216 (hC 0)) 1073741824) from rfl, hC_0]; decide +kernel
theorem hS_1 : hS 1 = 1060439283 := by
  rw [show hS 1 = divs (hS 0) (adds (hC 1) (hC 1)) from rfl, hS_0, hC_1]; decide +kernel
theorem back_1 : backAll 1060439283 1060439283 = true := by decide +kernel
theorem norm_1 : normOk 1060439283 1060439283 = true := by decide +kernel
theorem hal_1 : Hal 1 := ⟨by rw [hC_1, hS_1]; exact back_1, by rw [hC_1, hS_1]; exact norm_1⟩
theorem hC_2 : hC 2 = 1064076127 := by
  rw [show hC 2 = rootS (divs (adds 1065353216 (hC 1)) 1073741824) from rfl, hC_1]; decide +kernel
theorem hS_2 : hS 2 = 1053028117 := by
  rw [show hS 2 = divs (hS 1) (adds (hC 2) (hC 2)) from rfl, hS_1, hC_2]; decide +kernel
theorem back_2 : backAll 1064076127 1053028117 = true := by decide +kernel
theorem norm_2 : normOk 1064076127 1053028117 = true := by decide +kernel
theorem hal_2 : Hal 2 := ⟨by rw [hC_2, hS_2]; exact back_2, by rw [hC_2, hS_2]; exact norm_2⟩
theorem hC_3 : hC 3 = 1065030847 := by
  rw [show hC 3 = rootS (divs (adds 1065353216 (hC 2)) 1073741824) from rfl, hC_2]; decide +kernel
theorem hS_3 : hS 3 = 1044891073 := by
  rw [show hS 3 = divs (hS 2) (adds (hC 3) (hC 3)) from rfl, hS_2, hC_3]; decide +kernel
theorem back_3 : backAll 1065030847 1044891073 = true := by decide +kernel
theorem norm_3 : normOk 1065030847 1044891073 = true := by decide +kernel
theorem hal_3 : Hal 3 := ⟨by rw [hC_3, hS_3]; exact back_3, by rw [hC_3, hS_3]; exact norm_3⟩
theorem hC_4 : hC 4 = 1065272429 := by
  rw [show hC 4 = rootS (divs (adds 1065353216 (hC 3)) 1073741824) from rfl, hC_3]; decide +kernel
theorem hS_4 : hS 4 = 1036565813 := by
  rw [show hS 4 = divs (hS 3) (adds (hC 4) (hC 4)) from rfl, hS_3, hC_4]; decide +kernel
theorem back_4 : backAll 1065272429 1036565813 = true := by decide +kernel
theorem norm_4 : normOk 1065272429 1036565813 = true := by decide +kernel
theorem hal_4 : Hal 4 := ⟨by rw [hC_4, hS_4]; exact back_4, by rw [hC_4, hS_4]; exact norm_4⟩
theorem hC_5 : hC 5 = 1065333007 := by
  rw [show hC 5 = rootS (divs (adds 1065353216 (hC 4)) 1073741824) from rfl, hC_4]; decide +kernel
theorem hS_5 : hS 5 = 1028193071 := by
  rw [show hS 5 = divs (hS 4) (adds (hC 5) (hC 5)) from rfl, hS_4, hC_5]; decide +kernel
theorem back_5 : backAll 1065333007 1028193071 = true := by decide +kernel
theorem norm_5 : normOk 1065333007 1028193071 = true := by decide +kernel
theorem hal_5 : Hal 5 := ⟨by rw [hC_5, hS_5]; exact back_5, by rw [hC_5, hS_5]; exact norm_5⟩
theorem hC_6 : hC 6 = 1065348163 := by
  rw [show hC 6 = rootS (divs (adds 1065353216 (hC 5)) 1073741824) from rfl, hC_5]; decide +kernel
theorem hS_6 : hS 6 = 1019808431 := by
  rw [show hS 6 = divs (hS 5) (adds (hC 6) (hC 6)) from rfl, hS_5, hC_6]; decide +kernel
theorem back_6 : backAll 1065348163 1019808431 = true := by decide +kernel
theorem norm_6 : normOk 1065348163 1019808431 = true := by decide +kernel
theorem hal_6 : Hal 6 := ⟨by rw [hC_6, hS_6]; exact back_6, by rw [hC_6, hS_6]; exact norm_6⟩
theorem hC_7 : hC 7 = 1065351953 := by
  rw [show hC 7 = rootS (divs (adds 1065353216 (hC 6)) 1073741824) from rfl, hC_6]; decide +kernel
theorem hS_7 : hS 7 = 1011420815 := by
  rw [show hS 7 = divs (hS 6) (adds (hC 7) (hC 7)) from rfl, hS_6, hC_7]; decide +kernel
theorem back_7 : backAll 1065351953 1011420815 = true := by decide +kernel
theorem norm_7 : normOk 1065351953 1011420815 = true := by decide +kernel
theorem hal_7 : Hal 7 := ⟨by rw [hC_7, hS_7]; exact back_7, by rw [hC_7, hS_7]; exact norm_7⟩
theorem hC_8 : hC 8 = 1065352900 := by
  rw [show hC 8 = rootS (divs (adds 1065353216 (hC 7)) 1073741824) from rfl, hC_7]; decide +kernel
theorem hS_8 : hS 8 = 1003032455 := by
  rw [show hS 8 = divs (hS 7) (adds (hC 8) (hC 8)) from rfl, hS_7, hC_8]; decide +kernel
theorem back_8 : backAll 1065352900 1003032455 = true := by decide +kernel
theorem norm_8 : normOk 1065352900 1003032455 = true := by decide +kernel
theorem hal_8 : Hal 8 := ⟨by rw [hC_8, hS_8]; exact back_8, by rw [hC_8, hS_8]; exact norm_8⟩
theorem hC_9 : hC 9 = 1065353137 := by
  rw [show hC 9 = rootS (divs (adds 1065353216 (hC 8)) 1073741824) from rfl, hC_8]; decide +kernel
theorem hS_9 : hS 9 = 994643909 := by
  rw [show hS 9 = divs (hS 8) (adds (hC 9) (hC 9)) from rfl, hS_8, hC_9]; decide +kernel
theorem back_9 : backAll 1065353137 994643909 = true := by decide +kernel
theorem norm_9 : normOk 1065353137 994643909 = true := by decide +kernel
theorem hal_9 : Hal 9 := ⟨by rw [hC_9, hS_9]; exact back_9, by rw [hC_9, hS_9]; exact norm_9⟩
theorem hC_10 : hC 10 = 1065353196 := by
  rw [show hC 10 = rootS (divs (adds 1065353216 (hC 9)) 1073741824) from rfl, hC_9]; decide +kernel
theorem hS_10 : hS 10 = 986255317 := by
  rw [show hS 10 = divs (hS 9) (adds (hC 10) (hC 10)) from rfl, hS_9, hC_10]; decide +kernel
theorem back_10 : backAll 1065353196 986255317 = true := by decide +kernel
theorem norm_10 : normOk 1065353196 986255317 = true := by decide +kernel
theorem hal_10 : Hal 10 := ⟨by rw [hC_10, hS_10]; exact back_10, by rw [hC_10, hS_10]; exact norm_10⟩
theorem hC_11 : hC 11 = 1065353211 := by
  rw [show hC 11 = rootS (divs (adds 1065353216 (hC 10)) 1073741824) from rfl, hC_10]; decide +kernel
theorem hS_11 : hS 11 = 977866713 := by
  rw [show hS 11 = divs (hS 10) (adds (hC 11) (hC 11)) from rfl, hS_10, hC_11]; decide +kernel
theorem back_11 : backAll 1065353211 977866713 = true := by decide +kernel
theorem norm_11 : normOk 1065353211 977866713 = true := by decide +kernel
theorem hal_11 : Hal 11 := ⟨by rw [hC_11, hS_11]; exact back_11, by rw [hC_11, hS_11]; exact norm_11⟩
theorem hC_12 : hC 12 = 1065353215 := by
  rw [show hC 12 = rootS (divs (adds 1065353216 (hC 11)) 1073741824) from rfl, hC_11]; decide +kernel
theorem hS_12 : hS 12 = 969478106 := by
  rw [show hS 12 = divs (hS 11) (adds (hC 12) (hC 12)) from rfl, hS_11, hC_12]; decide +kernel
theorem back_12 : backAll 1065353215 969478106 = true := by decide +kernel
theorem norm_12 : normOk 1065353215 969478106 = true := by decide +kernel
theorem hal_12 : Hal 12 := ⟨by rw [hC_12, hS_12]; exact back_12, by rw [hC_12, hS_12]; exact norm_12⟩
theorem hC_13 : hC 13 = 1065353216 := by
  rw [show hC 13 = rootS (divs (adds 1065353216 (hC 12)) 1073741824) from rfl, hC_12]; decide +kernel
theorem hS_13 : hS 13 = 961089498 := by
  rw [show hS 13 = divs (hS 12) (adds (hC 13) (hC 13)) from rfl, hS_12, hC_13]; decide +kernel
theorem back_13 : backAll 1065353216 961089498 = true := by decide +kernel
theorem norm_13 : normOk 1065353216 961089498 = true := by decide +kernel
theorem hal_13 : Hal 13 := ⟨by rw [hC_13, hS_13]; exact back_13, by rw [hC_13, hS_13]; exact norm_13⟩
theorem hC_14 : hC 14 = 1065353216 := by
  rw [show hC 14 = rootS (divs (adds 1065353216 (hC 13)) 1073741824) from rfl, hC_13]; decide +kernel
theorem hS_14 : hS 14 = 952700890 := by
  rw [show hS 14 = divs (hS 13) (adds (hC 14) (hC 14)) from rfl, hS_13, hC_14]; decide +kernel
theorem back_14 : backAll 1065353216 952700890 = true := by decide +kernel
theorem norm_14 : normOk 1065353216 952700890 = true := by decide +kernel
theorem hal_14 : Hal 14 := ⟨by rw [hC_14, hS_14]; exact back_14, by rw [hC_14, hS_14]; exact norm_14⟩
theorem hC_15 : hC 15 = 1065353216 := by
  rw [show hC 15 = rootS (divs (adds 1065353216 (hC 14)) 1073741824) from rfl, hC_14]; decide +kernel
theorem hS_15 : hS 15 = 944312282 := by
  rw [show hS 15 = divs (hS 14) (adds (hC 15) (hC 15)) from rfl, hS_14, hC_15]; decide +kernel
theorem back_15 : backAll 1065353216 944312282 = true := by decide +kernel
theorem norm_15 : normOk 1065353216 944312282 = true := by decide +kernel
theorem hal_15 : Hal 15 := ⟨by rw [hC_15, hS_15]; exact back_15, by rw [hC_15, hS_15]; exact norm_15⟩
theorem hC_16 : hC 16 = 1065353216 := by
  rw [show hC 16 = rootS (divs (adds 1065353216 (hC 15)) 1073741824) from rfl, hC_15]; decide +kernel
theorem hS_16 : hS 16 = 935923674 := by
  rw [show hS 16 = divs (hS 15) (adds (hC 16) (hC 16)) from rfl, hS_15, hC_16]; decide +kernel
theorem back_16 : backAll 1065353216 935923674 = true := by decide +kernel
theorem norm_16 : normOk 1065353216 935923674 = true := by decide +kernel
theorem hal_16 : Hal 16 := ⟨by rw [hC_16, hS_16]; exact back_16, by rw [hC_16, hS_16]; exact norm_16⟩
theorem hC_17 : hC 17 = 1065353216 := by
  rw [show hC 17 = rootS (divs (adds 1065353216 (hC 16)) 1073741824) from rfl, hC_16]; decide +kernel
theorem hS_17 : hS 17 = 927535066 := by
  rw [show hS 17 = divs (hS 16) (adds (hC 17) (hC 17)) from rfl, hS_16, hC_17]; decide +kernel
theorem back_17 : backAll 1065353216 927535066 = true := by decide +kernel
theorem norm_17 : normOk 1065353216 927535066 = true := by decide +kernel
theorem hal_17 : Hal 17 := ⟨by rw [hC_17, hS_17]; exact back_17, by rw [hC_17, hS_17]; exact norm_17⟩
theorem hC_18 : hC 18 = 1065353216 := by
  rw [show hC 18 = rootS (divs (adds 1065353216 (hC 17)) 1073741824) from rfl, hC_17]; decide +kernel
theorem hS_18 : hS 18 = 919146458 := by
  rw [show hS 18 = divs (hS 17) (adds (hC 18) (hC 18)) from rfl, hS_17, hC_18]; decide +kernel
theorem back_18 : backAll 1065353216 919146458 = true := by decide +kernel
theorem norm_18 : normOk 1065353216 919146458 = true := by decide +kernel
theorem hal_18 : Hal 18 := ⟨by rw [hC_18, hS_18]; exact back_18, by rw [hC_18, hS_18]; exact norm_18⟩
theorem hC_19 : hC 19 = 1065353216 := by
  rw [show hC 19 = rootS (divs (adds 1065353216 (hC 18)) 1073741824) from rfl, hC_18]; decide +kernel
theorem hS_19 : hS 19 = 910757850 := by
  rw [show hS 19 = divs (hS 18) (adds (hC 19) (hC 19)) from rfl, hS_18, hC_19]; decide +kernel
theorem back_19 : backAll 1065353216 910757850 = true := by decide +kernel
theorem norm_19 : normOk 1065353216 910757850 = true := by decide +kernel
theorem hal_19 : Hal 19 := ⟨by rw [hC_19, hS_19]; exact back_19, by rw [hC_19, hS_19]; exact norm_19⟩
theorem hC_20 : hC 20 = 1065353216 := by
  rw [show hC 20 = rootS (divs (adds 1065353216 (hC 19)) 1073741824) from rfl, hC_19]; decide +kernel
theorem hS_20 : hS 20 = 902369242 := by
  rw [show hS 20 = divs (hS 19) (adds (hC 20) (hC 20)) from rfl, hS_19, hC_20]; decide +kernel
theorem back_20 : backAll 1065353216 902369242 = true := by decide +kernel
theorem norm_20 : normOk 1065353216 902369242 = true := by decide +kernel
theorem hal_20 : Hal 20 := ⟨by rw [hC_20, hS_20]; exact back_20, by rw [hC_20, hS_20]; exact norm_20⟩
theorem hC_21 : hC 21 = 1065353216 := by
  rw [show hC 21 = rootS (divs (adds 1065353216 (hC 20)) 1073741824) from rfl, hC_20]; decide +kernel
theorem hS_21 : hS 21 = 893980634 := by
  rw [show hS 21 = divs (hS 20) (adds (hC 21) (hC 21)) from rfl, hS_20, hC_21]; decide +kernel
theorem back_21 : backAll 1065353216 893980634 = true := by decide +kernel
theorem norm_21 : normOk 1065353216 893980634 = true := by decide +kernel
theorem hal_21 : Hal 21 := ⟨by rw [hC_21, hS_21]; exact back_21, by rw [hC_21, hS_21]; exact norm_21⟩
theorem hC_22 : hC 22 = 1065353216 := by
  rw [show hC 22 = rootS (divs (adds 1065353216 (hC 21)) 1073741824) from rfl, hC_21]; decide +kernel
theorem hS_22 : hS 22 = 885592026 := by
  rw [show hS 22 = divs (hS 21) (adds (hC 22) (hC 22)) from rfl, hS_21, hC_22]; decide +kernel
theorem back_22 : backAll 1065353216 885592026 = true := by decide +kernel
theorem norm_22 : normOk 1065353216 885592026 = true := by decide +kernel
theorem hal_22 : Hal 22 := ⟨by rw [hC_22, hS_22]; exact back_22, by rw [hC_22, hS_22]; exact norm_22⟩
theorem hC_23 : hC 23 = 1065353216 := by
  rw [show hC 23 = rootS (divs (adds 1065353216 (hC 22)) 1073741824) from rfl, hC_22]; decide +kernel
theorem hS_23 : hS 23 = 877203418 := by
  rw [show hS 23 = divs (hS 22) (adds (hC 23) (hC 23)) from rfl, hS_22, hC_23]; decide +kernel
theorem back_23 : backAll 1065353216 877203418 = true := by decide +kernel
theorem norm_23 : normOk 1065353216 877203418 = true := by decide +kernel
theorem hal_23 : Hal 23 := ⟨by rw [hC_23, hS_23]; exact back_23, by rw [hC_23, hS_23]; exact norm_23⟩
theorem hC_24 : hC 24 = 1065353216 := by
  rw [show hC 24 = rootS (divs (adds 1065353216 (hC 23)) 1073741824) from rfl, hC_23]; decide +kernel
theorem hS_24 : hS 24 = 868814810 := by
  rw [show hS 24 = divs (hS 23) (adds (hC 24) (hC 24)) from rfl, hS_23, hC_24]; decide +kernel
theorem back_24 : backAll 1065353216 868814810 = true := by decide +kernel
theorem norm_24 : normOk 1065353216 868814810 = true := by decide +kernel
theorem hal_24 : Hal 24 := ⟨by rw [hC_24, hS_24]; exact back_24, by rw [hC_24, hS_24]; exact norm_24⟩
theorem hal_of {k : Nat} (h : k ≤ 24) : Hal k := by
  match k, h with
  | 0, _ => exact hal_0
  | 1, _ => exact hal_1
  | 2, _ => exact hal_2
  | 3, _ => exact hal_3
  | 4, _ => exact hal_4
  | 5, _ => exact hal_5
  | 6, _ => exact hal_6
  | 7, _ => exact hal_7
  | 8, _ => exact hal_8
  | 9, _ => exact hal_9
  | 10, _ => exact hal_10
  | 11, _ => exact hal_11
  | 12, _ => exact hal_12
  | 13, _ => exact hal_13
  | 14, _ => exact hal_14
  | 15, _ => exact hal_15
  | 16, _ => exact hal_16
  | 17, _ => exact hal_17
  | 18, _ => exact hal_18
  | 19, _ => exact hal_19
  | 20, _ => exact hal_20
  | 21, _ => exact hal_21
  | 22, _ => exact hal_22
  | 23, _ => exact hal_23
  | 24, _ => exact hal_24
  | k + 25, h => exact absurd h (by omega)
theorem pulS_turn (p : PuN) : pulS p = turnOf p.a (hC p.k) (hS p.k) p.back := rfl
theorem back_one {a c s : Nat} {b : Bool} (ha : a ≤ 2) (h : backAll c s = true) : backOk a c s b = true := by
  unfold backAll at h
  simp only [Bool.and_eq_true] at h
  obtain ⟨⟨h1, h2⟩, ⟨h3, h4⟩, h5, h6⟩ := h
  have : a = 0 ∨ a = 1 ∨ a = 2 := by omega
  rcases this with rfl | rfl | rfl <;> cases b <;> assumption
/-- The pulse turned back. -/
def PuN.inv (p : PuN) : PuN := ⟨p.a, p.k, !p.back⟩
theorem back_law {p : PuN} (h : p.ok) : nz (productS (pulS p.inv) unitS) = nz (adjS (nz (productS (pulS p) unitS))) := by
  have h1 := back_one (b := p.back) h.1 (hal_of h.2).back
  unfold backOk at h1
  rw [pulS_turn, pulS_turn]
  exact C8.ext_parts rfl (eq_of_beq h1)
end Go.Proofs.YtmbjomjpnfnbkaaGreat

namespace Go.Proofs.YtmbjomjpnfnbkaaGreat
open Flt

theorem ng_ng (x : Nat) : ng (ng x) = x := by
  show (x ^^^ 2 ^ 31) ^^^ 2 ^ 31 = x
  rw [Nat.xor_assoc, Nat.xor_self, Nat.xor_zero]
theorem adj_tab (p x y z : Nat) : adjS (tabS p x y z) = tabS p (ng x) (ng y) (ng z) := by
  unfold adjS tabS
  simp only [ng_ng]
theorem nS_neg {p x y z : Nat} (hx : Lw 3 x) (hy : Lw 3 y) (hz : Lw 3 z) : nS p (ng x) (ng y) (ng z) = nS p x y z := by
  unfold nS
  rw [val_ng hx, val_ng hy, val_ng hz]
  grind
theorem about_tab {a k : Nat} (hk : k ≤ 24) : ∃ P x y z, aboutS a (hC k) (hS k) = tabS P x y z ∧ Lw 3 P ∧ Lw 3 x ∧ Lw 3 y ∧ Lw 3 z ∧ nS P x y z ≤ 5 / 4 := by
  have c := (hC_lw hk).mono (j := 3) (by decide)
  have s := (hS_lw hk).mono (j := 3) (by decide)
  have z := Lw.zero 3
  have h := of_decide_eq_true (show decide (val S (hC k) * val S (hC k) + val S (hS k) * val S (hS k) ≤ 5 / 4) = true from (hal_of hk).norm)
  unfold aboutS nS
  by_cases h0 : a = 0
  · rw [if_pos h0]
    exact ⟨_, _, _, _, rfl, c, s, z, z, by rw [val0]; grind⟩
  · rw [if_neg h0]
    by_cases h1 : a = 1
    · rw [if_pos h1]
      exact ⟨_, _, _, _, rfl, c, z, s, z, by rw [val0]; grind⟩
    · rw [if_neg h1]
      exact ⟨_, _, _, _, rfl, c, z, z, s, by rw [val0]; grind⟩
theorem pul_tab {p : PuN} (hp : p.ok) : ∃ P x y z, pulS p = tabS P x y z ∧ Lw 3 P ∧ Lw 3 x ∧ Lw 3 y ∧ Lw 3 z ∧ nS P x y z ≤ 5 / 4 := by
  obtain ⟨P, x, y, z, e, lp, lx, ly, lz, hn⟩ := about_tab (a := p.a) hp.2
  unfold pulS
  rw [e]
  split
  · exact ⟨P, ng x, ng y, ng z, adj_tab P x y z, lp, lx.ng, ly.ng, lz.ng, by rw [nS_neg lx ly lz]; exact hn⟩
  · exact ⟨P, x, y, z, rfl, lp, lx, ly, lz, hn⟩
theorem tabL_small : ∀ (ps : List PuN) (t : C8) (n : Nat), (∀ p ∈ ps, p.ok) → n + ps.length < 301 → Lw8 58 t → n1 t ≤ Bn n → n2 t ≤ Bn n → Lw8 58 (tabL ps t)
  | [], t, _, _, _, h, _, _ => h
  | p :: ps, t, n, hp, hl, l, h1, h2 => by
    obtain ⟨P, x, y, z, e, lp, lx, ly, lz, hn⟩ := pul_tab (hp p (List.mem_cons_self ..))
    have hB := Bn_ge n
    have c1 := col_err lp lx ly lz l.a0 l.a1 l.c0 l.c1 (by decide) (by decide) hn hB h1
    have c2 := col_err lp lx ly lz l.b0 l.b1 l.d0 l.d1 (by decide) (by decide) hn hB h2
    have hL := (product_law (tabS_lw3 lp lx ly lz) l (by decide) (by decide)).2
    have e1 : n1 (productS (tabS P x y z) t) ≤ Bn (n + 1) := c1
    have e2 : n2 (productS (tabS P x y z) t) ≤ Bn (n + 1) := c2
    simp only [List.length_cons] at hl
    show Lw8 58 (tabL ps (productS (pulS p) t))
    rw [e]
    exact tabL_small ps _ (n + 1) (fun q hq => hp q (List.mem_cons_of_mem _ hq)) (by omega) (cols_lw hL e1 e2 (Bn_le _ (by omega))) e1 e2
theorem unit_n : n1 unitS ≤ Bn 0 ∧ n2 unitS ≤ Bn 0 := by
  have h1 : n1 unitS = val S 1065353216 * val S 1065353216 + val S (ng 0) * val S (ng 0) + val S 0 * val S 0 + val S (ng 0) * val S (ng 0) := rfl
  have h2 : n2 unitS = val S (ng 0) * val S (ng 0) + val S (ng 0) * val S (ng 0) + val S 1065353216 * val S 1065353216 + val S 0 * val S 0 := rfl
  rw [h1, h2, val_ng (Lw.zero 0), val0, val1]
  unfold Bn
  constructor <;> grind
/-- The table of a sequence: its parts are at most 2^58. -/
theorem seq_small {ps : List PuI} (h : seqB ps = true) : Lw8 58 (tabL (ps.map PuI.n) unitS) := by
  unfold seqB at h
  simp only [Bool.and_eq_true, decide_eq_true_eq] at h
  refine tabL_small _ _ 0 (fun p hp => ?_) (by simp; omega) (unit_lw.mono (by decide)) unit_n.1 unit_n.2
  obtain ⟨q, hq, rfl⟩ := List.mem_map.1 hp
  exact (PuI.ok_n (List.all_eq_true.1 h.1 q hq)).1
end Go.Proofs.YtmbjomjpnfnbkaaGreat
