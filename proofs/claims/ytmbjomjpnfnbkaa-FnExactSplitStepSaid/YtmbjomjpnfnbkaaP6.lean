/-
  The law of the split step: what the program computes is what the reference does.
-/
import Derived.Test.YtmbjomjpnfnbkaaP4
set_option linter.unusedSimpArgs false
set_option linter.unusedVariables false
namespace Go.Proofs.Ytmbjomjpnfnbkaa
open Flt

theorem timesM_ne3 (a b p q : Nat) {c : Int} (h : c ≠ 0) : timesM a b p q c = (c, 0, 0) := by
  unfold timesM; simp only [bothM_ne _ _ _ _ h]
theorem inTableM_ne3 (a0 a1 b0 b1 x0 x1 y0 y1 : Nat) {c : Int} (h : c ≠ 0) : inTableM a0 a1 b0 b1 x0 x1 y0 y1 c = (c, 0, 0) := by
  unfold inTableM plusM; simp only [timesM_ne3 _ _ _ _ h, addM_ne _ _ h]
theorem productM_bad (s t : C8) {c : Int} (h : c ≠ 0) : productM s t c = bad8 c := by
  unfold productM bad8; simp only [inTableM_ne3 _ _ _ _ _ _ _ _ h]

theorem times_law0 {a b p q : Nat} {k j : Int} (ha : Lw k a) (hb : Lw k b) (hp : Lw j p) (hq : Lw j q) (h3 : -149 ≤ k + j) (h4 : k + j ≤ 125) :
    timesM a b p q 0 = (0, zn (timesS a b p q).1, zn (timesS a b p q).2) ∧ Lw (k + j + 1) (timesS a b p q).1 ∧ Lw (k + j + 1) (timesS a b p q).2 := by
  have l1 := bothS_lw (k := k + j) ha hp hb.ng hq (Int.le_refl _) h3 (by omega)
  have l2 := bothS_lw (k := k + j) ha hq hb hp (Int.le_refl _) h3 (by omega)
  have ea := Eqv.refl ha.2.1; have eb := Eqv.refl hb.2.1; have ep := Eqv.refl hp.2.1; have eq := Eqv.refl hq.2.1
  have en := Eqv.refl hb.ng.2.1
  refine ⟨?_, l1, l2⟩
  unfold ng at en
  unfold timesM timesS ng
  simp only [bothM_e ea ep en eq, bothM_e ea eq eb ep, rnd_g l1.2.1, rnd_g l2.2.1]

theorem inTable_law0 {a0 a1 b0 b1 x0 x1 y0 y1 : Nat} {k j : Int} (ha0 : Lw k a0) (ha1 : Lw k a1) (hb0 : Lw j b0) (hb1 : Lw j b1) (hx0 : Lw k x0) (hx1 : Lw k x1) (hy0 : Lw j y0) (hy1 : Lw j y1) (h3 : -149 ≤ k + j) (h4 : k + j ≤ 125) :
    inTableM a0 a1 b0 b1 x0 x1 y0 y1 0 = (0, zn (inTableS a0 a1 b0 b1 x0 x1 y0 y1).1, zn (inTableS a0 a1 b0 b1 x0 x1 y0 y1).2) ∧ Lw (k + j + 2) (inTableS a0 a1 b0 b1 x0 x1 y0 y1).1 ∧ Lw (k + j + 2) (inTableS a0 a1 b0 b1 x0 x1 y0 y1).2 := by
  obtain ⟨e1, l1, l2⟩ := times_law0 ha0 ha1 hb0 hb1 h3 h4
  obtain ⟨e2, m1, m2⟩ := times_law0 hx0 hx1 hy0 hy1 h3 h4
  have n1 := adds_lw l1 m1 (by omega) (by omega)
  have n2 := adds_lw l2 m2 (by omega) (by omega)
  rw [show k + j + 1 + 1 = k + j + 2 by omega] at n1 n2
  refine ⟨?_, n1, n2⟩
  unfold inTableM inTableS plusM
  simp only [e1, e2, addM_e (Eqv.zn l1.2.1) (Eqv.zn m1.2.1), addM_e (Eqv.zn l2.2.1) (Eqv.zn m2.2.1), rnd_g n1.2.1, rnd_g n2.2.1]

theorem product_law0 {s t : C8} {k j : Int} (hs : Lw8 k s) (ht : Lw8 j t) (h3 : -149 ≤ k + j) (h4 : k + j ≤ 125) :
    productM s t 0 = nz (productS s t) ∧ Lw8 (k + j + 2) (productS s t) := by
  have r0 := inTable_law0 hs.a0 hs.a1 ht.a0 ht.a1 hs.b0 hs.b1 ht.c0 ht.c1 h3 h4
  have r1 := inTable_law0 hs.a0 hs.a1 ht.b0 ht.b1 hs.b0 hs.b1 ht.d0 ht.d1 h3 h4
  have r2 := inTable_law0 hs.c0 hs.c1 ht.a0 ht.a1 hs.d0 hs.d1 ht.c0 ht.c1 h3 h4
  have r3 := inTable_law0 hs.c0 hs.c1 ht.b0 ht.b1 hs.d0 hs.d1 ht.d0 ht.d1 h3 h4
  refine ⟨?_, ⟨r0.2.1, r0.2.2, r1.2.1, r1.2.2, r2.2.1, r2.2.2, r3.2.1, r3.2.2⟩⟩
  unfold productM productS nz
  simp only [r0.1, r1.1, r2.1, r3.1]

theorem productM_lw {s t : C8} {k j : Int} (hs : Lw8 k s) (ht : Lw8 j t) (h3 : -149 ≤ k + j) (h4 : k + j ≤ 125) (c : Int) : Lw8 (k + j + 2) (productM s t c) := by
  by_cases hc : c = 0
  · subst hc
    obtain ⟨e, l⟩ := product_law0 hs ht h3 h4
    rw [e]; exact l.nz
  · rw [productM_bad _ _ hc]; exact Lw8.bad _ c

/-- 'SplitStep', from no code on. -/
def splitM (x y z h : Nat) : C8 :=
  let k := divM h 1073741824 0
  let f := stepM x 0 0 k.2 k.1
  let s := stepM 0 y 0 k.2 f.c
  let t := stepM 0 0 z h s.c
  let p := productM f s t.c
  let q := productM p t p.c
  let r := productM q s q.c
  productM r f r.c
/-- The split step, bare. -/
def splitS (x y z h : Nat) : C8 :=
  let k := divs h 1073741824
  let f := stepS x 0 0 k
  let s := stepS 0 y 0 k
  let t := stepS 0 0 z h
  if f.c ≠ 0 ∨ s.c ≠ 0 ∨ t.c ≠ 0 then bad8 3 else productS (productS (productS (productS f s) t) s) f

theorem FW0 : FW 0 := ⟨by decide, fin0⟩
theorem stepM_bad3 (x y z h : Nat) : stepM x y z h 3 = bad8 3 := stepM_bad _ _ _ _ (by decide)
theorem productM_bad3 (s t : C8) : productM s t 3 = bad8 3 := productM_bad _ _ (by decide)

theorem split_law {x y z h : Nat} (hx : FW x) (hy : FW y) (hz : FW z) (hh : FW h) : splitM x y z h = nz (splitS x y z h) ∧ Lw8 23 (splitS x y z h) := by
  have fk := half_fin hh.2
  have wk : FW (divs h 1073741824) := ⟨divs_lt hh.2 fin_2 (by rw [val2]; decide), fk⟩
  have e1 : divM h 1073741824 0 = (0, zn (divs h 1073741824)) := by rw [divM_e (Eqv.refl hh.2) (Eqv.refl fin_2) (by rw [val2]; decide) 0, rnd_g fk]
  have c3 : (bad8 3).c = 3 := rfl
  obtain ⟨lf, ef⟩ := stepS_lw hx.2 fin0 fin0 fk
  obtain ⟨ls, es⟩ := stepS_lw fin0 hy.2 fin0 fk
  obtain ⟨lt, et⟩ := stepS_lw fin0 fin0 hz.2 hh.2
  have mf : (stepS x 0 0 (divs h 1073741824)).c = 0 → stepM x 0 0 (zn (divs h 1073741824)) 0 = nz (stepS x 0 0 (divs h 1073741824)) := fun e => by rw [stepM_zn fk]; exact stepM_g hx FW0 FW0 wk e
  have mf' : stepS x 0 0 (divs h 1073741824) = bad8 3 → stepM x 0 0 (zn (divs h 1073741824)) 0 = bad8 3 := fun e => by rw [stepM_zn fk]; exact stepM_b hx FW0 FW0 wk e
  have ms : (stepS 0 y 0 (divs h 1073741824)).c = 0 → stepM 0 y 0 (zn (divs h 1073741824)) 0 = nz (stepS 0 y 0 (divs h 1073741824)) := fun e => by rw [stepM_zn fk]; exact stepM_g FW0 hy FW0 wk e
  have ms' : stepS 0 y 0 (divs h 1073741824) = bad8 3 → stepM 0 y 0 (zn (divs h 1073741824)) 0 = bad8 3 := fun e => by rw [stepM_zn fk]; exact stepM_b FW0 hy FW0 wk e
  have mt : (stepS 0 0 z h).c = 0 → stepM 0 0 z h 0 = nz (stepS 0 0 z h) := fun e => stepM_g FW0 FW0 hz hh e
  have mt' : stepS 0 0 z h = bad8 3 → stepM 0 0 z h 0 = bad8 3 := fun e => stepM_b FW0 FW0 hz hh e
  unfold splitM splitS
  simp only [e1]
  generalize stepS x 0 0 (divs h 1073741824) = f at *
  generalize stepS 0 y 0 (divs h 1073741824) = s at *
  generalize stepS 0 0 z h = t at *
  have nc : ∀ u : C8, (nz u).c = u.c := fun u => rfl
  rcases ef with ef | ef
  · rcases es with es | es
    · rcases et with et | et
      · obtain ⟨p1, l1⟩ := product_law lf ls (by decide) (by decide)
        obtain ⟨p2, l2⟩ := product_law l1 lt (by decide) (by decide)
        obtain ⟨p3, l3⟩ := product_law l2 ls (by decide) (by decide)
        obtain ⟨p4, l4⟩ := product_law l3 lf (by decide) (by decide)
        have n : ∀ u v, (productS u v).c = 0 := fun u v => rfl
        rw [if_neg (by rw [ef, es, et]; decide)]
        simp only [mf ef, ms es, mt et, nc, ef, es, et, p1, p2, p3, p4, n]
        exact ⟨trivial, l4⟩
      · rw [if_pos (.inr (.inr (by rw [et]; decide)))]
        simp only [mf ef, ms es, mt' et, nc, ef, es, c3, productM_bad3, nz_bad]
        exact ⟨trivial, Lw8.bad 23 3⟩
    · rw [if_pos (.inr (.inl (by rw [es]; decide)))]
      simp only [mf ef, ms' es, nc, ef, c3, stepM_bad3, productM_bad3, nz_bad]
      exact ⟨trivial, Lw8.bad 23 3⟩
  · rw [if_pos (.inl (by rw [ef]; decide))]
    simp only [mf' ef, c3, stepM_bad3, productM_bad3, nz_bad]
    exact ⟨trivial, Lw8.bad 23 3⟩
end Go.Proofs.Ytmbjomjpnfnbkaa
