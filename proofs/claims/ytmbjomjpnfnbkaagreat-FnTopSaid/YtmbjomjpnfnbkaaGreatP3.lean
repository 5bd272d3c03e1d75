/-
  The laws of a product of tables and of their distance: what the program computes of numbers without signed zeros is what the reference computes.
-/
import Derived.Test.YtmbjomjpnfnbkaaGreatP2
import Derived.Test.YtmbjomjpnfnbkaaGreatD6
import Derived.Test.YtmbjomjpnfnbkaaGreatA11
set_option linter.unusedSimpArgs false
set_option linter.unusedVariables false
namespace Go.Proofs.YtmbjomjpnfnbkaaGreat
open Flt

theorem bothS_lw {a b x y : Nat} {p q k : Int} (ha : Lw p a) (hb : Lw q b) (hx : Lw p x) (hy : Lw q y) (h : p + q ≤ k) (h3 : -149 ≤ k) (h4 : k ≤ 126) : Lw (k + 1) (bothS a b x y) :=
  ⟨(bothS_rnd ha.2.1 hb.2.1 hx.2.1 hy.2.1).lt32', bothS_le ha.2 hb.2 hx.2 hy.2 h h h3 h4⟩
theorem Lw.ng {k : Int} {x : Nat} (h : Lw k x) : Lw k (Go.Op.negFloat .f32 x) := ⟨ng_lt h.1, Le_ng h⟩
theorem adds_lw {x y : Nat} {k : Int} (hx : Lw k x) (hy : Lw k y) (h3 : -149 ≤ k + 1) (h4 : k + 1 ≤ 127) : Lw (k + 1) (adds x y) :=
  ⟨adds_lt hx.2.1 hy.2.1, (adds_eq hx.2.1 hy.2.1).2.leS h3 h4 (ab_add_le hx.2.2 hy.2.2)⟩
theorem subs_lw {x y : Nat} {k : Int} (hx : Lw k x) (hy : Lw k y) (h3 : -149 ≤ k + 1) (h4 : k + 1 ≤ 127) : Lw (k + 1) (subs x y) :=
  ⟨subs_lt hx.2.1 hy.2.1, (subs_eq hx.2.1 hy.2.1).2.leS h3 h4 (by
    have := ab_add_le hx.2.2 (q := - val S y) (by rw [ab_neg]; exact hy.2.2)
    rw [show val S x - val S y = val S x + - val S y by grind]; exact this)⟩
theorem Lw.mono {k j : Int} {x : Nat} (h : Lw k x) (hk : k ≤ j) : Lw j x := ⟨h.1, h.2.1, by have := zp_mono hk; have := h.2.2; grind⟩
theorem Lw.zn {k : Int} {x : Nat} (h : Lw k x) : Lw k (zn x) := ⟨zn_lt h.1, zn_fin h.2.1, by rw [zn_val h.2.1]; exact h.2.2⟩
theorem Lw8.mono {k j : Int} {t : C8} (h : Lw8 k t) (hk : k ≤ j) : Lw8 j t := ⟨h.a0.mono hk, h.a1.mono hk, h.b0.mono hk, h.b1.mono hk, h.c0.mono hk, h.c1.mono hk, h.d0.mono hk, h.d1.mono hk⟩
theorem Lw8.nz {k : Int} {t : C8} (h : Lw8 k t) : Lw8 k (nz t) := ⟨h.a0.zn, h.a1.zn, h.b0.zn, h.b1.zn, h.c0.zn, h.c1.zn, h.d0.zn, h.d1.zn⟩
theorem Lw.zero (k : Int) : Lw k 0 := ⟨by decide, fin0, by rw [val0]; have := zp_pos k; simp [ab]; grind⟩
theorem Lw8.bad (k c : Int) : Lw8 k (bad8 c) := ⟨.zero k, .zero k, .zero k, .zero k, .zero k, .zero k, .zero k, .zero k⟩
theorem Lw8.tab {k : Int} {p x y z : Nat} (hp : Lw k p) (hx : Lw k x) (hy : Lw k y) (hz : Lw k z) : Lw8 k (tabS p x y z) := ⟨hp, hz.ng, hy.ng, hx.ng, hy, hx.ng, hp, hz⟩

theorem times_law {a b p q : Nat} {k j : Int} (ha : Lw k a) (hb : Lw k b) (hp : Lw j p) (hq : Lw j q) (h3 : -149 ≤ k + j) (h4 : k + j ≤ 125) :
    timesM (zn a) (zn b) (zn p) (zn q) 0 = (0, zn (timesS a b p q).1, zn (timesS a b p q).2) ∧ Lw (k + j + 1) (timesS a b p q).1 ∧ Lw (k + j + 1) (timesS a b p q).2 := by
  have l1 := bothS_lw (k := k + j) ha hp hb.ng hq (Int.le_refl _) h3 (by omega)
  have l2 := bothS_lw (k := k + j) ha hq hb hp (Int.le_refl _) h3 (by omega)
  have ea := Eqv.zn ha.2.1; have eb := Eqv.zn hb.2.1; have ep := Eqv.zn hp.2.1; have eq := Eqv.zn hq.2.1
  have en := ng_congr (zn_lt hb.1) hb.1 eb
  refine ⟨?_, l1, l2⟩
  unfold timesM timesS ng
  simp only [bothM_e ea ep en eq, bothM_e ea eq eb ep, rnd_g l1.2.1, rnd_g l2.2.1]

theorem inTable_law {a0 a1 b0 b1 x0 x1 y0 y1 : Nat} {k j : Int} (ha0 : Lw k a0) (ha1 : Lw k a1) (hb0 : Lw j b0) (hb1 : Lw j b1) (hx0 : Lw k x0) (hx1 : Lw k x1) (hy0 : Lw j y0) (hy1 : Lw j y1) (h3 : -149 ≤ k + j) (h4 : k + j ≤ 125) :
    inTableM (zn a0) (zn a1) (zn b0) (zn b1) (zn x0) (zn x1) (zn y0) (zn y1) 0 = (0, zn (inTableS a0 a1 b0 b1 x0 x1 y0 y1).1, zn (inTableS a0 a1 b0 b1 x0 x1 y0 y1).2) ∧ Lw (k + j + 2) (inTableS a0 a1 b0 b1 x0 x1 y0 y1).1 ∧ Lw (k + j + 2) (inTableS a0 a1 b0 b1 x0 x1 y0 y1).2 := by
  obtain ⟨e1, l1, l2⟩ := times_law ha0 ha1 hb0 hb1 h3 h4
  obtain ⟨e2, m1, m2⟩ := times_law hx0 hx1 hy0 hy1 h3 h4
  have n1 := adds_lw l1 m1 (by omega) (by omega)
  have n2 := adds_lw l2 m2 (by omega) (by omega)
  rw [show k + j + 1 + 1 = k + j + 2 by omega] at n1 n2
  refine ⟨?_, n1, n2⟩
  unfold inTableM inTableS plusM
  simp only [e1, e2, addM_e (Eqv.zn l1.2.1) (Eqv.zn m1.2.1), addM_e (Eqv.zn l2.2.1) (Eqv.zn m2.2.1), rnd_g n1.2.1, rnd_g n2.2.1]

theorem product_law {s t : C8} {k j : Int} (hs : Lw8 k s) (ht : Lw8 j t) (h3 : -149 ≤ k + j) (h4 : k + j ≤ 125) :
    productM (nz s) (nz t) 0 = nz (productS s t) ∧ Lw8 (k + j + 2) (productS s t) := by
  have r0 := inTable_law hs.a0 hs.a1 ht.a0 ht.a1 hs.b0 hs.b1 ht.c0 ht.c1 h3 h4
  have r1 := inTable_law hs.a0 hs.a1 ht.b0 ht.b1 hs.b0 hs.b1 ht.d0 ht.d1 h3 h4
  have r2 := inTable_law hs.c0 hs.c1 ht.a0 ht.a1 hs.d0 hs.d1 ht.c0 ht.c1 h3 h4
  have r3 := inTable_law hs.c0 hs.c1 ht.b0 ht.b1 hs.d0 hs.d1 ht.d0 ht.d1 h3 h4
  refine ⟨?_, ⟨r0.2.1, r0.2.2, r1.2.1, r1.2.2, r2.2.1, r2.2.2, r3.2.1, r3.2.2⟩⟩
  unfold productM productS nz
  simp only [r0.1, r1.1, r2.1, r3.1]

theorem inTableM_ne (a0 a1 b0 b1 x0 x1 y0 y1 : Nat) {c : Int} (h : c ≠ 0) : (inTableM a0 a1 b0 b1 x0 x1 y0 y1 c).1 = c := by
  unfold inTableM plusM timesM; simp only [bothM_ne _ _ _ _ h, addM_ne _ _ h]
theorem productM_ne (s t : C8) {c : Int} (h : c ≠ 0) : (productM s t c).c = c := by
  unfold productM; simp only [inTableM_ne _ _ _ _ _ _ _ _ h]
theorem minusM_ne (a b p q : Nat) {c : Int} (h : c ≠ 0) : (minusM a b p q c).1 = c := by
  unfold minusM; simp only [subM_ne _ _ h]
theorem distM_ne (s t : C8) {c : Int} (h : c ≠ 0) : (distM s t c).1 = c := by
  unfold distM; simp only [minusM_ne _ _ _ _ h]

theorem minus_law {a b p q : Nat} {k : Int} (ha : Lw k a) (hb : Lw k b) (hp : Lw k p) (hq : Lw k q) (h3 : -149 ≤ k + 1) (h4 : k + 1 ≤ 127) :
    minusM (zn a) (zn b) (zn p) (zn q) 0 = (0, zn (subs a p), zn (subs b q)) ∧ Lw (k + 1) (subs a p) ∧ Lw (k + 1) (subs b q) := by
  have l1 := subs_lw ha hp h3 h4
  have l2 := subs_lw hb hq h3 h4
  refine ⟨?_, l1, l2⟩
  unfold minusM
  simp only [subM_e (Eqv.zn ha.2.1) (Eqv.zn hp.2.1), subM_e (Eqv.zn hb.2.1) (Eqv.zn hq.2.1), rnd_g l1.2.1, rnd_g l2.2.1]

/-- A word of a number; what is of a value. -/
structure Is (x : Nat) (q : Rat) : Prop where
  lt : x < 2 ^ 32
  fin : fin S x = true
  val : val S x = q
theorem sizeM_is {x : Nat} (h : FW x) : Is (sizeM x) (ab (val S x)) ∧ zn (sizeM x) = sizeM x := by
  have hn := ng_fin h.1 h.2
  have f1 := zn_fin h.2
  have f2 := zn_fin hn.1
  unfold sizeM ng
  rcases mx_cases f1 f2 with ⟨e, hv⟩ | ⟨e, hv⟩ <;> rw [e]
  · rw [zn_val h.2, zn_val hn.1, hn.2] at hv
    exact ⟨⟨zn_lt h.1, f1, by rw [zn_val h.2]; unfold ab; split <;> grind⟩, zn_zn _⟩
  · rw [zn_val h.2, zn_val hn.1, hn.2] at hv
    exact ⟨⟨zn_lt (ng_lt h.1), f2, by rw [zn_val hn.1, hn.2]; unfold ab; split <;> grind⟩, zn_zn _⟩
theorem szS_is {x : Nat} (h : FW x) : Is (szS x) (ab (val S x)) := by
  have hn := ng_fin h.1 h.2
  have e : Go.FloatKind.f32.format.order x 0 = S.order x 0 := rfl
  unfold szS ng
  rw [e, order_fin S h.2 fin0, val0]
  by_cases h1 : val S x < 0
  · rw [if_pos h1]; simp only [beq_self_eq_true, if_true]
    exact ⟨ng_lt h.1, hn.1, by rw [hn.2]; unfold ab; rw [if_pos h1]⟩
  · rw [if_neg h1]
    have : ((some (if val S x = 0 then Ordering.eq else Ordering.gt) : Option Ordering) == some .lt) = false := by split <;> rfl
    rw [this]; simp only [Bool.false_eq_true, if_false]
    exact ⟨h.1, h.2, by unfold ab; rw [if_neg h1]⟩
theorem mx_is {x y : Nat} {p q : Rat} (hx : Is x p) (hy : Is y q) : Is (mx x y) (if p < q then q else p) := by
  rcases mx_cases hx.fin hy.fin with ⟨e, hv⟩ | ⟨e, hv⟩ <;> rw [e]
  · rw [hx.val, hy.val] at hv; rw [if_neg (by grind)]; exact hx
  · rw [hx.val, hy.val] at hv
    split
    · exact hy
    · exact ⟨hy.lt, hy.fin, by rw [hy.val]; grind⟩
theorem upS_is {x y : Nat} {p q : Rat} (hx : Is x p) (hy : Is y q) : Is (upS x y) (if p < q then q else p) := by
  have e : Go.FloatKind.f32.format.order y x = S.order y x := rfl
  unfold upS
  rw [e, order_fin S hy.fin hx.fin, hx.val, hy.val]
  by_cases h1 : p < q
  · have h2 : ¬ q < p := by grind
    have h3 : ¬ q = p := by grind
    rw [if_pos h1, if_neg h2, if_neg h3]; simp only [beq_self_eq_true, if_true]; exact hy
  · rw [if_neg h1]
    have : ((some (if q < p then Ordering.lt else if q = p then Ordering.eq else Ordering.gt) : Option Ordering) == some .gt) = false := by
      by_cases h2 : q < p
      · rw [if_pos h2]; rfl
      · have h3 : q = p := by grind
        rw [if_neg h2, if_pos h3]; rfl
    rw [this]; simp only [Bool.false_eq_true, if_false]; exact hx
theorem Is.zero : Is 0 0 := ⟨by decide, fin0, val0⟩
theorem zn_mx {x y : Nat} (hx : fin S x = true) (hy : fin S y = true) (zx : zn x = x) (zy : zn y = y) : zn (mx x y) = mx x y := by
  rcases mx_cases hx hy with ⟨e, hv⟩ | ⟨e, hv⟩ <;> rw [e] <;> assumption
theorem Is.eq {x y : Nat} {p : Rat} (hx : Is x p) (hy : Is y p) : zn x = zn y := zn_eq hx.lt hy.lt ⟨hx.fin, hy.fin, by rw [hx.val, hy.val]⟩
end Go.Proofs.YtmbjomjpnfnbkaaGreat
