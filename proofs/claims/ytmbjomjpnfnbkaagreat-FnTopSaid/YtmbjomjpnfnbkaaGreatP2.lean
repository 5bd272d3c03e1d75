/-
  No part of a step of a field is greater than 8; in the words of the plain arithmetic.
-/
import Derived.Test.YtmbjomjpnfnbkaaGreatP1
set_option linter.unusedSimpArgs false
set_option linter.unusedVariables false
namespace Flt
open Ieee Go

theorem log_of {x : Nat} (h : fin S x = true) (h0 : val S x ≠ 0) : ∃ i : Int, (2 : Rat) ^ i ≤ ab (val S x) ∧ ab (val S x) < 2 ^ (i + 1) := by
  have hz : rg S x ≠ 0 := fun hc => h0 ((val_zero_iff S S_good h).2 hc)
  have hm := rmag_ne S hz
  refine ⟨rplace S (rg S x) + (rmag S (rg S x)).log2, ?_, ?_⟩
  · rw [val_ab S S_good h]; exact mg_log_le hm
  · rw [val_ab S S_good h]; exact mg_lt_log
theorem lt_128 {x : Nat} (h : fin S x = true) : ab (val S x) < 2 ^ (128 : Int) := by
  rw [val_ab S S_good h]
  have hi := (fin_iff S x S_good).1 h
  have h1 : rv S (rg S x) ≤ rv S (S.infRung - 1) := (rv_mono S hi (by decide)).2 (by omega)
  have h2 : rv S (S.infRung - 1) < 2 ^ (128 : Int) := by
    have : mg (rmag S (S.infRung - 1)) (rplace S (S.infRung - 1)) < 2 ^ (rplace S (S.infRung - 1) + (rmag S (S.infRung - 1)).log2 + 1) := mg_lt_log
    have e : rplace S (S.infRung - 1) + (rmag S (S.infRung - 1)).log2 + 1 = 128 := by decide +kernel
    rw [e] at this; exact this
  grind
theorem log_lt {x : Nat} {i : Int} (h : fin S x = true) (h1 : (2 : Rat) ^ i ≤ ab (val S x)) : i ≤ 127 := by
  have := lt_128 h
  have : (2 : Rat) ^ i < 2 ^ (128 : Int) := by grind
  have := zp_lt_iff.1 this
  omega

/-- The square of what is at least 2^i is at least 2^(2 i). -/
theorem muls_ge {x y : Nat} {i j : Int} (hx : fin S x = true) (hy : fin S y = true) (h : fin S (muls x y) = true) (h1 : (2 : Rat) ^ i ≤ ab (val S x)) (h2 : (2 : Rat) ^ j ≤ ab (val S y)) (hk : -149 ≤ i + j) : (2 : Rat) ^ (i + j) ≤ ab (val S (muls x y)) := by
  refine (muls_eq hx hy).2.ge S_good (by rw [S_least]; exact hk) h ?_
  rw [ab_mul, zp_add]
  have a1 := Rat.mul_le_mul_of_nonneg_right h1 (Rat.le_of_lt (zp_pos j))
  have a2 := Rat.mul_le_mul_of_nonneg_left h2 (ab_nonneg (val S x))
  grind

/-- A sum of numbers that are not negative is not less than either. -/
theorem adds_ge {x y : Nat} (hx : fin S x = true) (hy : fin S y = true) (h : fin S (adds x y) = true) (px : 0 ≤ val S x) (py : 0 ≤ val S y) : val S x ≤ val S (adds x y) ∧ val S y ≤ val S (adds x y) := by
  have r := (adds_eq hx hy).2
  constructor
  · obtain ⟨r1, e1, e2, e3⟩ := Rnd.self S_good hx
    have := Rnd.mono S_good e1 r e2 h (by grind)
    rw [e3] at this; exact this
  · obtain ⟨r1, e1, e2, e3⟩ := Rnd.self S_good hy
    have := Rnd.mono S_good e1 r e2 h (by grind)
    rw [e3] at this; exact this

theorem sqS_ge {x y z : Nat} (hx : fin S x = true) (hy : fin S y = true) (hz : fin S z = true) (h : fin S (sqS x y z) = true) :
    val S (muls x x) ≤ val S (sqS x y z) ∧ val S (muls y y) ≤ val S (sqS x y z) ∧ val S (muls z z) ≤ val S (sqS x y z) := by
  obtain ⟨h1, h2, h3, h4⟩ := sqS_parts hx hy hz h
  have a := adds_ge h1 h2 h4 ((muls_pos hx).val h1) ((muls_pos hy).val h2)
  have p4 : 0 ≤ val S (adds (muls x x) (muls y y)) := by have := (muls_pos hx).val h1; grind
  have b := adds_ge h4 h3 h p4 ((muls_pos hz).val h3)
  exact ⟨by unfold sqS; grind, by unfold sqS; grind, b.2⟩

/-- A quotient's bound. -/
theorem divs_bound {x y : Nat} {J K : Int} (hx : fin S x = true) (hy : fin S y = true) (h1 : ab (val S x) ≤ 2 ^ J) (h2 : (2 : Rat) ^ K ≤ ab (val S y)) {L : Int} (hl : J - K ≤ L) (l1 : -149 ≤ L) (l2 : L ≤ 127) : Le S L (divs x y) := by
  have h0 : val S y ≠ 0 := by
    intro hc; rw [hc] at h2
    have := zp_pos K
    simp [ab] at h2; grind
  refine (divs_eq hx hy h0).2.leS l1 l2 ?_
  have := quo_bound S S_good hx hy h1 h2
  have := zp_mono hl
  grind

/-- Half a number, before it is rounded, is the very half. -/
theorem half_quo {h : Nat} (hh : fin S h = true) : ab (dv (quo S h 1073741824)) * 2 = ab (val S h) := by
  rw [dv_quo_abs, val_ab S S_good hh]
  have e1 : rmag S (rg S 1073741824) = 2 ^ 23 := by decide
  have e2 : rplace S (rg S 1073741824) = -22 := by decide
  have e3 : (2 ^ 23 : Nat).log2 = 23 := by decide
  have e4 : S.fractionBits = 23 := rfl
  have hl := rmag_S_log (rg S h)
  rw [e1, e2, e3, e4]
  unfold rv
  generalize rmag S (rg S h) = M at *
  generalize rplace S (rg S h) = i at *
  obtain ⟨t, ht⟩ := Nat.exists_eq_add_of_le (show 23 ≤ 23 + 2 + 23 - M.log2 by omega)
  rw [ht]
  have x1 : M <<< (23 + t) = M * 2 ^ t * 2 ^ 23 := by rw [Nat.shiftLeft_eq, Nat.pow_add, Nat.mul_assoc, Nat.mul_comm (2 ^ 23)]
  rw [x1, Nat.mul_div_cancel _ (by decide), Nat.mul_mod_left]
  have x2 : 2 * (M * 2 ^ t) + ((0 : Nat) != 0).toNat = M * 2 ^ (t + 1) := by simp [Nat.pow_succ]; rw [Nat.mul_comm 2, Nat.mul_assoc]
  rw [x2]
  unfold mg
  rw [Rat.natCast_mul, ← zp_nat]
  have x3 : (2 : Rat) ^ (1 : Int) = 2 := Rat.zpow_one 2
  have x4 : (2 : Rat) ^ i = 2 ^ ((t + 1 : Nat) : Int) * 2 ^ (i - -22 - ((23 + t : Nat) : Int) - 1) * 2 ^ (1 : Int) := by
    rw [← zp_add, ← zp_add]; congr 1; omega
  rw [x4, x3]; grind

/-- Half of what is at least 2^t is at least 2^(t - 1). -/
theorem half_ge {h : Nat} {t : Int} (hh : fin S h = true) (h1 : (2 : Rat) ^ t ≤ ab (val S h)) (ht : -148 ≤ t) : (2 : Rat) ^ (t - 1) ≤ ab (val S (divs h 1073741824)) := by
  refine (divs_eq hh fin_2 (by rw [val2]; decide)).2.ge S_good (by rw [S_least]; omega) (half_fin hh) ?_
  have e := half_quo hh
  have : (2 : Rat) ^ t = 2 ^ (t - 1) * 2 := by
    have := zp_add (t - 1) 1
    rw [Rat.zpow_one] at this
    rw [← this]; congr 1; omega
  rw [this, ← e] at h1
  exact mul_le_cancel (by decide) h1

theorem step_part {h x k kk m q d : Nat} (hh : fin S h = true) (hx : fin S x = true) (ek : divs h 1073741824 = k) (ekk : muls k k = kk) (fkk : fin S kk = true) (fm : fin S m = true) (hm : val S (muls x x) ≤ val S m) (fxx : fin S (muls x x) = true)
    (eq : muls kk m = q) (fq : fin S q = true) (fd : fin S d = true) (hd : 1 ≤ val S d) (hdq : val S q ≤ val S d) : Le S 3 (muls (divs h d) x) := by
  have fk : fin S k = true := ek ▸ half_fin hh
  have rk : Rnd S (dv (quo S h 1073741824)) k := by rw [← ek]; exact (divs_eq hh fin_2 (by rw [val2]; decide)).2
  have ad : ab (val S d) = val S d := ab_of_nonneg (by grind)
  have hd1 : 1 ≤ ab (val S d) := by rw [ad]; exact hd
  have hf := divs_le hh fd hd1
  by_cases x0 : val S x = 0
  · refine (muls_eq hf.1 hx).2.leS (by decide) (by decide) ?_
    rw [x0, Rat.mul_zero]
    have := zp_pos 3
    simp [ab]; grind
  obtain ⟨j, j1, j2⟩ := log_of hx x0
  by_cases k0 : val S k = 0
  · -- h is very small
    have hs : ab (val S h) ≤ 2 ^ (-148 : Int) := by
      apply Classical.byContradiction; intro hc
      have hc : (2 : Rat) ^ (-148 : Int) ≤ ab (val S h) := by grind
      have := half_ge hh hc (by decide)
      rw [ek, k0] at this
      have p := zp_pos (-148 - 1)
      simp [ab] at this; grind
    refine (muls_eq hf.1 hx).2.leS (by decide) (by decide) ?_
    have hx' := Rat.le_of_lt (lt_128 hx)
    have := ab_mul_le (i := -148) (j := 128) (p := val S (divs h d)) (q := val S x) (by grind) hx'
    have := zp_mono (show (-148 + 128 : Int) ≤ 3 by decide)
    grind
  obtain ⟨i, i1, i2⟩ := log_of fk k0
  have hs : ab (val S h) ≤ 2 ^ (i + 2) := by
    apply Classical.byContradiction; intro hc
    have hc : (2 : Rat) ^ (i + 2) ≤ ab (val S h) := by grind
    have ir : -150 ≤ i := by
      apply Classical.byContradiction; intro hi
      have p1 := rplace_S (rg S k)
      have p2 : (2 : Rat) ^ (i + 1) ≤ 2 ^ (-149 : Int) := zp_mono (by omega)
      have p3 : (2 : Rat) ^ (-149 : Int) ≤ ab (val S k) := by
        rw [val_ab S S_good fk]
        have hz : rg S k ≠ 0 := fun hc => k0 ((val_zero_iff S S_good fk).2 hc)
        have hm := rmag_ne S hz
        have p4 : (2 : Rat) ^ (rplace S (rg S k) + (rmag S (rg S k)).log2) ≤ rv S (rg S k) := mg_log_le hm
        have p5 : (2 : Rat) ^ (-149 : Int) ≤ 2 ^ (rplace S (rg S k) + (rmag S (rg S k)).log2) := zp_mono (by omega)
        grind
      grind
    have := half_ge hh hc (by omega)
    rw [ek, show i + 2 - 1 = i + 1 by omega] at this
    grind
  have ii : 2 * i ≤ 127 := by
    apply Classical.byContradiction; intro hc
    have := muls_ge (i := i) (j := i) fk fk (by rw [ekk]; exact fkk) i1 i1 (by omega)
    rw [ekk] at this
    have := log_lt fkk this
    omega
  have jj : 2 * j ≤ 127 := by
    apply Classical.byContradiction; intro hc
    have := muls_ge (i := j) (j := j) hx hx fxx j1 j1 (by omega)
    have := log_lt fxx this
    omega
  by_cases hij : 0 ≤ i + j
  · have a1 := muls_ge (i := i) (j := i) fk fk (by rw [ekk]; exact fkk) i1 i1 (by omega)
    rw [ekk] at a1
    have a2 := muls_ge (i := j) (j := j) hx hx fxx j1 j1 (by omega)
    have a3 : (2 : Rat) ^ (j + j) ≤ ab (val S m) := by
      have p1 := (muls_pos hx).val fxx
      rw [ab_of_nonneg p1] at a2
      rw [ab_of_nonneg (by grind)]; grind
    have a4 := muls_ge (i := i + i) (j := j + j) fkk fm (by rw [eq]; exact fq) a1 a3 (by omega)
    rw [eq] at a4
    have a5 : (2 : Rat) ^ (i + i + (j + j)) ≤ ab (val S d) := by
      have pq : 0 ≤ val S q := by
        rw [← eq]
        have pkk : 0 ≤ val S kk := by rw [← ekk]; exact (muls_pos fk).val (by rw [ekk]; exact fkk)
        have pm : 0 ≤ val S m := by have := (muls_pos hx).val fxx; grind
        exact (muls_pos2 fkk fm pkk pm).val (by rw [eq]; exact fq)
      rw [ab_of_nonneg pq] at a4
      rw [ad]; grind
    have b := divs_bound (L := max (-149) (2 - i - 2 * j)) hh fd hs a5 (by omega) (by omega) (by omega)
    refine (muls_eq hf.1 hx).2.leS (by decide) (by decide) ?_
    have c := ab_mul_le (p := val S (divs h d)) (q := val S x) b.2 (Rat.le_of_lt j2)
    have := zp_mono (show max (-149) (2 - i - 2 * j) + (j + 1) ≤ 3 by omega)
    grind
  · refine (muls_eq hf.1 hx).2.leS (by decide) (by decide) ?_
    have c := ab_mul_le (p := val S (divs h d)) (q := val S x) (i := i + 2) (by grind) (Rat.le_of_lt j2)
    have := zp_mono (show i + 2 + (j + 1) ≤ 3 by omega)
    grind
end Flt
namespace Go.Proofs.YtmbjomjpnfnbkaaGreat
open Flt

theorem step_p {q : Nat} (hq : fin S q = true) (pq : 0 ≤ val S q) : Le S 1 (divs (subs 1065353216 q) (adds 1065353216 q)) := by
  have hd := adds1 hq
  have hd1 := adds1_ge hq pq
  have hs := subs1 hq
  have hdq : val S q ≤ val S (adds 1065353216 q) := (adds_ge fin_1 hq hd (by rw [val1]; decide) pq).2
  have ad : ab (val S (adds 1065353216 q)) = val S (adds 1065353216 q) := ab_of_nonneg (by grind)
  have two : (2 : Rat) ^ (1 : Int) = 2 := Rat.zpow_one 2
  have rs := (subs_eq fin_1 hq).2
  by_cases h1 : val S q ≤ 1
  · have hsv : ab (val S (subs 1065353216 q)) ≤ 1 := by
      have := rs.leS (k := 0) (by decide) (by decide) (by rw [val1, Rat.zpow_zero]; unfold ab; split <;> grind)
      have e := this.2
      rw [Rat.zpow_zero] at e; exact e
    have := divs_le hs hd (by rw [ad]; exact hd1)
    exact ⟨this.1, by rw [two]; grind⟩
  · obtain ⟨e, e1, e2⟩ := log_of hq (by grind)
    have hsv := Rnd.le_val S_good rs hq (by rw [val1]; unfold ab; split <;> split <;> grind)
    rw [ab_of_nonneg pq] at e1
    exact divs_bound (J := e + 1) (K := e) hs hd (by grind) (by rw [ad]; grind) (by omega) (by decide) (by decide)

/-- What a step of numbers comes to: a bad code, or a table of small parts. -/
theorem stepS_cases {x y z h : Nat} (hx : fin S x = true) (hy : fin S y = true) (hz : fin S z = true) (hh : fin S h = true) :
    stepS x y z h = bad8 3 ∨ ∃ p X Y Z, stepS x y z h = tabS p X Y Z ∧ (p < 2 ^ 32 ∧ Le S 1 p) ∧ (X < 2 ^ 32 ∧ Le S 3 X) ∧ (Y < 2 ^ 32 ∧ Le S 3 Y) ∧ (Z < 2 ^ 32 ∧ Le S 3 Z) := by
  by_cases hb : fin S (sqS x y z) = false ∨ fin S (muls (divs h 1073741824) (divs h 1073741824)) = false ∨ fin S (muls (muls (divs h 1073741824) (divs h 1073741824)) (sqS x y z)) = false
  · left; unfold stepS; simp only [if_pos hb]
  · have h1 : fin S (sqS x y z) = true := by cases h : fin S (sqS x y z) <;> simp_all
    have h2 : fin S (muls (divs h 1073741824) (divs h 1073741824)) = true := by cases h : fin S (muls (divs h 1073741824) (divs h 1073741824)) <;> simp_all
    have h3 : fin S (muls (muls (divs h 1073741824) (divs h 1073741824)) (sqS x y z)) = true := by cases h : fin S (muls (muls (divs h 1073741824) (divs h 1073741824)) (sqS x y z)) <;> simp_all
    obtain ⟨_, _, _, md, md1, ms, mp, mf⟩ := stepS_mid hx hy hz hh h1 h2 h3
    have pk := (muls_pos (half_fin hh)).val h2
    have pm := (sqS_pos hx hy hz).val h1
    have pq := (muls_pos2 h2 h1 pk pm).val h3
    have d0 : val S (adds 1065353216 (muls (muls (divs h 1073741824) (divs h 1073741824)) (sqS x y z))) ≠ 0 := by grind
    have hdq := (adds_ge fin_1 h3 md (by rw [val1]; decide) pq).2
    obtain ⟨g1, g2, g3⟩ := sqS_ge hx hy hz h1
    obtain ⟨s1, s2, s3, _⟩ := sqS_parts hx hy hz h1
    have bx := step_part hh hx rfl rfl h2 h1 g1 s1 rfl h3 md md1 hdq
    have by' := step_part hh hy rfl rfl h2 h1 g2 s2 rfl h3 md md1 hdq
    have bz := step_part hh hz rfl rfl h2 h1 g3 s3 rfl h3 md md1 hdq
    right
    refine ⟨_, _, _, _, ?_, ⟨divs_lt ms md d0, step_p h3 pq⟩, ⟨muls_lt mf hx, bx⟩, ⟨muls_lt mf hy, by'⟩, ⟨muls_lt mf hz, bz⟩⟩
    unfold stepS
    simp only [if_neg hb]
    rw [if_neg (by rw [bx.1, by'.1, bz.1]; simp)]
end Go.Proofs.YtmbjomjpnfnbkaaGreat
