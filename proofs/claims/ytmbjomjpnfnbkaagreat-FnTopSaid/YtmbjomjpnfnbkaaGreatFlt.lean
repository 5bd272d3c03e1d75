/-
  Plain arithmetic of binary floats after the model's own 'Ieee': what rounding gives, exactness, order, sums, products, quotients, by rational values. No program is named here.
-/
import Ieee.Arith
namespace Flt
open Ieee

/-- r ≥ 0 as mag * 2^place. -/
def mg (m : Nat) (e : Int) : Rat := (m : Rat) * (2 : Rat) ^ e

theorem two_ne : (2 : Rat) ≠ 0 := by decide
theorem zp_pos (e : Int) : 0 < (2 : Rat) ^ e := Rat.zpow_pos (by decide)
theorem zp_add (a b : Int) : (2 : Rat) ^ (a + b) = 2 ^ a * 2 ^ b := Rat.zpow_add two_ne a b
theorem zp_nat (n : Nat) : (2 : Rat) ^ (n : Int) = ((2 ^ n : Nat) : Rat) := by
  rw [Rat.zpow_natCast]; simp
theorem zp_one_le (n : Nat) : 1 ≤ (2 : Rat) ^ (n : Int) := by
  rw [zp_nat]; have : (1 : Nat) ≤ 2 ^ n := Nat.one_le_two_pow
  exact_mod_cast this
theorem zp_mono {a b : Int} (h : a ≤ b) : (2 : Rat) ^ a ≤ 2 ^ b := by
  obtain ⟨n, rfl⟩ := Int.le.dest h
  rw [zp_add]
  have h1 := Rat.mul_le_mul_of_nonneg_left (zp_one_le n) (Rat.le_of_lt (zp_pos a))
  grind
theorem zp_lt {a b : Int} (h : a < b) : (2 : Rat) ^ a < 2 ^ b := by
  have h1 := zp_mono (a := a + 1) (b := b) (by omega)
  rw [zp_add, Rat.zpow_one] at h1
  have := zp_pos a
  grind
theorem zp_le_iff {a b : Int} : (2 : Rat) ^ a ≤ 2 ^ b ↔ a ≤ b := by
  constructor
  · intro h; apply Int.not_lt.1; intro hc; have := zp_lt hc; grind
  · exact zp_mono
theorem zp_lt_iff {a b : Int} : (2 : Rat) ^ a < 2 ^ b ↔ a < b := by
  constructor
  · intro h; apply Int.not_le.1; intro hc; have := zp_mono hc; grind
  · exact zp_lt

theorem mg_nonneg (m : Nat) (e : Int) : 0 ≤ mg m e :=
  Rat.mul_nonneg (by exact_mod_cast Nat.zero_le m) (Rat.le_of_lt (zp_pos e))
theorem mg_zero (e : Int) : mg 0 e = 0 := by simp [mg]
theorem mg_pos {m : Nat} {e : Int} (h : m ≠ 0) : 0 < mg m e :=
  Rat.mul_pos (by exact_mod_cast Nat.pos_of_ne_zero h) (zp_pos e)
theorem mg_shl (m k : Nat) (e : Int) : mg (m <<< k) e = mg m (e + k) := by
  unfold mg; rw [Nat.shiftLeft_eq, Rat.natCast_mul, zp_add, zp_nat]; grind
theorem mg_one (e : Int) : mg 1 e = 2 ^ e := by simp [mg]

/-- floor log2. -/
theorem mg_log_le {m : Nat} {e : Int} (h : m ≠ 0) : (2 : Rat) ^ (e + m.log2) ≤ mg m e := by
  unfold mg; rw [zp_add, zp_nat]
  have h1 : ((2 ^ m.log2 : Nat) : Rat) ≤ (m : Rat) := by exact_mod_cast Nat.log2_self_le h
  have h2 := Rat.mul_le_mul_of_nonneg_left h1 (Rat.le_of_lt (zp_pos e))
  grind
theorem mg_lt_log {m : Nat} {e : Int} : mg m e < (2 : Rat) ^ (e + m.log2 + 1) := by
  unfold mg; rw [show e + (m.log2 : Int) + 1 = e + ((m.log2 + 1 : Nat) : Int) by simp; omega, zp_add, zp_nat]
  have h1 : (m : Rat) < ((2 ^ (m.log2 + 1) : Nat) : Rat) := by exact_mod_cast Nat.lt_log2_self
  have h2 := (Rat.mul_lt_mul_left (zp_pos e)).2 h1
  grind

/-- K is q rounded to the nearest whole number, ties to even. -/
def Rne (q : Rat) (K : Nat) : Prop :=
  2 * q ≤ 2 * K + 1 ∧ 2 * (K : Rat) ≤ 2 * q + 1 ∧ (2 * q = 2 * K + 1 → K % 2 = 0) ∧ (2 * (K : Rat) = 2 * q + 1 → K % 2 = 0)

theorem Rne.mono {q q' : Rat} {K K' : Nat} (h : Rne q K) (h' : Rne q' K') (hq : q ≤ q') : K ≤ K' := by
  apply Nat.not_lt.1
  intro hc
  have hc' : (K' : Rat) + 1 ≤ K := by exact_mod_cast hc
  obtain ⟨_, h2, _, h4⟩ := h
  obtain ⟨h1', _, h3', _⟩ := h'
  have e1 : 2 * (K : Rat) = 2 * q + 1 := by grind
  have e2 : 2 * q' = 2 * K' + 1 := by grind
  have e3 : (K : Rat) = K' + 1 := by grind
  have e4 : K = K' + 1 := by exact_mod_cast e3
  have := h4 e1; have := h3' e2
  omega

theorem Rne.exact (K : Nat) : Rne (K : Rat) K := ⟨by grind, by grind, by grind, by grind⟩

theorem cut_rne (neg : Bool) (n d : Nat) : Rne (mg n (-(d : Int))) (Toward.even.cut neg n d) := by
  -- first: the true gap
  have key : ∀ d : Nat, Rne (mg n (-(d : Int))) (n / 2 ^ d + (decide (2 ^ d < 2 * (n % 2 ^ d)) || (2 ^ d == 2 * (n % 2 ^ d) && n / 2 ^ d % 2 == 1)).toNat) := by
    intro d
    have hp : 0 < 2 ^ d := Nat.two_pow_pos d
    generalize hG : 2 ^ d = G at *
    have hq : mg n (-(d : Int)) * (G : Rat) = n := by
      unfold mg
      rw [Rat.zpow_neg, zp_nat, hG]
      have hne : (G : Rat) ≠ 0 := by
        have : (0 : Rat) < (G : Rat) := by exact_mod_cast hp
        grind
      rw [Rat.mul_assoc, Rat.inv_mul_cancel _ hne, Rat.mul_one]
    generalize mg n (-(d : Int)) = q at *
    have hn : (n : Rat) = (G : Rat) * ((n / G : Nat) : Rat) + ((n % G : Nat) : Rat) := by
      have := Nat.div_add_mod n G
      exact_mod_cast this.symm
    have hr : n % G < G := Nat.mod_lt _ hp
    have hr' : ((n % G : Nat) : Rat) < (G : Rat) := by exact_mod_cast hr
    have hr0 : (0 : Rat) ≤ ((n % G : Nat) : Rat) := by exact_mod_cast Nat.zero_le _
    generalize n / G = L at *
    generalize n % G = r at *
    have hGp : (0 : Rat) < (G : Rat) := by exact_mod_cast hp
    -- q G = G L + r
    have hqe : (q - L) * (G : Rat) = r := by grind
    have pos_of : ∀ x : Rat, 0 ≤ x * (G : Rat) → 0 ≤ x := by
      intro x hx
      apply Rat.not_lt.1; intro hx'
      have := Rat.mul_pos (a := -x) (b := (G : Rat)) (by grind) hGp
      grind
    have pos_of' : ∀ x : Rat, 0 < x * (G : Rat) → 0 < x := by
      intro x hx
      apply Rat.not_le.1; intro hx'
      have := Rat.mul_nonneg (a := -x) (b := (G : Rat)) (by grind) (Rat.le_of_lt hGp)
      grind
    by_cases c1 : G < 2 * r
    · have c1' : (G : Rat) < 2 * (r : Rat) := by exact_mod_cast c1
      have a1 := pos_of' (2 * (q - L) - 1) (by grind)
      have a2 := pos_of' (1 - (q - L)) (by grind)
      simp only [c1, decide_true, Bool.true_or, Bool.toNat_true]
      refine ⟨?_, ?_, ?_, ?_⟩ <;> (try intro _) <;> simp only [Rat.natCast_add] at * <;> grind
    · have c1' : 2 * (r : Rat) ≤ (G : Rat) := by exact_mod_cast Nat.not_lt.1 c1
      have a0 := pos_of (q - L) (by grind)
      by_cases c2 : G = 2 * r
      · have c2' : (G : Rat) = 2 * (r : Rat) := by exact_mod_cast c2
        have a1 := pos_of (1 - 2 * (q - L)) (by grind)
        have a1' := pos_of (2 * (q - L) - 1) (by grind)
        by_cases c3 : L % 2 = 1
        · have : (decide (G < 2 * r) || (G == 2 * r && L % 2 == 1)) = true := by simp [c2, c3]
          rw [this]
          refine ⟨?_, ?_, ?_, ?_⟩ <;> (try intro _) <;> simp only [Bool.toNat_true, Rat.natCast_add] at * <;> first | omega | grind
        · have : (decide (G < 2 * r) || (G == 2 * r && L % 2 == 1)) = false := by simp [c2]; omega
          rw [this]
          refine ⟨?_, ?_, ?_, ?_⟩ <;> (try intro _) <;> simp only [Bool.toNat_false, Nat.add_zero] at * <;> first | omega | grind
      · have c3 : 2 * r < G := by omega
        have c3' : 2 * (r : Rat) < (G : Rat) := by exact_mod_cast c3
        have a1 := pos_of' (1 - 2 * (q - L)) (by grind)
        have : (decide (G < 2 * r) || (G == 2 * r && L % 2 == 1)) = false := by simp; omega
        rw [this]
        refine ⟨?_, ?_, ?_, ?_⟩ <;> (try intro _) <;> simp only [Bool.toNat_false, Nat.add_zero] at * <;> first | omega | grind
  unfold Toward.cut
  simp only [Nat.one_shiftLeft]
  by_cases hd : d ≤ n.log2 + 2
  · rw [Nat.min_eq_left hd]
    exact key d
  · have hd' : n.log2 + 2 ≤ d := by omega
    rw [Nat.min_eq_right hd']
    have hlt : n < 2 ^ (n.log2 + 1) := Nat.lt_log2_self
    have h2 : 2 ^ (n.log2 + 2) = 2 * 2 ^ (n.log2 + 1) := by rw [Nat.pow_succ]; omega
    have h3 : 2 ^ (n.log2 + 2) ≤ 2 ^ d := Nat.pow_le_pow_right (by decide) hd'
    have k := key d
    have z : ∀ G, 2 * n < G → (n / G + (decide (G < 2 * (n % G)) || (G == 2 * (n % G) && n / G % 2 == 1)).toNat) = 0 := by
      intro G hG
      rw [Nat.div_eq_of_lt (by omega), Nat.mod_eq_of_lt (by omega)]
      have : (decide (G < 2 * n) || (G == 2 * n && 0 % 2 == 1)) = false := by simp; omega
      rw [this]; rfl
    rw [z _ (by omega)] at k
    have := z (2 ^ (n.log2 + 2)) (by omega)
    rw [show (n / 2 ^ (n.log2 + 2) + (decide (2 ^ (n.log2 + 2) < 2 * (n % 2 ^ (n.log2 + 2))) || (2 ^ (n.log2 + 2) == 2 * (n % 2 ^ (n.log2 + 2)) && n / 2 ^ (n.log2 + 2) % 2 == 1)).toNat) = 0 from this]
    exact k


/-- The place of the last digit kept. -/
def last (f : Format) (m : Nat) (e : Int) : Int := max (e + m.log2 - f.fractionBits) f.leastPlace
/-- What is kept. -/
def kept (f : Format) (m : Nat) (e : Int) : Nat := Toward.even.cut false (m <<< (e - last f m e).toNat) (last f m e - e).toNat
def rung (f : Format) (m : Nat) (e : Int) : Nat :=
  if m = 0 then 0 else min ((last f m e - f.leastPlace).toNat * f.binade + kept f m e) f.infRung

theorem nearest_eq (f : Format) (neg : Bool) (m : Nat) (e : Int) : f.nearest neg m e = f.word neg (rung f m e) := by
  unfold Format.nearest rung kept last
  split
  · rfl
  · cases neg <;> rfl

theorem kept_rne (f : Format) (m : Nat) (e : Int) : Rne (mg m (e - last f m e)) (kept f m e) := by
  have h := cut_rne false (m <<< (e - last f m e).toNat) (last f m e - e).toNat
  rw [mg_shl] at h
  unfold kept
  have he : -((last f m e - e).toNat : Int) + ((e - last f m e).toNat : Int) = e - last f m e := by omega
  rw [he] at h
  exact h

theorem mg_split (m : Nat) (e d : Int) : mg m e = mg m (e - d) * 2 ^ d := by
  unfold mg; rw [show e = (e - d) + d by omega, zp_add, show e - d + d - d = e - d by omega]; grind

theorem mg_log_mono {m m' : Nat} {e e' : Int} (hm : m ≠ 0) (h : mg m e ≤ mg m' e') : e + m.log2 ≤ e' + m'.log2 := by
  have h1 := mg_log_le (e := e) hm
  have h2 := mg_lt_log (m := m') (e := e')
  have h3 : (2 : Rat) ^ (e + m.log2) < (2 : Rat) ^ (e' + m'.log2 + 1) := by grind
  have := zp_lt_iff.1 h3
  omega

theorem mul_le_cancel {a b c : Rat} (hc : 0 < c) (h : a * c ≤ b * c) : a ≤ b := by
  refine Rat.le_of_mul_le_mul_left (c := c) ?_ hc
  grind
theorem mul_lt_cancel {a b c : Rat} (hc : 0 < c) (h : a * c < b * c) : a < b := by
  have := (Rat.mul_lt_mul_left (a := a) (b := b) hc).1 (by grind)
  exact this

theorem kept_lt (f : Format) (m : Nat) (e : Int) : kept f m e ≤ 2 * f.binade := by
  have hr := kept_rne f m e
  have hb : mg m (e - last f m e) ≤ ((2 * f.binade : Nat) : Rat) := by
    have h1 : mg m (e - last f m e) < (2 : Rat) ^ ((e - last f m e) + m.log2 + 1) := mg_lt_log
    have h2 : (e - last f m e) + m.log2 + 1 ≤ ((f.fractionBits + 1 : Nat) : Int) := by unfold last; omega
    have h3 := zp_mono h2
    rw [zp_nat] at h3
    unfold Format.binade
    rw [show 2 * 2 ^ f.fractionBits = 2 ^ (f.fractionBits + 1) by rw [Nat.pow_succ]; omega]
    grind
  exact Rne.mono hr (Rne.exact _) hb

theorem kept_ge (f : Format) (m : Nat) (e : Int) (hm : m ≠ 0) (h : f.leastPlace < last f m e) : f.binade ≤ kept f m e := by
  have hr := kept_rne f m e
  have hb : ((f.binade : Nat) : Rat) ≤ mg m (e - last f m e) := by
    have h1 : (2 : Rat) ^ ((e - last f m e) + m.log2) ≤ mg m (e - last f m e) := mg_log_le hm
    have h2 : ((f.fractionBits : Nat) : Int) ≤ (e - last f m e) + m.log2 := by unfold last at *; omega
    have h3 := zp_mono h2
    rw [zp_nat] at h3
    unfold Format.binade
    grind
  exact Rne.mono (Rne.exact _) hr hb

theorem rung_mono (f : Format) {m m' : Nat} {e e' : Int} (h : mg m e ≤ mg m' e') : rung f m e ≤ rung f m' e' := by
  unfold rung
  by_cases hm : m = 0
  · simp [hm]
  · have hm' : m' ≠ 0 := by
      intro hc; subst hc; have := mg_pos (e := e) hm; rw [mg_zero] at h; grind
    rw [if_neg hm, if_neg hm']
    have hl := mg_log_mono hm h
    have hll : last f m e ≤ last f m' e' := by unfold last; omega
    have main : (last f m e - f.leastPlace).toNat * f.binade + kept f m e ≤ (last f m' e' - f.leastPlace).toNat * f.binade + kept f m' e' := by
      by_cases hs : last f m e = last f m' e'
      · rw [hs]
        apply Nat.add_le_add_left
        have r1 := kept_rne f m e
        have r2 := kept_rne f m' e'
        refine r1.mono r2 ?_
        rw [hs]
        refine mul_le_cancel (zp_pos (last f m' e')) ?_
        rw [← mg_split, ← mg_split]; exact h
      · have hlt : last f m e < last f m' e' := by omega
        have k1 := kept_lt f m e
        have h0 : f.leastPlace ≤ last f m e := by unfold last; omega
        have k2 := kept_ge f m' e' hm' (by omega)
        have : (last f m e - f.leastPlace).toNat + 1 ≤ (last f m' e' - f.leastPlace).toNat := by omega
        have := Nat.mul_le_mul_right f.binade this
        rw [Nat.add_mul] at this
        omega
    omega

/-- The magnitude and the place of a finite rung. -/
def rmag (f : Format) (r : Nat) : Nat := if r < f.binade then r else f.binade + r % f.binade
def rplace (f : Format) (r : Nat) : Int := if r < f.binade then f.leastPlace else f.leastPlace + (r / f.binade - 1 : Nat)

theorem read_word (f : Format) (neg : Bool) (r : Nat) (h : r < f.infRung) (hi : f.infRung < f.signWeight) :
    f.read (f.word neg r) = .number neg (rmag f r) (rplace f r) := by
  have h1 : f.word neg r / f.signWeight % 2 = if neg then 1 else 0 := by
    unfold Format.word
    cases neg
    · simp only [Bool.false_eq_true, if_false]; rw [Nat.div_eq_of_lt (by omega)]
    · simp only [if_true]
      rw [Nat.add_div_left _ (by omega), Nat.div_eq_of_lt (by omega)]
  have h2 : f.word neg r % f.signWeight = r := by
    unfold Format.word
    cases neg
    · simp only [Bool.false_eq_true, if_false]; exact Nat.mod_eq_of_lt (by omega)
    · simp only [if_true]; rw [Nat.add_mod_left]; exact Nat.mod_eq_of_lt (by omega)
  unfold Format.read
  simp only [h1, h2]
  unfold rmag rplace
  by_cases hb : r < f.binade
  · simp only [if_pos hb]; cases neg <;> rfl
  · simp only [if_neg hb, if_pos h]; cases neg <;> rfl

theorem rung_exact (f : Format) (r : Nat) (h : r < f.infRung) : rung f (rmag f r) (rplace f r) = r := by
  have hp : 0 < f.binade := Nat.two_pow_pos _
  by_cases hb : r < f.binade
  · unfold rmag rplace
    simp only [if_pos hb]
    unfold rung
    by_cases h0 : r = 0
    · simp [h0]
    · rw [if_neg h0]
      have hl : last f r f.leastPlace = f.leastPlace := by
        have : r.log2 < f.fractionBits := (Nat.log2_lt h0).2 hb
        unfold last; omega
      have hk : kept f r f.leastPlace = r := by
        have hr := kept_rne f r f.leastPlace
        rw [hl, Int.sub_self] at hr
        have e0 : mg r 0 = (r : Rat) := by simp [mg]
        rw [e0] at hr
        exact Nat.le_antisymm (hr.mono (Rne.exact _) Rat.le_refl) ((Rne.exact _).mono hr Rat.le_refl)
      rw [hl, hk]; simp; omega
  · have hb' : f.binade ≤ r := by omega
    unfold rmag rplace
    simp only [if_neg hb]
    have hmod : r % f.binade < f.binade := Nat.mod_lt _ hp
    have hq : 1 ≤ r / f.binade := (Nat.le_div_iff_mul_le hp).2 (by omega)
    unfold rung
    rw [if_neg (by omega)]
    have hlog : (f.binade + r % f.binade).log2 = f.fractionBits := by
      have hne : f.binade + r % f.binade ≠ 0 := by omega
      have a1 : (f.binade + r % f.binade).log2 < f.fractionBits + 1 := (Nat.log2_lt hne).2 (by rw [Nat.pow_succ]; unfold Format.binade at *; omega)
      have a2 : ¬ (f.binade + r % f.binade).log2 < f.fractionBits := by
        intro hc; have := (Nat.log2_lt hne).1 hc; unfold Format.binade at *; omega
      omega
    have hl : last f (f.binade + r % f.binade) (f.leastPlace + (r / f.binade - 1 : Nat)) = f.leastPlace + (r / f.binade - 1 : Nat) := by
      unfold last; rw [hlog]; omega
    have hk : kept f (f.binade + r % f.binade) (f.leastPlace + (r / f.binade - 1 : Nat)) = f.binade + r % f.binade := by
      have hr := kept_rne f (f.binade + r % f.binade) (f.leastPlace + (r / f.binade - 1 : Nat))
      rw [hl, Int.sub_self] at hr
      have e0 : ∀ n, mg n 0 = (n : Rat) := by intro n; simp [mg]
      rw [e0] at hr
      exact Nat.le_antisymm (hr.mono (Rne.exact _) Rat.le_refl) ((Rne.exact _).mono hr Rat.le_refl)
    rw [hl, hk]
    have e1 : (f.leastPlace + ((r / f.binade - 1 : Nat) : Int) - f.leastPlace).toNat = r / f.binade - 1 := by omega
    rw [e1]
    have e2 : (r / f.binade - 1) * f.binade + (f.binade + r % f.binade) = r := by
      have := Nat.div_add_mod r f.binade
      obtain ⟨q, hq'⟩ : ∃ q, r / f.binade = q + 1 := ⟨r / f.binade - 1, by omega⟩
      rw [hq'] at this ⊢
      rw [Nat.mul_add, Nat.mul_one] at this
      rw [Nat.add_sub_cancel, Nat.mul_comm q]; omega
    rw [e2]; omega

/-- The value of a rung. -/
def rv (f : Format) (r : Nat) : Rat := mg (rmag f r) (rplace f r)

theorem rv_mono (f : Format) {a b : Nat} (ha : a < f.infRung) (hb : b < f.infRung) : rv f a ≤ rv f b ↔ a ≤ b := by
  constructor
  · intro h
    have := rung_mono f h
    rwa [rung_exact f a ha, rung_exact f b hb] at this
  · intro h
    rcases @Rat.le_total (rv f a) (rv f b) with h1 | h1
    · exact h1
    · have := rung_mono f h1
      rw [rung_exact f a ha, rung_exact f b hb] at this
      have : a = b := by omega
      rw [this]; exact Rat.le_refl

end Flt

namespace Flt
open Ieee

/-- The value of a datum: 0 for what is no number. -/
def dv : Datum → Rat
  | .number neg m e => if neg then - mg m e else mg m e
  | _ => 0

def isNum : Datum → Bool
  | .number .. => true
  | _ => false

theorem signed_val (neg : Bool) (m up : Nat) (e : Int) : ((signed neg m up : Int) : Rat) * (2 : Rat) ^ e = if neg then - mg m (e + up) else mg m (e + up) := by
  have h := mg_shl m up e
  unfold signed
  cases neg
  · simp only [Bool.false_eq_true, if_false]
    rw [← h]; rfl
  · simp only [if_true]
    rw [← h, Rat.intCast_neg]
    show - (((m <<< up : Nat) : Int) : Rat) * _ = - (((m <<< up : Nat) : Rat) * _)
    rw [Rat.neg_mul]; rfl

theorem sum_number (s t : Bool) (m n : Nat) (i j : Int) :
    ∃ u k b, (Datum.number s m i).sum (.number t n j) = some (.number u k b) ∧ dv (.number u k b) = dv (.number s m i) + dv (.number t n j) := by
  refine ⟨_, _, _, rfl, ?_⟩
  have h1 := signed_val s m (i - min i j).toNat (min i j)
  have h2 := signed_val t n (j - min i j).toNat (min i j)
  rw [show min i j + ((i - min i j).toNat : Int) = i by omega] at h1
  rw [show min i j + ((j - min i j).toNat : Int) = j by omega] at h2
  generalize signed s m (i - min i j).toNat = a at *
  generalize signed t n (j - min i j).toNat = b at *
  have h3 : dv (.number (if a + b = 0 then s && t else decide (a + b < 0)) (a + b).natAbs (min i j)) = ((a + b : Int) : Rat) * (2 : Rat) ^ (min i j) := by
    unfold dv mg
    by_cases h0 : a + b = 0
    · rw [h0]; simp
    · rw [if_neg h0]
      by_cases hn : a + b < 0
      · simp only [hn, decide_true, if_true]
        have : (((a + b).natAbs : Nat) : Rat) = - ((a + b : Int) : Rat) := by
          have h : (((a + b).natAbs : Nat) : Int) = - (a + b) := by omega
          have h' : ((((a + b).natAbs : Nat) : Int) : Rat) = ((- (a + b) : Int) : Rat) := by rw [h]
          rw [Rat.intCast_neg] at h'
          exact h'
        rw [this]; grind
      · simp only [hn, decide_false, Bool.false_eq_true, if_false]
        have : (((a + b).natAbs : Nat) : Rat) = ((a + b : Int) : Rat) := by
          have h : (((a + b).natAbs : Nat) : Int) = (a + b) := by omega
          have h' : ((((a + b).natAbs : Nat) : Int) : Rat) = (((a + b) : Int) : Rat) := by rw [h]
          exact h'
        rw [this]
  rw [h3, Rat.intCast_add]
  show (_ : Rat) = (if s then - mg m i else mg m i) + (if t then - mg n j else mg n j)
  grind

theorem product_number (s t : Bool) (m n : Nat) (i j : Int) :
    ∃ u k b, (Datum.number s m i).product (.number t n j) = some (.number u k b) ∧ dv (.number u k b) = dv (.number s m i) * dv (.number t n j) := by
  refine ⟨_, _, _, rfl, ?_⟩
  have : mg (m * n) (i + j) = mg m i * mg n j := by
    unfold mg; rw [Rat.natCast_mul, zp_add]; grind
  show (if (s ^^ t) then - mg (m * n) (i + j) else mg (m * n) (i + j)) = (if s then - mg m i else mg m i) * (if t then - mg n j else mg n j)
  rw [this]
  cases s <;> cases t <;> simp <;> grind

theorem opposite_dv (d : Datum) : dv d.opposite = - dv d := by
  cases d with
  | number s m e => cases s <;> simp [Datum.opposite, dv]
  | infinity => simp [Datum.opposite, dv]
  | nan => simp [Datum.opposite, dv]

/-- The absolute value. -/
def ab (q : Rat) : Rat := if q < 0 then - q else q
theorem dv_abs (s : Bool) (m : Nat) (e : Int) : ab (dv (.number s m e)) = mg m e := by
  have := mg_nonneg m e
  unfold ab dv
  cases s <;> simp <;> grind

/-- What writing a number gives. -/
theorem write_number (f : Format) (hi : f.infRung < f.signWeight) (hB : f.binade ≤ f.infRung) (s : Bool) (m : Nat) (e : Int) :
    (rung f m e < f.infRung ∧ ∃ m' e', f.read (f.write (.number s m e)) = .number s m' e' ∧ mg m' e' = rv f (rung f m e)) ∨
    (rung f m e = f.infRung ∧ f.read (f.write (.number s m e)) = .infinity s) := by
  have hw : f.write (.number s m e) = f.word s (rung f m e) := nearest_eq f s m e
  rw [hw]
  by_cases h : rung f m e < f.infRung
  · exact .inl ⟨h, _, _, read_word f s _ h hi, rfl⟩
  · have h2 : rung f m e = f.infRung := by
      have : rung f m e ≤ f.infRung := by unfold rung; split <;> omega
      omega
    refine .inr ⟨h2, ?_⟩
    rw [h2]
    have h1 : f.word s f.infRung / f.signWeight % 2 = if s then 1 else 0 := by
      unfold Format.word
      cases s
      · simp only [Bool.false_eq_true, if_false]; rw [Nat.div_eq_of_lt (by omega)]
      · simp only [if_true]
        rw [Nat.add_div_left _ (by omega), Nat.div_eq_of_lt (by omega)]
    have h2 : f.word s f.infRung % f.signWeight = f.infRung := by
      unfold Format.word
      cases s
      · simp only [Bool.false_eq_true, if_false]; exact Nat.mod_eq_of_lt (by omega)
      · simp only [if_true]; rw [Nat.add_mod_left]; exact Nat.mod_eq_of_lt (by omega)
    unfold Format.read
    simp only [h1, h2]
    have hb : ¬ f.infRung < f.binade := by omega
    simp only [if_neg hb, if_neg (Nat.lt_irrefl _), if_true]
    cases s <;> rfl


/-- '2 ^ k' as a rung; what is at most that stays so. -/
theorem rung_le_pow (f : Format) {m : Nat} {e k : Int} (h : mg m e ≤ 2 ^ k) : rung f m e ≤ rung f 1 k :=
  rung_mono f (by rw [mg_one]; exact h)
theorem rung_ge_pow (f : Format) {m : Nat} {e k : Int} (h : (2 : Rat) ^ k ≤ mg m e) : rung f 1 k ≤ rung f m e :=
  rung_mono f (by rw [mg_one]; exact h)

/-- A rung by its parts. -/
theorem rv_parts (f : Format) (E K : Nat) (hK : K ≤ 2 * f.binade) (hE : E = 0 ∨ f.binade ≤ K) : rv f (E * f.binade + K) = mg K (f.leastPlace + E) := by
  have hp : 0 < f.binade := Nat.two_pow_pos _
  generalize hB : f.binade = B at *
  unfold rv rmag rplace
  rw [hB]
  by_cases h1 : K < B
  · have hE0 : E = 0 := by omega
    subst hE0
    rw [if_pos (by omega), if_pos (by omega)]; simp
  · by_cases h2 : K < 2 * B
    · have hq : (E * B + K) / B = E + 1 := by
        rw [Nat.add_comm, Nat.add_mul_div_right _ _ hp, show K = (K - B) + 1 * B by omega, Nat.add_mul_div_right _ _ hp, Nat.div_eq_of_lt (by omega)]; omega
      have hm : (E * B + K) % B = K - B := by
        rw [Nat.add_comm, Nat.add_mul_mod_self_right, show K = (K - B) + 1 * B by omega, Nat.add_mul_mod_self_right, Nat.mod_eq_of_lt (by omega)]; omega
      have hge : ¬ E * B + K < B := by omega
      rw [if_neg hge, if_neg hge, hq, hm, show B + (K - B) = K by omega]; simp
    · have hK' : K = 2 * B := by omega
      have hr : E * B + K = (E + 2) * B := by rw [hK', Nat.add_mul]
      have hge : ¬ E * B + K < B := by omega
      rw [if_neg hge, if_neg hge, hr, Nat.mul_div_cancel _ hp, Nat.mul_mod_left, hK']
      unfold mg
      rw [show f.leastPlace + ((E + 2 - 1 : Nat) : Int) = (f.leastPlace + E) + (1 : Int) by omega, zp_add, Rat.zpow_one, Rat.natCast_mul]
      simp; grind

theorem last_ge (f : Format) (m : Nat) (e : Int) : f.leastPlace ≤ last f m e := by unfold last; omega

/-- The value that rounding gives. -/
theorem rv_rung (f : Format) {m : Nat} {e : Int} (hm : m ≠ 0) (h : rung f m e < f.infRung) : rv f (rung f m e) = mg (kept f m e) (last f m e) := by
  have hl := last_ge f m e
  have hr : rung f m e = (last f m e - f.leastPlace).toNat * f.binade + kept f m e := by
    unfold rung at *; rw [if_neg hm] at *; omega
  rw [hr, rv_parts f _ _ (kept_lt f m e)]
  · rw [show f.leastPlace + ((last f m e - f.leastPlace).toNat : Int) = last f m e by omega]
  · by_cases hc : f.leastPlace < last f m e
    · exact .inr (kept_ge f m e hm hc)
    · exact .inl (by omega)

/-- It differs from what was rounded by half a unit at most. -/
theorem rv_near (f : Format) {m : Nat} {e : Int} (hm : m ≠ 0) (h : rung f m e < f.infRung) :
    2 * rv f (rung f m e) ≤ 2 * mg m e + 2 ^ (last f m e) ∧ 2 * mg m e ≤ 2 * rv f (rung f m e) + 2 ^ (last f m e) := by
  rw [rv_rung f hm h]
  have hk := kept_rne f m e
  rw [mg_split m e (last f m e), show mg (kept f m e) (last f m e) = (kept f m e : Rat) * 2 ^ (last f m e) from rfl]
  obtain ⟨h1, h2, _, _⟩ := hk
  have hp := zp_pos (last f m e)
  have a1 := Rat.mul_le_mul_of_nonneg_right h1 (Rat.le_of_lt hp)
  have a2 := Rat.mul_le_mul_of_nonneg_right h2 (Rat.le_of_lt hp)
  constructor <;> grind

/-- What the format has is not changed. -/
theorem rv_exact (f : Format) {m : Nat} {e : Int} (hl : m.log2 ≤ f.fractionBits) (he : f.leastPlace ≤ e) (h : rung f m e < f.infRung) : rv f (rung f m e) = mg m e := by
  by_cases hm : m = 0
  · subst hm
    have : rung f 0 e = 0 := by simp [rung]
    rw [this, mg_zero]
    unfold rv rmag
    rw [if_pos (show 0 < f.binade from Nat.two_pow_pos _), mg_zero]
  · rw [rv_rung f hm h]
    have hle : last f m e ≤ e := by unfold last; omega
    have hk := kept_rne f m e
    have e1 : mg m (e - last f m e) = ((m <<< (e - last f m e).toNat : Nat) : Rat) := by
      have := mg_shl m (e - last f m e).toNat 0
      rw [show (0 : Int) + ((e - last f m e).toNat : Int) = e - last f m e by omega] at this
      rw [← this]; simp [mg]
    rw [e1] at hk
    have e2 : kept f m e = m <<< (e - last f m e).toNat :=
      Nat.le_antisymm (hk.mono (Rne.exact _) Rat.le_refl) ((Rne.exact _).mono hk Rat.le_refl)
    rw [e2, mg_shl, show last f m e + ((e - last f m e).toNat : Int) = e by omega]

abbrev S := single
abbrev D := double
theorem S_sign : S.infRung < S.signWeight := by decide
theorem S_bin : S.binade ≤ S.infRung := by decide
theorem D_sign : D.infRung < D.signWeight := by decide
theorem D_bin : D.binade ≤ D.infRung := by decide
theorem S_pow {k : Int} (h : k ≤ 127) : rung S 1 k < S.infRung :=
  Nat.lt_of_le_of_lt (rung_mono S (by rw [mg_one, mg_one]; exact zp_mono h)) (show rung S 1 127 < S.infRung by decide +kernel)
theorem D_pow {k : Int} (h : k ≤ 1023) : rung D 1 k < D.infRung :=
  Nat.lt_of_le_of_lt (rung_mono D (by rw [mg_one, mg_one]; exact zp_mono h)) (show rung D 1 1023 < D.infRung by decide +kernel)
theorem S_least : S.leastPlace = -149 := by decide
theorem D_least : D.leastPlace = -1074 := by decide

theorem rv_le_pow {f : Format} {m : Nat} {e k : Int} (hk : f.leastPlace ≤ k) (hp : rung f 1 k < f.infRung) (h : mg m e ≤ 2 ^ k) :
    rung f m e < f.infRung ∧ rv f (rung f m e) ≤ 2 ^ k := by
  have h1 := rung_le_pow f h
  have h2 : rung f m e < f.infRung := by omega
  refine ⟨h2, ?_⟩
  have h3 := (rv_mono f h2 hp).2 h1
  rwa [rv_exact f (m := 1) (by rw [show (1 : Nat).log2 = 0 by decide]; omega) hk hp, mg_one] at h3
theorem rv_ge_pow {f : Format} {m : Nat} {e k : Int} (hk : f.leastPlace ≤ k) (h2 : rung f m e < f.infRung) (h : (2 : Rat) ^ k ≤ mg m e) :
    (2 : Rat) ^ k ≤ rv f (rung f m e) := by
  have h1 := rung_ge_pow f h
  have hp : rung f 1 k < f.infRung := by omega
  have h3 := (rv_mono f hp h2).2 h1
  rwa [rv_exact f (m := 1) (by rw [show (1 : Nat).log2 = 0 by decide]; omega) hk hp, mg_one] at h3

end Flt

namespace Flt
open Ieee

/-- The two formats. -/
structure Good (f : Format) : Prop where
  sign : f.infRung < f.signWeight
  bin : f.binade ≤ f.infRung
theorem S_good : Good S := ⟨S_sign, S_bin⟩
theorem D_good : Good D := ⟨D_sign, D_bin⟩

def rg (f : Format) (x : Nat) : Nat := x % f.signWeight
def sg (f : Format) (x : Nat) : Bool := x / f.signWeight % 2 == 1
def fin (f : Format) (x : Nat) : Bool := isNum (f.read x)
def val (f : Format) (x : Nat) : Rat := dv (f.read x)

theorem fin_iff (f : Format) (x : Nat) (g : Good f) : fin f x = true ↔ rg f x < f.infRung := by
  have := g.bin
  unfold fin Format.read rg
  simp only
  by_cases h1 : x % f.signWeight < f.binade
  · simp only [if_pos h1, isNum]; simp; omega
  · by_cases h2 : x % f.signWeight < f.infRung
    · simp only [if_neg h1, if_pos h2, isNum]; simp [h2]
    · simp only [if_neg h1, if_neg h2]
      by_cases h3 : x % f.signWeight = f.infRung
      · simp [isNum, h3]
      · simp [if_neg h3, isNum]; omega

theorem read_fin (f : Format) (x : Nat) (g : Good f) (h : fin f x = true) : f.read x = .number (sg f x) (rmag f (rg f x)) (rplace f (rg f x)) := by
  have h2 := (fin_iff f x g).1 h
  unfold sg Format.read rg rmag rplace at *
  simp only
  by_cases h1 : x % f.signWeight < f.binade
  · simp only [if_pos h1]
  · simp only [if_neg h1, if_pos h2]

theorem val_fin (f : Format) (x : Nat) (g : Good f) (h : fin f x = true) : val f x = if sg f x then - rv f (rg f x) else rv f (rg f x) := by
  unfold val; rw [read_fin f x g h]; rfl

theorem rv_nonneg (f : Format) (r : Nat) : 0 ≤ rv f r := mg_nonneg _ _
theorem rmag_zero (f : Format) : rmag f 0 = 0 := by unfold rmag; rw [if_pos (show 0 < f.binade from Nat.two_pow_pos _)]
theorem rv_zero (f : Format) : rv f 0 = 0 := by unfold rv; rw [rmag_zero, mg_zero]
theorem rv_pos (f : Format) {r : Nat} (h : r ≠ 0) : 0 < rv f r := by
  unfold rv; apply mg_pos; unfold rmag
  have : 0 < f.binade := Nat.two_pow_pos _
  split <;> omega
theorem rv_inj (f : Format) {a b : Nat} (ha : a < f.infRung) (hb : b < f.infRung) (h : rv f a = rv f b) : a = b := by
  have h1 := (rv_mono f ha hb).1 (by rw [h]; exact Rat.le_refl)
  have h2 := (rv_mono f hb ha).1 (by rw [h]; exact Rat.le_refl)
  omega

theorem val_inj (f : Format) {x y : Nat} (g : Good f) (hx : fin f x = true) (hy : fin f y = true) (h : val f x = val f y) : rg f x = rg f y ∧ (sg f x = sg f y ∨ rg f x = 0) := by
  rw [val_fin f x g hx, val_fin f y g hy] at h
  have hx' := (fin_iff f x g).1 hx
  have hy' := (fin_iff f y g).1 hy
  have p1 := rv_nonneg f (rg f x)
  have p2 := rv_nonneg f (rg f y)
  have key : rv f (rg f x) = rv f (rg f y) := by
    cases hs : sg f x <;> cases ht : sg f y <;> simp [hs, ht] at h <;> grind
  have e := rv_inj f hx' hy' key
  refine ⟨e, ?_⟩
  by_cases h0 : rg f x = 0
  · exact .inr h0
  · left
    have p3 := rv_pos f h0
    cases hs : sg f x <;> cases ht : sg f y <;> simp [hs, ht] at h ⊢ <;> grind

theorem val_zero_iff (f : Format) {x : Nat} (g : Good f) (hx : fin f x = true) : val f x = 0 ↔ rg f x = 0 := by
  rw [val_fin f x g hx]
  constructor
  · intro h; apply Classical.byContradiction; intro hc
    have := rv_pos f hc
    cases hs : sg f x <;> simp [hs] at h <;> grind
  · intro h; rw [h, rv_zero]; simp

/-- r is q, rounded. -/
def Rnd (f : Format) (q : Rat) (r : Nat) : Prop := ∃ s m e, q = dv (.number s m e) ∧ r = f.write (.number s m e)

theorem write_lt (f : Format) (g : Good f) (s : Bool) (m : Nat) (e : Int) : f.write (.number s m e) < 2 * f.signWeight := by
  have : f.write (.number s m e) = f.word s (rung f m e) := nearest_eq f s m e
  rw [this]
  have h : rung f m e ≤ f.infRung := by unfold rung; split <;> omega
  have := g.sign
  unfold Format.word
  split <;> omega

theorem rg_word (f : Format) (s : Bool) (r : Nat) (h : r < f.signWeight) : rg f (f.word s r) = r := by
  unfold rg Format.word
  cases s
  · simp only [Bool.false_eq_true, if_false]; exact Nat.mod_eq_of_lt h
  · simp only [if_true]; rw [Nat.add_mod_left]; exact Nat.mod_eq_of_lt h
theorem sg_word (f : Format) (s : Bool) (r : Nat) (h : r < f.signWeight) : sg f (f.word s r) = s := by
  unfold sg Format.word
  cases s
  · simp only [Bool.false_eq_true, if_false]; rw [Nat.div_eq_of_lt h]; rfl
  · simp only [if_true]; rw [Nat.add_div_left _ (by omega), Nat.div_eq_of_lt h]; rfl

theorem rg_write (f : Format) (g : Good f) (s : Bool) (m : Nat) (e : Int) : rg f (f.write (.number s m e)) = rung f m e ∧ sg f (f.write (.number s m e)) = s := by
  have hw : f.write (.number s m e) = f.word s (rung f m e) := nearest_eq f s m e
  have h : rung f m e < f.signWeight := by
    have : rung f m e ≤ f.infRung := by unfold rung; split <;> omega
    have := g.sign; omega
  rw [hw]; exact ⟨rg_word f s _ h, sg_word f s _ h⟩

theorem Rnd.lt {f : Format} {q : Rat} {r : Nat} (g : Good f) (h : Rnd f q r) : r < 2 * f.signWeight := by
  obtain ⟨s, m, e, _, rfl⟩ := h; exact write_lt f g s m e

theorem mg_inj_rung (f : Format) {m m' : Nat} {e e' : Int} (h : mg m e = mg m' e') : rung f m e = rung f m' e' :=
  Nat.le_antisymm (rung_mono f (by rw [h]; exact Rat.le_refl)) (rung_mono f (by rw [h]; exact Rat.le_refl))

theorem Rnd.uniq {f : Format} {q : Rat} {r r' : Nat} (g : Good f) (h : Rnd f q r) (h' : Rnd f q r') : rg f r = rg f r' ∧ (q ≠ 0 → r = r') := by
  obtain ⟨s, m, e, rfl, rfl⟩ := h
  obtain ⟨s', m', e', hq, rfl⟩ := h'
  have ha := dv_abs s m e
  rw [hq, dv_abs] at ha
  have hr := mg_inj_rung f ha
  rw [(rg_write f g s m e).1, (rg_write f g s' m' e').1]
  refine ⟨hr.symm, fun h0 => ?_⟩
  have hs : s = s' := by
    have p1 := mg_nonneg m e
    unfold dv at hq h0
    cases s <;> cases s' <;> simp at hq h0 ⊢ <;> grind
  show f.nearest s m e = f.nearest s' m' e'
  rw [nearest_eq, nearest_eq, hs, hr]

theorem Rnd.fin_val {f : Format} {q : Rat} {r r' : Nat} (g : Good f) (h : Rnd f q r) (h' : Rnd f q r') : fin f r = fin f r' ∧ (fin f r = true → val f r = val f r') := by
  have hu := h.uniq g h'
  have h1 : fin f r = fin f r' := by
    rw [Bool.eq_iff_iff, fin_iff f r g, fin_iff f r' g, hu.1]
  refine ⟨h1, fun hf => ?_⟩
  by_cases h0 : q = 0
  · have z : rg f r = 0 := by
      obtain ⟨s, m, e, hq, rfl⟩ := h
      rw [(rg_write f g s m e).1]
      have := dv_abs s m e
      rw [← hq, h0] at this
      have hm : m = 0 := by
        apply Classical.byContradiction; intro hc
        have := mg_pos (e := e) hc
        simp [ab] at *; grind
      simp [rung, hm]
    rw [(val_zero_iff f g hf).2 z, (val_zero_iff f g (h1 ▸ hf)).2 (hu.1 ▸ z)]
  · rw [hu.2 h0]

theorem Rnd.self {f : Format} {x : Nat} (g : Good f) (h : fin f x = true) : ∃ r, Rnd f (val f x) r ∧ fin f r = true ∧ val f r = val f x := by
  refine ⟨_, ⟨sg f x, rmag f (rg f x), rplace f (rg f x), ?_, rfl⟩, ?_, ?_⟩
  · unfold val; rw [read_fin f x g h]
  · rw [fin_iff f _ g, (rg_write f g _ _ _).1, rung_exact f _ ((fin_iff f x g).1 h)]; exact (fin_iff f x g).1 h
  · have hf : fin f (f.write (.number (sg f x) (rmag f (rg f x)) (rplace f (rg f x)))) = true := by
      rw [fin_iff f _ g, (rg_write f g _ _ _).1, rung_exact f _ ((fin_iff f x g).1 h)]; exact (fin_iff f x g).1 h
    rw [val_fin f _ g hf, val_fin f x g h, (rg_write f g _ _ _).1, (rg_write f g _ _ _).2, rung_exact f _ ((fin_iff f x g).1 h)]

theorem Rnd.exact {f : Format} {x r : Nat} (g : Good f) (h : fin f x = true) (hr : Rnd f (val f x) r) : fin f r = true ∧ val f r = val f x := by
  obtain ⟨r', h1, h2, h3⟩ := Rnd.self g h
  have := h1.fin_val g hr
  exact ⟨this.1 ▸ h2, by rw [← this.2 h2, h3]⟩

/-- At most a power of two. -/
def Le (f : Format) (k : Int) (x : Nat) : Prop := fin f x = true ∧ ab (val f x) ≤ 2 ^ k

theorem ab_neg (q : Rat) : ab (-q) = ab q := by unfold ab; grind
theorem ab_nonneg (q : Rat) : 0 ≤ ab q := by unfold ab; grind
theorem ab_add (p q : Rat) : ab (p + q) ≤ ab p + ab q := by unfold ab; grind
theorem ab_of_nonneg {q : Rat} (h : 0 ≤ q) : ab q = q := by unfold ab; grind
theorem ab_mul (p q : Rat) : ab (p * q) = ab p * ab q := by
  unfold ab
  by_cases h1 : p < 0 <;> by_cases h2 : q < 0
  · have := Rat.mul_pos (a := -p) (b := -q) (by grind) (by grind)
    rw [if_neg (by grind), if_pos h1, if_pos h2]; grind
  · have := Rat.mul_nonneg (a := -p) (b := q) (by grind) (by grind)
    rw [if_pos h1, if_neg h2]
    by_cases h3 : p * q < 0
    · rw [if_pos h3]; grind
    · rw [if_neg h3]; grind
  · have := Rat.mul_nonneg (a := p) (b := -q) (by grind) (by grind)
    rw [if_neg h1, if_pos h2]
    by_cases h3 : p * q < 0
    · rw [if_pos h3]; grind
    · rw [if_neg h3]; grind
  · have := Rat.mul_nonneg (a := p) (b := q) (by grind) (by grind)
    rw [if_neg h1, if_neg h2, if_neg (by grind)]

theorem val_ab (f : Format) {x : Nat} (g : Good f) (h : fin f x = true) : ab (val f x) = rv f (rg f x) := by
  rw [val_fin f x g h]
  have := rv_nonneg f (rg f x)
  unfold ab
  cases hs : sg f x <;> simp <;> grind

theorem Rnd.le {f : Format} {q : Rat} {r : Nat} {k : Int} (g : Good f) (h : Rnd f q r) (hk : f.leastPlace ≤ k) (hp : rung f 1 k < f.infRung) (hq : ab q ≤ 2 ^ k) : Le f k r := by
  obtain ⟨s, m, e, rfl, rfl⟩ := h
  rw [dv_abs] at hq
  have h1 := rv_le_pow hk hp hq
  have hf : fin f (f.write (.number s m e)) = true := by rw [fin_iff f _ g, (rg_write f g s m e).1]; exact h1.1
  refine ⟨hf, ?_⟩
  rw [val_ab f g hf, (rg_write f g s m e).1]; exact h1.2

theorem Rnd.ge {f : Format} {q : Rat} {r : Nat} {k : Int} (g : Good f) (h : Rnd f q r) (hk : f.leastPlace ≤ k) (hf : fin f r = true) (hq : (2 : Rat) ^ k ≤ ab q) : (2 : Rat) ^ k ≤ ab (val f r) := by
  obtain ⟨s, m, e, rfl, rfl⟩ := h
  rw [dv_abs] at hq
  have h2 : rung f m e < f.infRung := by rw [fin_iff f _ g, (rg_write f g s m e).1] at hf; exact hf
  rw [val_ab f g hf, (rg_write f g s m e).1]
  exact rv_ge_pow hk h2 hq

/-- Rounding keeps the order. -/
theorem Rnd.mono {f : Format} {p q : Rat} {x y : Nat} (g : Good f) (hx : Rnd f p x) (hy : Rnd f q y) (fx : fin f x = true) (fy : fin f y = true) (h : p ≤ q) : val f x ≤ val f y := by
  obtain ⟨s, m, e, rfl, rfl⟩ := hx
  obtain ⟨s', m', e', rfl, rfl⟩ := hy
  rw [fin_iff f _ g, (rg_write f g _ _ _).1] at fx fy
  have fx' := fx; have fy' := fy
  rw [val_fin f _ g (by rw [fin_iff f _ g, (rg_write f g _ _ _).1]; exact fx), val_fin f _ g (by rw [fin_iff f _ g, (rg_write f g _ _ _).1]; exact fy),
    (rg_write f g _ _ _).1, (rg_write f g _ _ _).1, (rg_write f g _ _ _).2, (rg_write f g _ _ _).2]
  have n1 := mg_nonneg m e
  have n2 := mg_nonneg m' e'
  have r1 := rv_nonneg f (rung f m e)
  have r2 := rv_nonneg f (rung f m' e')
  unfold dv at h
  cases s <;> cases s' <;> simp at h ⊢
  · exact (rv_mono f fx' fy').2 (rung_mono f h)
  · -- p ≥ 0, q ≤ 0: both are 0
    have z1 : mg m e ≤ mg 0 0 := by rw [mg_zero]; grind
    have z2 : mg m' e' ≤ mg 0 0 := by rw [mg_zero]; grind
    have a1 := rung_mono f z1
    have a2 := rung_mono f z2
    have : rung f 0 0 = 0 := by simp [rung]
    rw [this] at a1 a2
    rw [show rung f m e = 0 by omega, show rung f m' e' = 0 by omega, rv_zero]; grind
  · grind
  · have := (rv_mono f fy' fx').2 (rung_mono f (show mg m' e' ≤ mg m e by grind))
    grind

end Flt

namespace Flt
open Ieee

theorem write_rnd (f : Format) (s : Bool) (m : Nat) (e : Int) : Rnd f (dv (.number s m e)) (f.write (.number s m e)) := ⟨s, m, e, rfl, rfl⟩

theorem fin_read {f : Format} {x : Nat} (h : fin f x = true) : ∃ s m e, f.read x = .number s m e := by
  unfold fin at h
  cases hr : f.read x with
  | number s m e => exact ⟨s, m, e, rfl⟩
  | infinity s => rw [hr] at h; simp [isNum] at h
  | nan s t => rw [hr] at h; simp [isNum] at h

theorem add_fin (f : Format) {x y : Nat} (hx : fin f x = true) (hy : fin f y = true) : ∃ r, f.add x y = some r ∧ Rnd f (val f x + val f y) r := by
  obtain ⟨s, m, i, h1⟩ := fin_read hx
  obtain ⟨t, n, j, h2⟩ := fin_read hy
  obtain ⟨u, k, b, h3, h4⟩ := sum_number s t m n i j
  unfold Format.add val
  rw [h1, h2, h3]
  exact ⟨_, rfl, h4 ▸ write_rnd f u k b⟩

theorem sub_fin (f : Format) {x y : Nat} (hx : fin f x = true) (hy : fin f y = true) : ∃ r, f.sub x y = some r ∧ Rnd f (val f x - val f y) r := by
  obtain ⟨s, m, i, h1⟩ := fin_read hx
  obtain ⟨t, n, j, h2⟩ := fin_read hy
  obtain ⟨u, k, b, h3, h4⟩ := sum_number s (!t) m n i j
  have h5 := opposite_dv (.number t n j)
  unfold Format.sub val
  rw [h1, h2]
  show ∃ r, ((Datum.number s m i).sum (.number (!t) n j)).map f.write = some r ∧ _
  rw [h3]
  refine ⟨_, rfl, ?_⟩
  have : dv (.number s m i) - dv (.number t n j) = dv (.number u k b) := by
    rw [h4, show dv (.number (!t) n j) = - dv (.number t n j) from h5]; grind
  rw [this]; exact write_rnd f u k b

theorem mul_fin (f : Format) {x y : Nat} (hx : fin f x = true) (hy : fin f y = true) : ∃ r, f.mul x y = some r ∧ Rnd f (val f x * val f y) r := by
  obtain ⟨s, m, i, h1⟩ := fin_read hx
  obtain ⟨t, n, j, h2⟩ := fin_read hy
  obtain ⟨u, k, b, h3, h4⟩ := product_number s t m n i j
  unfold Format.mul val
  rw [h1, h2, h3]
  exact ⟨_, rfl, h4 ▸ write_rnd f u k b⟩

/-- The number that a quotient is rounded from: within a unit of the quotient, on its side of every whole number of units. -/
def quo (f : Format) (x y : Nat) : Datum :=
  .number (sg f x ^^ sg f y)
    (2 * ((rmag f (rg f x) <<< (f.fractionBits + 2 + (rmag f (rg f y)).log2 - (rmag f (rg f x)).log2)) / rmag f (rg f y)) +
      ((rmag f (rg f x) <<< (f.fractionBits + 2 + (rmag f (rg f y)).log2 - (rmag f (rg f x)).log2)) % rmag f (rg f y) != 0).toNat)
    (rplace f (rg f x) - rplace f (rg f y) - (f.fractionBits + 2 + (rmag f (rg f y)).log2 - (rmag f (rg f x)).log2 : Nat) - 1)

theorem rmag_ne (f : Format) {r : Nat} (h : r ≠ 0) : rmag f r ≠ 0 := by
  unfold rmag
  have : 0 < f.binade := Nat.two_pow_pos _
  split <;> omega

theorem div_fin (f : Format) (g : Good f) {x y : Nat} (hx : fin f x = true) (hy : fin f y = true) (h0 : val f y ≠ 0) : ∃ r, f.div x y = some r ∧ Rnd f (dv (quo f x y)) r := by
  have hr : rmag f (rg f y) ≠ 0 := rmag_ne f (fun hc => h0 ((val_zero_iff f g hy).2 hc))
  unfold Format.div quo
  rw [read_fin f x g hx, read_fin f y g hy]
  unfold Datum.quotient
  simp only [if_neg hr]
  exact ⟨_, rfl, write_rnd f _ _ _⟩

/-- The quotient's number hangs on the operands' values alone. -/
theorem quo_congr (f : Format) (g : Good f) {x y x' y' : Nat} (hx : fin f x = true) (hy : fin f y = true) (hx' : fin f x' = true) (hy' : fin f y' = true)
    (h0 : val f y ≠ 0) (h1 : val f x = val f x') (h2 : val f y = val f y') : dv (quo f x y) = dv (quo f x' y') := by
  have a := val_inj f g hx hx' h1
  have b := val_inj f g hy hy' h2
  have hb : sg f y = sg f y' := b.2.resolve_right (fun hc => h0 ((val_zero_iff f g hy).2 hc))
  unfold quo
  rw [← a.1, ← b.1, ← hb]
  rcases a.2 with h | h
  · rw [h]
  · rw [h, rmag_zero]
    simp only [Nat.zero_shiftLeft, Nat.zero_div, Nat.zero_mod]
    simp [dv, mg_zero]

theorem rmag_lt (f : Format) (r : Nat) : rmag f r < 2 * f.binade := by
  have hp : 0 < f.binade := Nat.two_pow_pos _
  have := Nat.mod_lt r hp
  unfold rmag; split <;> omega
theorem rmag_log (f : Format) (r : Nat) : (rmag f r).log2 ≤ f.fractionBits := by
  by_cases h : rmag f r = 0
  · rw [h]; simp
  · have h1 : rmag f r < 2 ^ (f.fractionBits + 1) := by rw [Nat.pow_succ]; have := rmag_lt f r; unfold Format.binade at this; omega
    have := (Nat.log2_lt h).2 h1
    omega

theorem dv_quo_abs (f : Format) (x y : Nat) : ab (dv (quo f x y)) =
    mg (2 * ((rmag f (rg f x) <<< (f.fractionBits + 2 + (rmag f (rg f y)).log2 - (rmag f (rg f x)).log2)) / rmag f (rg f y)) +
      ((rmag f (rg f x) <<< (f.fractionBits + 2 + (rmag f (rg f y)).log2 - (rmag f (rg f x)).log2)) % rmag f (rg f y) != 0).toNat)
    (rplace f (rg f x) - rplace f (rg f y) - (f.fractionBits + 2 + (rmag f (rg f y)).log2 - (rmag f (rg f x)).log2 : Nat) - 1) := by
  unfold quo; rw [dv_abs]

/-- A quotient's number lies under each power of two under which the quotient lies. -/
theorem quo_bound (f : Format) (g : Good f) {x y : Nat} {J K : Int} (hx : fin f x = true) (hy : fin f y = true) (h1 : ab (val f x) ≤ 2 ^ J) (h2 : (2 : Rat) ^ K ≤ ab (val f y)) : ab (dv (quo f x y)) ≤ 2 ^ (J - K) := by
  rw [dv_quo_abs]
  rw [val_ab f g hx] at h1
  rw [val_ab f g hy] at h2
  unfold rv at h1 h2
  have hlx := rmag_log f (rg f x)
  generalize rmag f (rg f x) = M at *
  generalize rmag f (rg f y) = N at *
  generalize rplace f (rg f x) = i at *
  generalize rplace f (rg f y) = j at *
  have hN : N ≠ 0 := by
    intro hc; subst hc; rw [mg_zero] at h2; have := zp_pos K; grind
  generalize hmore : f.fractionBits + 2 + N.log2 - M.log2 = more
  have hNp : 0 < N := Nat.pos_of_ne_zero hN
  by_cases hM : M = 0
  · subst hM
    rw [Nat.zero_shiftLeft, Nat.zero_div, Nat.zero_mod]
    simp [mg_zero]
    exact Rat.le_of_lt (zp_pos _)
  · generalize hX : M <<< more = X
    -- X ≤ N 2 ^ t
    have hXv : mg X (i - more) = mg M i := by rw [← hX, mg_shl, show i - (more : Int) + more = i by omega]
    have hle : (X : Rat) * 2 ^ (i - more) ≤ (N : Rat) * 2 ^ (j + (J - K)) := by
      have e1 : (X : Rat) * 2 ^ (i - more) = mg M i := hXv
      have e2 : (N : Rat) * 2 ^ (j + (J - K)) = mg N j * 2 ^ (J - K) := by unfold mg; rw [zp_add]; grind
      rw [e1, e2]
      have e3 := Rat.mul_le_mul_of_nonneg_right h2 (Rat.le_of_lt (zp_pos (J - K)))
      rw [← zp_add, show K + (J - K) = J by omega] at e3
      grind
    have hXlog : 2 ^ (M.log2 + more) ≤ X := by
      rw [← hX, Nat.shiftLeft_eq, Nat.pow_add]
      exact Nat.mul_le_mul_right _ (Nat.log2_self_le hM)
    have hXge : 2 * N ≤ X := by
      have b1 : N < 2 ^ (N.log2 + 1) := Nat.lt_log2_self
      have b3 : 2 ^ (N.log2 + 2) ≤ 2 ^ (M.log2 + more) := Nat.pow_le_pow_right (by decide) (by omega)
      rw [Nat.pow_succ] at b3
      omega
    -- t is not below 0
    have ht : 0 ≤ (j + (J - K)) - (i - more) := by
      apply Int.not_lt.1; intro hc
      have c1 : (2 : Rat) ^ (j + (J - K)) ≤ 2 ^ (i - more) := zp_mono (by omega)
      have c2 : (2 * N : Rat) ≤ X := by exact_mod_cast hXge
      have c3 := Rat.mul_le_mul_of_nonneg_right c2 (Rat.le_of_lt (zp_pos (i - more)))
      have c4 := Rat.mul_le_mul_of_nonneg_left c1 (show (0 : Rat) ≤ N by exact_mod_cast Nat.zero_le N)
      have c5 := Rat.mul_pos (show (0 : Rat) < N by exact_mod_cast hNp) (zp_pos (i - more))
      grind
    obtain ⟨t, ht'⟩ := Int.eq_ofNat_of_zero_le ht
    have hXN : X ≤ N * 2 ^ t := by
      have d1 : (N : Rat) * 2 ^ (j + (J - K)) = ((N * 2 ^ t : Nat) : Rat) * 2 ^ (i - more) := by
        rw [show j + (J - K) = (t : Int) + (i - more) by omega, zp_add, zp_nat, Rat.natCast_mul]; grind
      rw [d1] at hle
      have d2 := mul_le_cancel (zp_pos (i - more)) hle
      exact_mod_cast d2
    have hmag : 2 * (X / N) + (X % N != 0).toNat ≤ 2 * 2 ^ t := by
      have q1 := Nat.div_add_mod X N
      have q2 := Nat.mod_lt X hNp
      by_cases hr : X % N = 0
      · have : X / N ≤ 2 ^ t := by
          apply Nat.le_of_mul_le_mul_left (c := N) _ hNp
          omega
        simp [hr]; omega
      · have : X / N < 2 ^ t := by
          apply Nat.lt_of_mul_lt_mul_left (a := N)
          omega
        have : (X % N != 0) = true := by simp [hr]
        rw [this]; simp; omega
    have hm' : ((2 * (X / N) + (X % N != 0).toNat : Nat) : Rat) ≤ ((2 * 2 ^ t : Nat) : Rat) := by exact_mod_cast hmag
    unfold mg
    have e5 := Rat.mul_le_mul_of_nonneg_right hm' (Rat.le_of_lt (zp_pos (i - j - more - 1)))
    have e6 : ((2 * 2 ^ t : Nat) : Rat) * 2 ^ (i - j - more - 1) = 2 ^ (J - K) := by
      rw [show 2 * 2 ^ t = 2 ^ (t + 1) by rw [Nat.pow_succ]; omega, ← zp_nat, ← zp_add]
      congr 1; omega
    rw [← e6]; exact e5

/-- The unit of a quotient's number. -/
def qun (f : Format) (x y : Nat) : Int := rplace f (rg f x) - rplace f (rg f y) - (f.fractionBits + 2 + (rmag f (rg f y)).log2 - (rmag f (rg f x)).log2 : Nat)

/-- A quotient's number lies under each whole number of units under which the quotient lies. -/
theorem quo_le (f : Format) (g : Good f) {x y : Nat} (hx : fin f x = true) (hy : fin f y = true) (h0 : val f y ≠ 0) (T : Nat)
    (h : ab (val f x) ≤ ab (val f y) * ((T : Rat) * 2 ^ (qun f x y))) : ab (dv (quo f x y)) ≤ (T : Rat) * 2 ^ (qun f x y) := by
  rw [dv_quo_abs]
  have hN0 : rmag f (rg f y) ≠ 0 := rmag_ne f (fun hc => h0 ((val_zero_iff f g hy).2 hc))
  rw [val_ab f g hx, val_ab f g hy] at h
  unfold rv at h
  unfold qun at *
  generalize rmag f (rg f x) = M at *
  generalize rmag f (rg f y) = N at *
  generalize rplace f (rg f x) = i at *
  generalize rplace f (rg f y) = j at *
  generalize hmore : f.fractionBits + 2 + N.log2 - M.log2 = more at *
  have hNp : 0 < N := Nat.pos_of_ne_zero hN0
  generalize hX : M <<< more = X
  have hXv : mg X (i - more) = mg M i := by rw [← hX, mg_shl, show i - (more : Int) + more = i by omega]
  have hXN : X ≤ N * T := by
    have e1 : (X : Rat) * 2 ^ (i - more) ≤ ((N * T : Nat) : Rat) * 2 ^ (i - more) := by
      have e2 : (X : Rat) * 2 ^ (i - more) = mg M i := hXv
      have e3 : ((N * T : Nat) : Rat) * 2 ^ (i - more) = mg N j * ((T : Rat) * 2 ^ (i - j - more)) := by
        unfold mg; rw [show i - (more : Int) = j + (i - j - more) by omega, zp_add, Rat.natCast_mul]; grind
      rw [e2, e3]; exact h
    have := mul_le_cancel (zp_pos (i - more)) e1
    exact_mod_cast this
  have hmag : 2 * (X / N) + (X % N != 0).toNat ≤ 2 * T := by
    have q1 := Nat.div_add_mod X N
    have q2 := Nat.mod_lt X hNp
    by_cases hr : X % N = 0
    · have : X / N ≤ T := by
        apply Nat.le_of_mul_le_mul_left (c := N) _ hNp
        omega
      simp [hr]; omega
    · have : X / N < T := by
        apply Nat.lt_of_mul_lt_mul_left (a := N)
        omega
      have : (X % N != 0) = true := by simp [hr]
      rw [this]; simp; omega
  have hm' : ((2 * (X / N) + (X % N != 0).toNat : Nat) : Rat) ≤ ((2 * T : Nat) : Rat) := by exact_mod_cast hmag
  unfold mg
  have e5 := Rat.mul_le_mul_of_nonneg_right hm' (Rat.le_of_lt (zp_pos (i - j - more - 1)))
  have e6 : ((2 * T : Nat) : Rat) * 2 ^ (i - j - more - 1) = (T : Rat) * 2 ^ (i - j - more) := by
    have e7 : (2 : Rat) ^ (i - j - (more : Int)) = 2 ^ (i - j - (more : Int) - 1) * 2 := by
      have := zp_add (i - j - (more : Int) - 1) 1
      rw [Rat.zpow_one] at this
      rw [← this]; congr 1; omega
    rw [Rat.natCast_mul, e7]; simp; grind
  rw [← e6]; exact e5

/-- A number of the one format in the other. -/
theorem conv_fin (f f' : Format) {x : Nat} (hx : fin f x = true) : Rnd f' (val f x) (f'.write (f.read x)) := by
  obtain ⟨s, m, e, h⟩ := fin_read hx
  unfold val; rw [h]; exact write_rnd f' s m e

theorem order_fin (f : Format) {x y : Nat} (hx : fin f x = true) (hy : fin f y = true) :
    f.order x y = some (if val f x < val f y then .lt else if val f x = val f y then .eq else .gt) := by
  obtain ⟨s, m, i, h1⟩ := fin_read hx
  obtain ⟨t, n, j, h2⟩ := fin_read hy
  unfold Format.order val
  rw [h1, h2]
  unfold Datum.order
  have e1 := signed_val s m (i - min i j).toNat (min i j)
  have e2 := signed_val t n (j - min i j).toNat (min i j)
  rw [show min i j + ((i - min i j).toNat : Int) = i by omega] at e1
  rw [show min i j + ((j - min i j).toNat : Int) = j by omega] at e2
  have d1 : dv (.number s m i) = ((signed s m (i - min i j).toNat : Int) : Rat) * (2 : Rat) ^ (min i j) := by rw [e1]; rfl
  have d2 : dv (.number t n j) = ((signed t n (j - min i j).toNat : Int) : Rat) * (2 : Rat) ^ (min i j) := by rw [e2]; rfl
  simp only
  rw [d1, d2]
  generalize signed s m (i - min i j).toNat = a
  generalize signed t n (j - min i j).toNat = b
  have hp := zp_pos (min i j)
  generalize (2 : Rat) ^ (min i j) = p at *
  congr 1
  rcases Int.lt_trichotomy a b with h | h | h
  · have h' : (a : Rat) < (b : Rat) := by exact_mod_cast h
    rw [if_pos (Rat.mul_lt_mul_of_pos_right h' hp)]
    exact Int.compare_eq_lt.2 h
  · subst h
    rw [if_neg (by grind), if_pos rfl]
    exact Int.compare_eq_eq.2 rfl
  · have h' : (b : Rat) < (a : Rat) := by exact_mod_cast h
    have := Rat.mul_lt_mul_of_pos_right h' hp
    rw [if_neg (by grind), if_neg (by grind)]
    exact Int.compare_eq_gt.2 h

end Flt

