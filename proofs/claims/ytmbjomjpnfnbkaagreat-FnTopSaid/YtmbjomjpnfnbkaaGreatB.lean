/-
  What the model's operations on floats come to, in the words of the plain arithmetic; pure functions on bits for the program's rounded operations. No function of the program is walked here.
-/
import Derived.Test.YtmbjomjpnfnbkaaGreatFlt
import Derived.WalkKit
import Derived.WalkLawsBesides
import Derived.Laws.FloatArith
import Derived.Deep.Draws
set_option linter.unusedSimpArgs false
namespace Flt
open Ieee Go

@[go_sem] theorem run_neg_float {P : Program} (k : FloatKind) (x : Nat) (w : World) : (Op.unary .neg (.float k x)).run P w = .ok (.float k (Op.negFloat k x)) w := rfl

section
variable {P : Program} (w : World) (a : Addr) (m : Mode)
@[go_sem] theorem run_store_float (k : FloatKind) (x : Nat) : (store a (.float k x) m).run P w = stored P w a (.float k x) m := run_store P w a _ m rfl
@[go_sem] theorem run_store_complex (k : FloatKind) (x y : Nat) : (store a (.complex k x y) m).run P w = stored P w a (.complex k x y) m := run_store P w a _ m rfl
end

/-- x is no NaN. -/
def nn (x : Nat) : Bool := !(S.read x).isNaN
theorem nn_of_fin {x : Nat} (h : fin S x = true) : nn x = true := by
  obtain ⟨s, m, e, hr⟩ := fin_read h
  unfold nn; rw [hr]; rfl
theorem read_cases {x : Nat} (h : nn x = true) : fin S x = true ∨ ∃ s, S.read x = .infinity s := by
  unfold nn at h
  unfold fin
  cases hr : S.read x with
  | number s m e => left; rfl
  | infinity s => right; exact ⟨s, rfl⟩
  | nan s t => rw [hr] at h; simp [Datum.isNaN] at h

/-- The same number as a float64. -/
def cv (x : Nat) : Nat := D.write (S.read x)

theorem rmag_S_log (r : Nat) : (rmag S r).log2 ≤ 23 := rmag_log S r
theorem rplace_S (r : Nat) : -149 ≤ rplace S r := by
  unfold rplace; rw [S_least]; split <;> omega
theorem rv_S_lt (r : Nat) (h : r < S.infRung) : rv S r ≤ 2 ^ (128 : Int) := by
  have h1 : rv S r ≤ rv S (S.infRung - 1) := (rv_mono S h (by decide)).2 (by omega)
  have h2 : rv S (S.infRung - 1) < 2 ^ (128 : Int) := by
    have : mg (rmag S (S.infRung - 1)) (rplace S (S.infRung - 1)) < 2 ^ (rplace S (S.infRung - 1) + (rmag S (S.infRung - 1)).log2 + 1) := mg_lt_log
    have e : rplace S (S.infRung - 1) + (rmag S (S.infRung - 1)).log2 + 1 = 128 := by decide +kernel
    rw [e] at this; exact this
  grind

theorem cv_fin {x : Nat} (h : fin S x = true) : fin D (cv x) = true ∧ val D (cv x) = val S x := by
  have hr := read_fin S x S_good h
  have hi := (fin_iff S x S_good).1 h
  have e : cv x = D.write (.number (sg S x) (rmag S (rg S x)) (rplace S (rg S x))) := by unfold cv; rw [hr]
  have hlt : rung D (rmag S (rg S x)) (rplace S (rg S x)) < D.infRung := by
    have : mg (rmag S (rg S x)) (rplace S (rg S x)) ≤ 2 ^ (128 : Int) := rv_S_lt _ hi
    exact Nat.lt_of_le_of_lt (rung_le_pow D this) (D_pow (by decide))
  have hf : fin D (cv x) = true := by rw [e, fin_iff D _ D_good, (rg_write D D_good _ _ _).1]; exact hlt
  refine ⟨hf, ?_⟩
  rw [val_fin D _ D_good hf, val_fin S x S_good h, e, (rg_write D D_good _ _ _).1, (rg_write D D_good _ _ _).2]
  have hx : rv D (rung D (rmag S (rg S x)) (rplace S (rg S x))) = rv S (rg S x) :=
    rv_exact D (Nat.le_trans (rmag_S_log _) (by decide)) (by rw [D_least]; have := rplace_S (rg S x); omega) hlt
  rw [hx]

theorem fin_not_inf {f : Format} {x : Nat} (h : fin f x = true) : (f.read x).isInfinity = false := by
  obtain ⟨s, m, e, hr⟩ := fin_read h
  rw [hr]; rfl

theorem conv32 {x : Nat} (h : nn x = true) : floatToFloatBits .f32 x .f64 = some (cv x) := by
  unfold floatToFloatBits
  rw [if_neg (by decide)]
  show (match S.read x with | .nan _ _ => none | .infinity s => some (D.write (.infinity s)) | .number s m e => if (D.read (D.write (.number s m e))).isInfinity then none else some (D.write (.number s m e))) = _
  rcases read_cases h with hf | ⟨s, hs⟩
  · have h1 := (cv_fin hf).1
    obtain ⟨s, m, e, hr⟩ := fin_read hf
    unfold cv at *
    rw [hr] at h1 ⊢
    simp only
    rw [fin_not_inf h1]; rfl
  · unfold cv; rw [hs]

theorem negFloat_eq (x : Nat) : Op.negFloat .f32 x = x ^^^ 2 ^ 31 := rfl

theorem ng_parts {x : Nat} (h : x < 2 ^ 32) : (x ^^^ 2 ^ 31) < 2 ^ 32 ∧ rg S (x ^^^ 2 ^ 31) = rg S x ∧ sg S (x ^^^ 2 ^ 31) = !sg S x := by
  have hw : S.signWeight = 2 ^ 31 := by decide
  refine ⟨Nat.xor_lt_two_pow h (by decide), ?_, ?_⟩
  · unfold rg; rw [hw, Nat.xor_mod_two_pow]; simp
  · unfold sg; rw [hw, Nat.xor_div_two_pow]
    have h2 : x / 2 ^ 31 < 2 := by omega
    have e1 : 2 ^ 31 / 2 ^ 31 = 1 := by decide
    rw [e1]
    generalize x / 2 ^ 31 = q at *
    have : q = 0 ∨ q = 1 := by omega
    rcases this with rfl | rfl <;> rfl

/-- The opposite of a number. -/
theorem ng_fin {x : Nat} (h : x < 2 ^ 32) (hf : fin S x = true) : fin S (Op.negFloat .f32 x) = true ∧ val S (Op.negFloat .f32 x) = - val S x := by
  rw [negFloat_eq]
  obtain ⟨_, h1, h2⟩ := ng_parts h
  have hf' : fin S (x ^^^ 2 ^ 31) = true := by rw [fin_iff S _ S_good, h1]; exact (fin_iff S x S_good).1 hf
  refine ⟨hf', ?_⟩
  rw [val_fin S _ S_good hf', val_fin S x S_good hf, h1, h2]
  cases sg S x <;> simp

/-! What the program's rounded operations do: the code of a state or a limit, and the number. -/

/-- 'round'. -/
def rnd (x : Nat) (c : Int) : Int × Nat :=
  if fin S x = false then ((if c = 0 then 3 else c : Int), 0) else if S.order x 0 = some .eq ∨ c ≠ 0 then (c, 0) else (c, x)

/-- 'fail'. -/
def failc (k c : Int) : Int := if c = 0 then k else c
theorem failc_ne (k : Int) {c : Int} (h : c ≠ 0) : failc k c = c := if_neg h
theorem rnd_no {x : Nat} (c : Int) (h : fin S x = false) : rnd x c = (failc 3 c, 0) := if_pos h
theorem rnd_zero {x : Nat} (c : Int) (h : fin S x = true) (h1 : (FloatKind.f32.format.order x 0 == some .eq) = true) : rnd x c = (c, 0) := by
  unfold rnd; rw [if_neg (by simp [h]), if_pos (.inl (show S.order x 0 = some .eq from beq_iff_eq.1 h1))]
theorem rnd_yes {x : Nat} (h : fin S x = true) (h1 : (FloatKind.f32.format.order x 0 == some .eq) = false) : rnd x 0 = (0, x) := by
  have h2 : ¬ S.order x 0 = some .eq := by
    intro hc; have : (FloatKind.f32.format.order x 0 == some .eq) = true := beq_iff_eq.2 hc
    rw [h1] at this; cases this
  unfold rnd; rw [if_neg (by simp [h]), if_neg (by simp [h2])]
theorem rnd_code (x : Nat) {c : Int} (h : fin S x = true) (h2 : c ≠ 0) : rnd x c = (c, 0) := by
  unfold rnd; rw [if_neg (by simp [h]), if_pos (.inr h2)]

/-- A NaN where an operation has no answer. -/
def qn : Nat := 0x7fc00000
def adds (x y : Nat) : Nat := (S.add x y).getD qn
def subs (x y : Nat) : Nat := (S.sub x y).getD qn
def muls (x y : Nat) : Nat := (S.mul x y).getD qn
def divs (x y : Nat) : Nat := (S.div x y).getD qn


theorem rnd_fin (x : Nat) (c : Int) : fin S (rnd x c).2 = true := by
  have h0 : fin S 0 = true := by decide
  unfold rnd
  split
  · exact h0
  · split
    · exact h0
    · rename_i h1 _; simpa using h1

theorem nn_rnd {q : Rat} {r : Nat} (h : Rnd S q r) : nn r = true := by
  obtain ⟨s, m, e, _, rfl⟩ := h
  rcases write_number S S_sign S_bin s m e with ⟨_, m', e', h, _⟩ | ⟨_, h⟩
  · unfold nn; rw [h]; rfl
  · unfold nn; rw [h]; rfl

theorem adds_eq {x y : Nat} (hx : fin S x = true) (hy : fin S y = true) : floatBits .add .f32 x y = some (adds x y) ∧ Rnd S (val S x + val S y) (adds x y) := by
  obtain ⟨r, h1, h2⟩ := add_fin S hx hy
  have e : adds x y = r := by unfold adds; rw [h1]; rfl
  rw [e]; exact ⟨h1, h2⟩
theorem subs_eq {x y : Nat} (hx : fin S x = true) (hy : fin S y = true) : floatBits .sub .f32 x y = some (subs x y) ∧ Rnd S (val S x - val S y) (subs x y) := by
  obtain ⟨r, h1, h2⟩ := sub_fin S hx hy
  have e : subs x y = r := by unfold subs; rw [h1]; rfl
  rw [e]; exact ⟨h1, h2⟩
theorem muls_eq {x y : Nat} (hx : fin S x = true) (hy : fin S y = true) : floatBits .mul .f32 x y = some (muls x y) ∧ Rnd S (val S x * val S y) (muls x y) := by
  obtain ⟨r, h1, h2⟩ := mul_fin S hx hy
  have e : muls x y = r := by unfold muls; rw [h1]; rfl
  rw [e]; exact ⟨h1, h2⟩
theorem divs_eq {x y : Nat} (hx : fin S x = true) (hy : fin S y = true) (h0 : val S y ≠ 0) : floatBits .quo .f32 x y = some (divs x y) ∧ Rnd S (dv (quo S x y)) (divs x y) := by
  obtain ⟨r, h1, h2⟩ := div_fin S S_good hx hy h0
  have e : divs x y = r := by unfold divs; rw [h1]; rfl
  rw [e]; exact ⟨h1, h2⟩

theorem Rnd.le_val {f : Ieee.Format} {q : Rat} {r x : Nat} (g : Good f) (h : Rnd f q r) (hx : fin f x = true) (hq : ab q ≤ ab (val f x)) : fin f r = true ∧ ab (val f r) ≤ ab (val f x) := by
  obtain ⟨s, m, e, rfl, rfl⟩ := h
  rw [dv_abs, val_ab f g hx] at hq
  have hi := (fin_iff f x g).1 hx
  have h1 : rung f m e ≤ rg f x := by
    have := rung_mono f (m := m) (e := e) (m' := rmag f (rg f x)) (e' := rplace f (rg f x)) hq
    rwa [rung_exact f _ hi] at this
  have hf : fin f (f.write (.number s m e)) = true := by rw [fin_iff f _ g, (rg_write f g s m e).1]; omega
  refine ⟨hf, ?_⟩
  rw [val_ab f g hf, val_ab f g hx, (rg_write f g s m e).1]
  exact (rv_mono f (by omega) hi).2 h1

/-- A quotient by what is at least 1 is not greater. -/
theorem divs_le {x y : Nat} (hx : fin S x = true) (hy : fin S y = true) (h1 : 1 ≤ ab (val S y)) : fin S (divs x y) = true ∧ ab (val S (divs x y)) ≤ ab (val S x) := by
  have h0 : val S y ≠ 0 := by intro hc; rw [hc] at h1; simp [ab] at h1; grind
  have hr := (divs_eq hx hy h0).2
  refine hr.le_val S_good hx ?_
  have hM := rmag_S_log (rg S x)
  have hy1 := h1
  rw [val_ab S S_good hy] at hy1
  have hNj : 0 ≤ (rmag S (rg S y)).log2 + rplace S (rg S y) := by
    have a1 : rv S (rg S y) < 2 ^ (rplace S (rg S y) + (rmag S (rg S y)).log2 + 1) := mg_lt_log
    have a2 : (2 : Rat) ^ (0 : Int) < 2 ^ (rplace S (rg S y) + (rmag S (rg S y)).log2 + 1) := by rw [Rat.zpow_zero]; grind
    have := zp_lt_iff.1 a2
    omega
  have hfb : S.fractionBits = 23 := rfl
  obtain ⟨t, ht⟩ := Int.eq_ofNat_of_zero_le (show 0 ≤ rplace S (rg S x) - qun S x y by unfold qun; omega)
  have hT : ab (val S x) = ((rmag S (rg S x) * 2 ^ t : Nat) : Rat) * 2 ^ (qun S x y) := by
    rw [val_ab S S_good hx]
    unfold rv mg
    rw [show rplace S (rg S x) = (t : Int) + qun S x y by omega, zp_add, zp_nat, Rat.natCast_mul]; grind
  have := quo_le S S_good hx hy h0 (rmag S (rg S x) * 2 ^ t) (by
    rw [← hT]
    have := Rat.mul_le_mul_of_nonneg_right h1 (ab_nonneg (val S x))
    grind)
  rwa [← hT] at this

/-- 'add', 'sub', 'mul', 'div'. -/
def addM (x y : Nat) (c : Int) : Int × Nat := rnd (adds x y) c
def subM (x y : Nat) (c : Int) : Int × Nat := rnd (subs x y) c
def mulM (x y : Nat) (c : Int) : Int × Nat := rnd (muls x y) c
def isZ (x : Nat) : Bool := FloatKind.f32.format.order x 0 == some .eq
def divM (x y : Nat) (c : Int) : Int × Nat := if isZ y = true then (c, 0) else rnd (divs x y) c
theorem divM_zero (x : Nat) {y : Nat} (c : Int) (h : isZ y = true) : divM x y c = (c, 0) := if_pos h
theorem divM_other (x : Nat) {y : Nat} (c : Int) (h : isZ y = false) : divM x y c = rnd (divs x y) c := if_neg (by simp [h])
theorem fin0 : fin S 0 = true := by decide
theorem val0 : val S 0 = 0 := by decide +kernel
theorem isZ_iff {x : Nat} (h : fin S x = true) : isZ x = true ↔ val S x = 0 := by
  have e : FloatKind.f32.format.order x 0 = S.order x 0 := rfl
  unfold isZ
  rw [e, order_fin S h fin0, val0]
  by_cases h1 : val S x < 0
  · rw [if_pos h1]
    constructor
    · intro hc; simp at hc
    · intro hc; grind
  · rw [if_neg h1]
    by_cases h2 : val S x = 0
    · rw [if_pos h2]; simp [h2]
    · rw [if_neg h2]; simp [h2]
theorem divM_fin (x y : Nat) (c : Int) : fin S (divM x y c).2 = true := by
  unfold divM; split
  · exact fin0
  · exact rnd_fin _ _


/-! Products of two pairs, found in float64 and rounded twice. -/
def qd : Nat := 0x7ff8000000000000
def muld (x y : Nat) : Nat := (D.mul x y).getD qd
def addd (x y : Nat) : Nat := (D.add x y).getD qd
def bothD (a b x y : Nat) : Nat := addd (muld (cv a) (cv b)) (muld (cv x) (cv y))
def bothS (a b x y : Nat) : Nat := S.write (D.read (bothD a b x y))
def bothM (a b x y : Nat) (c : Int) : Int × Nat := rnd (bothS a b x y) c

theorem muld_eq {x y : Nat} (hx : fin D x = true) (hy : fin D y = true) : floatBits .mul .f64 x y = some (muld x y) ∧ Rnd D (val D x * val D y) (muld x y) := by
  obtain ⟨r, h1, h2⟩ := mul_fin D hx hy
  have e : muld x y = r := by unfold muld; rw [h1]; rfl
  rw [e]; exact ⟨h1, h2⟩
theorem addd_eq {x y : Nat} (hx : fin D x = true) (hy : fin D y = true) : floatBits .add .f64 x y = some (addd x y) ∧ Rnd D (val D x + val D y) (addd x y) := by
  obtain ⟨r, h1, h2⟩ := add_fin D hx hy
  have e : addd x y = r := by unfold addd; rw [h1]; rfl
  rw [e]; exact ⟨h1, h2⟩

theorem Rnd.leD {q : Rat} {r : Nat} {k : Int} (h : Rnd D q r) (h1 : -1074 ≤ k) (h2 : k ≤ 1023) (hq : ab q ≤ 2 ^ k) : Le D k r :=
  h.le D_good (by rw [D_least]; exact h1) (D_pow h2) hq
theorem Rnd.leS {q : Rat} {r : Nat} {k : Int} (h : Rnd S q r) (h1 : -149 ≤ k) (h2 : k ≤ 127) (hq : ab q ≤ 2 ^ k) : Le S k r :=
  h.le S_good (by rw [S_least]; exact h1) (S_pow h2) hq

theorem ab_mul_le {p q : Rat} {i j : Int} (h1 : ab p ≤ 2 ^ i) (h2 : ab q ≤ 2 ^ j) : ab (p * q) ≤ 2 ^ (i + j) := by
  rw [ab_mul, zp_add]
  have a1 := Rat.mul_le_mul_of_nonneg_right h1 (ab_nonneg q)
  have a2 := Rat.mul_le_mul_of_nonneg_left h2 (Rat.le_of_lt (zp_pos i))
  grind
theorem ab_add_le {p q : Rat} {k : Int} (h1 : ab p ≤ 2 ^ k) (h2 : ab q ≤ 2 ^ k) : ab (p + q) ≤ 2 ^ (k + 1) := by
  have a1 := ab_add p q
  rw [zp_add, Rat.zpow_one]; grind

theorem fin_bound {x : Nat} (h : fin S x = true) : ab (val S x) ≤ 2 ^ (128 : Int) := by
  rw [val_ab S S_good h]; exact rv_S_lt _ ((fin_iff S x S_good).1 h)

theorem muld_cv {a b : Nat} (ha : fin S a = true) (hb : fin S b = true) : Le D 256 (muld (cv a) (cv b)) := by
  have h1 := cv_fin ha; have h2 := cv_fin hb
  refine (muld_eq h1.1 h2.1).2.leD (by decide) (by decide) ?_
  rw [h1.2, h2.2]
  exact ab_mul_le (fin_bound ha) (fin_bound hb)

theorem bothD_fin {a b x y : Nat} (ha : fin S a = true) (hb : fin S b = true) (hx : fin S x = true) (hy : fin S y = true) : fin D (bothD a b x y) = true := by
  have h1 := muld_cv ha hb; have h2 := muld_cv hx hy
  exact ((addd_eq h1.1 h2.1).2.leD (k := 257) (by decide) (by decide) (ab_add_le h1.2 h2.2)).1

theorem bothS_rnd {a b x y : Nat} (ha : fin S a = true) (hb : fin S b = true) (hx : fin S x = true) (hy : fin S y = true) : Rnd S (val D (bothD a b x y)) (bothS a b x y) :=
  conv_fin D S (bothD_fin ha hb hx hy)

theorem conv64 {x : Nat} (h : fin D x = true) (h2 : fin S (S.write (D.read x)) = true) : floatToFloatBits .f64 x .f32 = some (S.write (D.read x)) := by
  unfold floatToFloatBits
  rw [if_neg (by decide)]
  show (match D.read x with | .nan _ _ => none | .infinity s => some (S.write (.infinity s)) | .number s m e => if (S.read (S.write (.number s m e))).isInfinity then none else some (S.write (.number s m e))) = _
  obtain ⟨s, m, e, hr⟩ := fin_read h
  rw [hr] at h2 ⊢
  simp only
  rw [fin_not_inf h2]; rfl

/-- A product of pairs is not too great where the products' bounds allow it. -/
theorem bothS_le {a b x y : Nat} {p q p' q' k : Int} (ha : Le S p a) (hb : Le S q b) (hx : Le S p' x) (hy : Le S q' y) (h1 : p + q ≤ k) (h2 : p' + q' ≤ k) (h3 : -149 ≤ k) (h4 : k ≤ 126) : Le S (k + 1) (bothS a b x y) := by
  have c1 := cv_fin ha.1; have c2 := cv_fin hb.1; have c3 := cv_fin hx.1; have c4 := cv_fin hy.1
  have m1 : Le D k (muld (cv a) (cv b)) := (muld_eq c1.1 c2.1).2.leD (by omega) (by omega) (by
    rw [c1.2, c2.2]; have := ab_mul_le ha.2 hb.2; have := zp_mono h1; grind)
  have m2 : Le D k (muld (cv x) (cv y)) := (muld_eq c3.1 c4.1).2.leD (by omega) (by omega) (by
    rw [c3.2, c4.2]; have := ab_mul_le hx.2 hy.2; have := zp_mono h2; grind)
  have s1 : Le D (k + 1) (bothD a b x y) := (addd_eq m1.1 m2.1).2.leD (by omega) (by omega) (ab_add_le m1.2 m2.2)
  exact (bothS_rnd ha.1 hb.1 hx.1 hy.1).leS (by omega) (by omega) s1.2

/-- The same with one product 0. -/
theorem bothS_le0 {a b x y : Nat} {p q : Int} (ha : Le S p a) (hb : Le S q b) (hx : fin S x = true) (hy : fin S y = true) (h0 : val S x = 0 ∨ val S y = 0) (h3 : -149 ≤ p + q) (h4 : p + q ≤ 127) : Le S (p + q) (bothS a b x y) := by
  have c1 := cv_fin ha.1; have c2 := cv_fin hb.1; have c3 := cv_fin hx; have c4 := cv_fin hy
  have m1 : Le D (p + q) (muld (cv a) (cv b)) := (muld_eq c1.1 c2.1).2.leD (by omega) (by omega) (by
    rw [c1.2, c2.2]; exact ab_mul_le ha.2 hb.2)
  have m2 := muld_cv hx hy
  have z2 : val D (muld (cv x) (cv y)) = 0 := by
    have r := (muld_eq c3.1 c4.1).2
    rw [c3.2, c4.2, show val S x * val S y = 0 by rcases h0 with h | h <;> rw [h] <;> grind] at r
    obtain ⟨f1, f2⟩ := Rnd.exact (f := D) (x := 0) D_good (by decide) (show Rnd D (val D 0) _ by rw [show val D 0 = 0 by decide +kernel]; exact r)
    rw [f2]; decide +kernel
  have s1 : Le D (p + q) (bothD a b x y) := (addd_eq m1.1 m2.1).2.leD (by omega) (by omega) (by rw [z2, Rat.add_zero]; exact m1.2)
  exact (bothS_rnd ha.1 hb.1 hx hy).leS (by omega) (by omega) s1.2

/-- Two numbers of one value. -/
def Eqv (f : Ieee.Format) (x y : Nat) : Prop := fin f x = true ∧ fin f y = true ∧ val f x = val f y
theorem Eqv.refl {f : Ieee.Format} {x : Nat} (h : fin f x = true) : Eqv f x x := ⟨h, h, rfl⟩

/-- The product of pairs hangs on the values alone. -/
theorem bothS_congr {a b x y a' b' x' y' : Nat} (ha : Eqv S a a') (hb : Eqv S b b') (hx : Eqv S x x') (hy : Eqv S y y') :
    fin S (bothS a b x y) = fin S (bothS a' b' x' y') ∧ (fin S (bothS a b x y) = true → val S (bothS a b x y) = val S (bothS a' b' x' y')) := by
  have c1 := cv_fin ha.1; have c2 := cv_fin hb.1; have c3 := cv_fin hx.1; have c4 := cv_fin hy.1
  have d1 := cv_fin ha.2.1; have d2 := cv_fin hb.2.1; have d3 := cv_fin hx.2.1; have d4 := cv_fin hy.2.1
  have m1 := muld_cv ha.1 hb.1; have m2 := muld_cv hx.1 hy.1
  have n1 := muld_cv ha.2.1 hb.2.1; have n2 := muld_cv hx.2.1 hy.2.1
  have e1 : val D (muld (cv a) (cv b)) = val D (muld (cv a') (cv b')) := by
    have r1 := (muld_eq c1.1 c2.1).2; have r2 := (muld_eq d1.1 d2.1).2
    rw [c1.2, c2.2, ha.2.2, hb.2.2] at r1; rw [d1.2, d2.2] at r2
    exact (r1.fin_val D_good r2).2 m1.1
  have e2 : val D (muld (cv x) (cv y)) = val D (muld (cv x') (cv y')) := by
    have r1 := (muld_eq c3.1 c4.1).2; have r2 := (muld_eq d3.1 d4.1).2
    rw [c3.2, c4.2, hx.2.2, hy.2.2] at r1; rw [d3.2, d4.2] at r2
    exact (r1.fin_val D_good r2).2 m2.1
  have e3 : val D (bothD a b x y) = val D (bothD a' b' x' y') := by
    have r1 := (addd_eq m1.1 m2.1).2; have r2 := (addd_eq n1.1 n2.1).2
    rw [e1, e2] at r1
    exact (r1.fin_val D_good r2).2 (bothD_fin ha.1 hb.1 hx.1 hy.1)
  have r1 := bothS_rnd ha.1 hb.1 hx.1 hy.1
  have r2 := bothS_rnd ha.2.1 hb.2.1 hx.2.1 hy.2.1
  rw [e3] at r1
  exact r1.fin_val S_good r2


/-! The program's operations on complex numbers: the code, the real part, the imaginary part. -/
abbrev C3 := Int × Nat × Nat
def zM (x y : Nat) (c : Int) : C3 := ((rnd y (rnd x c).1).1, (rnd x c).2, (rnd y (rnd x c).1).2)
def plusM (a b p q : Nat) (c : Int) : C3 := ((addM b q (addM a p c).1).1, (addM a p c).2, (addM b q (addM a p c).1).2)
def minusM (a b p q : Nat) (c : Int) : C3 := ((subM b q (subM a p c).1).1, (subM a p c).2, (subM b q (subM a p c).1).2)
def timesM (a b p q : Nat) (c : Int) : C3 :=
  ((bothM a q b p (bothM a p (Op.negFloat .f32 b) q c).1).1, (bothM a p (Op.negFloat .f32 b) q c).2, (bothM a q b p (bothM a p (Op.negFloat .f32 b) q c).1).2)
def squareM (a b : Nat) (c : Int) : Int × Nat := bothM a a b b c
def partedM (a b r : Nat) (c : Int) : C3 := ((divM b r (divM a r c).1).1, (divM a r c).2, (divM b r (divM a r c).1).2)
def inTableM (a0 a1 b0 b1 x0 x1 y0 y1 : Nat) (c : Int) : C3 :=
  plusM (timesM a0 a1 b0 b1 c).2.1 (timesM a0 a1 b0 b1 c).2.2 (timesM x0 x1 y0 y1 (timesM a0 a1 b0 b1 c).1).2.1 (timesM x0 x1 y0 y1 (timesM a0 a1 b0 b1 c).1).2.2 (timesM x0 x1 y0 y1 (timesM a0 a1 b0 b1 c).1).1
/-- No part of a product is too great. -/
def NO (a b p q : Nat) : Prop := fin S (bothS a p (Op.negFloat .f32 b) q) = true ∧ fin S (bothS a q b p) = true


/-! Sums of squares: no NaN comes of them. -/
def Pos (x : Nat) : Prop := (fin S x = true ∧ 0 ≤ val S x) ∨ S.read x = .infinity false
theorem Pos.nn {x : Nat} (h : Pos x) : nn x = true := by
  rcases h with ⟨h, _⟩ | h
  · exact nn_of_fin h
  · unfold Flt.nn; rw [h]; rfl
theorem not_fin_inf {x : Nat} {s : Bool} (h : S.read x = .infinity s) : fin S x = false := by unfold fin; rw [h]; rfl

theorem rnd_pos {q : Rat} {r : Nat} (h : Rnd S q r) (hq : 0 ≤ q) : Pos r := by
  obtain ⟨s, m, e, rfl, rfl⟩ := h
  have hn := mg_nonneg m e
  rcases write_number S S_sign S_bin s m e with ⟨hlt, m', e', h, h2⟩ | ⟨hi, h⟩
  · left
    have hf : fin S (S.write (.number s m e)) = true := by unfold fin; rw [h]; rfl
    refine ⟨hf, ?_⟩
    unfold val; rw [h]
    unfold dv at hq ⊢
    cases s
    · simp; exact mg_nonneg _ _
    · simp at hq ⊢
      have : mg m e ≤ mg 0 0 := by rw [mg_zero]; grind
      have hr := rung_mono S this
      rw [show rung S 0 0 = 0 by decide] at hr
      rw [h2, show rung S m e = 0 by omega, rv_zero]; grind
  · right
    rw [h]
    cases s
    · rfl
    · exfalso
      unfold dv at hq
      simp at hq
      have : mg m e ≤ mg 0 0 := by rw [mg_zero]; grind
      have hr := rung_mono S this
      rw [show rung S 0 0 = 0 by decide] at hr
      have : 0 < S.infRung := by decide
      omega

theorem muls_pos {x : Nat} (hx : fin S x = true) : Pos (muls x x) := by
  refine rnd_pos (muls_eq hx hx).2 ?_
  by_cases h : 0 ≤ val S x
  · exact Rat.mul_nonneg h h
  · have := Rat.mul_nonneg (a := - val S x) (b := - val S x) (by grind) (by grind)
    grind

theorem adds_pos {x y : Nat} (hx : Pos x) (hy : Pos y) : floatBits .add .f32 x y = some (adds x y) ∧ Pos (adds x y) ∧ (fin S (adds x y) = true → fin S x = true ∧ fin S y = true) := by
  rcases hx with ⟨fx, px⟩ | ix
  · rcases hy with ⟨fy, py⟩ | iy
    · have h := adds_eq fx fy
      exact ⟨h.1, rnd_pos h.2 (by grind), fun _ => ⟨fx, fy⟩⟩
    · have h : S.add x y = some (S.write (.infinity false)) := by
        obtain ⟨s, m, e, hr⟩ := fin_read fx
        unfold Ieee.Format.add; rw [hr, iy]; rfl
      have e : adds x y = S.write (.infinity false) := by unfold adds; rw [h]; rfl
      have hi : S.read (S.write (.infinity false)) = .infinity false := by decide +kernel
      rw [e]
      exact ⟨h, .inr hi, fun hc => by rw [not_fin_inf hi] at hc; cases hc⟩
  · have hi : S.read (S.write (.infinity false)) = .infinity false := by decide +kernel
    have h : S.add x y = some (S.write (.infinity false)) := by
      rcases hy with ⟨fy, py⟩ | iy
      · obtain ⟨s, m, e, hr⟩ := fin_read fy
        unfold Ieee.Format.add; rw [hr, ix]; rfl
      · unfold Ieee.Format.add; rw [ix, iy]; rfl
    have e : adds x y = S.write (.infinity false) := by unfold adds; rw [h]; rfl
    rw [e]
    exact ⟨h, .inr hi, fun hc => by rw [not_fin_inf hi] at hc; cases hc⟩

/-- The sum of the squares of three numbers. -/
def sqS (x y z : Nat) : Nat := adds (adds (muls x x) (muls y y)) (muls z z)
theorem sqS_pos {x y z : Nat} (hx : fin S x = true) (hy : fin S y = true) (hz : fin S z = true) : Pos (sqS x y z) :=
  (adds_pos (adds_pos (muls_pos hx) (muls_pos hy)).2.1 (muls_pos hz)).2.1


theorem rv_max : rv S (S.infRung - 1) = mg (2 ^ 128 - 2 ^ 104) 0 := by
  have e : rung S (2 ^ 128 - 2 ^ 104) 0 = S.infRung - 1 := by decide +kernel
  rw [← e, rv_rung S (by decide) (by rw [e]; decide)]
  have e1 : last S (2 ^ 128 - 2 ^ 104) 0 = 104 := by decide +kernel
  have e2 : kept S (2 ^ 128 - 2 ^ 104) 0 = 2 ^ 24 - 1 := by decide +kernel
  rw [e1, e2]
  have := mg_shl (2 ^ 24 - 1) 104 0
  rw [show (0 : Int) + ((104 : Nat) : Int) = 104 by decide] at this
  rw [← this]; congr 1
theorem fin_max {x : Nat} (h : fin S x = true) : ab (val S x) ≤ mg (2 ^ 128 - 2 ^ 104) 0 := by
  rw [val_ab S S_good h, ← rv_max]
  exact (rv_mono S ((fin_iff S x S_good).1 h) (by decide)).2 (by have := (fin_iff S x S_good).1 h; omega)
/-- What is at most 1 above the greatest number is rounded to a number. -/
theorem Rnd.fin_one {q : Rat} {r : Nat} (h : Rnd S q r) (hq : ab q ≤ mg (2 ^ 128 - 2 ^ 104) 0 + 1) : fin S r = true := by
  obtain ⟨s, m, e, rfl, rfl⟩ := h
  rw [dv_abs] at hq
  have e0 : mg (2 ^ 128 - 2 ^ 104) 0 + 1 = mg (2 ^ 128 - 2 ^ 104 + 1) 0 := by
    unfold mg; rw [Rat.natCast_add, Rat.zpow_zero]; grind
  rw [e0] at hq
  rw [fin_iff S _ S_good, (rg_write S S_good s m e).1]
  exact Nat.lt_of_le_of_lt (rung_mono S hq) (by decide +kernel)
theorem val1 : val S 1065353216 = 1 := by
  have h : fin S 1065353216 = true := by decide
  rw [val_fin S _ S_good h]
  have e1 : sg S 1065353216 = false := by decide
  have e2 : rv S (rg S 1065353216) = mg (2 ^ 23) (-23) := by
    unfold rv
    have a1 : rmag S (rg S 1065353216) = 2 ^ 23 := by decide +kernel
    have a2 : rplace S (rg S 1065353216) = -23 := by decide +kernel
    rw [a1, a2]
  rw [e1, e2]
  have := mg_shl 1 23 (-23)
  rw [show (1 : Nat) <<< 23 = 2 ^ 23 by decide, show (-23 : Int) + ((23 : Nat) : Int) = 0 by decide] at this
  rw [this, mg_one, Rat.zpow_zero]; simp
theorem val2 : val S 1073741824 = 2 := by
  have h : fin S 1073741824 = true := by decide
  rw [val_fin S _ S_good h]
  have e1 : sg S 1073741824 = false := by decide
  have e2 : rv S (rg S 1073741824) = mg (2 ^ 23) (-22) := by
    unfold rv
    have a1 : rmag S (rg S 1073741824) = 2 ^ 23 := by decide +kernel
    have a2 : rplace S (rg S 1073741824) = -22 := by decide +kernel
    rw [a1, a2]
  rw [e1, e2]
  have := mg_shl 1 23 (-22)
  rw [show (1 : Nat) <<< 23 = 2 ^ 23 by decide, show (-22 : Int) + ((23 : Nat) : Int) = 1 by decide] at this
  rw [this, mg_one, Rat.zpow_one]; simp
theorem fin_1 : fin S 1065353216 = true := by decide
theorem fin_2 : fin S 1073741824 = true := by decide
/-- 1 + q and 1 - q are numbers. -/
theorem adds1 {q : Nat} (h : fin S q = true) : fin S (adds 1065353216 q) = true :=
  (adds_eq fin_1 h).2.fin_one (by
    have := ab_add (val S 1065353216) (val S q); have h1 := fin_max h
    rw [show ab (val S 1065353216) = 1 by rw [val1]; decide] at this; grind)
theorem subs1 {q : Nat} (h : fin S q = true) : fin S (subs 1065353216 q) = true :=
  (subs_eq fin_1 h).2.fin_one (by
    have := ab_add (val S 1065353216) (- val S q); have h1 := fin_max h
    rw [show ab (val S 1065353216) = 1 by rw [val1]; decide, ab_neg] at this
    rw [show val S 1065353216 - val S q = val S 1065353216 + - val S q by grind]; grind)
theorem half_fin {h : Nat} (hh : fin S h = true) : fin S (divs h 1073741824) = true :=
  (divs_le hh fin_2 (by rw [val2]; decide)).1
theorem adds1_ge {q : Nat} (h : fin S q = true) (h0 : 0 ≤ val S q) : 1 ≤ val S (adds 1065353216 q) := by
  have r := (adds_eq fin_1 h).2
  have e := Rnd.self S_good fin_1
  obtain ⟨r1, e1, e2, e3⟩ := e
  have := Rnd.mono S_good e1 r e2 (adds1 h) (by grind)
  rw [e3, val1] at this; exact this
theorem Pos.val {x : Nat} (h : Pos x) (hf : fin S x = true) : 0 ≤ Flt.val S x := by
  rcases h with ⟨_, h⟩ | h
  · exact h
  · rw [not_fin_inf h] at hf; cases hf
theorem muls_pos2 {x y : Nat} (hx : fin S x = true) (hy : fin S y = true) (px : 0 ≤ val S x) (py : 0 ≤ val S y) : Pos (muls x y) :=
  rnd_pos (muls_eq hx hy).2 (Rat.mul_nonneg px py)

end Flt
