/-
  The plain laws on columns of products: the powers of a step stay small.
-/
import Derived.Test.YtmbjomjpnfnbkaaGreatP0
import Derived.Test.YtmbjomjpnfnbkaaGreatP2
import Derived.Test.YtmbjomjpnfnbkaaGreatP3
set_option linter.unusedSimpArgs false
set_option linter.unusedVariables false
namespace Flt
open Ieee Go

/-- A small part, and a very small number. -/
def eps : Rat := 2 ^ (-20 : Int)
def tau : Rat := 2 ^ (-140 : Int)

theorem max_le_add {a b : Int} : (2 : Rat) ^ (max a b) ≤ 2 ^ a + 2 ^ b := by
  have h1 := zp_pos a
  have h2 := zp_pos b
  rcases Int.le_total a b with h | h
  · rw [Int.max_eq_right h]; grind
  · rw [Int.max_eq_left h]; grind
theorem near_f (f : Format) {m : Nat} {e : Int} (hb : 21 ≤ f.fractionBits) (hl : f.leastPlace ≤ -140) (hm : m ≠ 0) (h : rung f m e < f.infRung) :
    ab (rv f (rung f m e) - mg m e) ≤ mg m e * eps + tau := by
  obtain ⟨h1, h2⟩ := rv_near f hm h
  have h3 : (2 : Rat) ^ (last f m e) ≤ 2 ^ (e + m.log2 - f.fractionBits) + 2 ^ f.leastPlace := max_le_add
  have h4 : (2 : Rat) ^ (e + m.log2 - f.fractionBits) ≤ 2 ^ ((e + m.log2) + (-20)) := zp_mono (by omega)
  have h5 : (2 : Rat) ^ f.leastPlace ≤ 2 ^ (-140 : Int) := zp_mono hl
  have h6 : (2 : Rat) ^ (e + m.log2) ≤ mg m e := mg_log_le hm
  rw [zp_add] at h4
  have h7 := Rat.mul_le_mul_of_nonneg_right h6 (Rat.le_of_lt (zp_pos (-20)))
  have h8 := mg_nonneg m e
  have h9 : (0 : Rat) < 2 ^ (-20 : Int) := zp_pos _
  have h10 : (0 : Rat) ≤ mg m e * 2 ^ (-20 : Int) := Rat.mul_nonneg h8 (Rat.le_of_lt h9)
  have h11 : (0 : Rat) < 2 ^ (-140 : Int) := zp_pos _
  show ab _ ≤ mg m e * 2 ^ (-20 : Int) + 2 ^ (-140 : Int)
  unfold ab
  split <;> grind
theorem Rnd.err {f : Format} {q : Rat} {r : Nat} (g : Good f) (hb : 21 ≤ f.fractionBits) (hl : f.leastPlace ≤ -140) (h : Rnd f q r) (hf : fin f r = true) : ab (val f r - q) ≤ ab q * eps + tau := by
  obtain ⟨s, m, e, rfl, rfl⟩ := h
  have he : (0 : Rat) < tau := zp_pos _
  have hf' := hf
  rw [fin_iff f _ g, (rg_write f g s m e).1] at hf'
  have hv := val_fin f _ g hf
  rw [(rg_write f g s m e).1, (rg_write f g s m e).2] at hv
  rw [dv_abs]
  by_cases hm : m = 0
  · subst hm
    have h0 : rung f 0 e = 0 := by simp [rung]
    rw [h0, rv_zero] at hv
    have : val f (f.write (.number s 0 e)) = 0 := by rw [hv]; cases s <;> simp
    rw [this]
    have d0 : dv (.number s 0 e) = 0 := by
      have := dv_abs s 0 e
      rw [mg_zero] at this
      unfold ab at this
      split at this <;> grind
    rw [d0, mg_zero]
    have : ab (0 - 0 : Rat) = 0 := by decide +kernel
    rw [this]; grind
  · have h1 := near_f f hb hl hm hf'
    have d : dv (.number s m e) = if s then - mg m e else mg m e := rfl
    rw [hv, d]
    cases s with
    | false => simpa using h1
    | true =>
      have : (if true = true then -rv f (rung f m e) else rv f (rung f m e)) - (if true = true then - mg m e else mg m e) = -(rv f (rung f m e) - mg m e) := by
        simp only [if_true]; grind
      rw [this, ab_neg]; exact h1
theorem Rnd.errS {q : Rat} {r : Nat} (h : Rnd S q r) (hf : fin S r = true) : ab (val S r - q) ≤ ab q * eps + tau := h.err S_good (by decide) (by decide) hf
theorem Rnd.errD {q : Rat} {r : Nat} (h : Rnd D q r) (hf : fin D r = true) : ab (val D r - q) ≤ ab q * eps + tau := h.err D_good (by decide) (by decide) hf
end Flt

namespace Flt
open Ieee Go

theorem rmul_l {a b c : Rat} (h : a ≤ b) (hc : 0 ≤ c) : c * a ≤ c * b := Rat.mul_le_mul_of_nonneg_left h hc
theorem rmul_r {a b c : Rat} (h : a ≤ b) (hc : 0 ≤ c) : a * c ≤ b * c := Rat.mul_le_mul_of_nonneg_right h hc
theorem sq_nonneg (x : Rat) : 0 ≤ x * x := by
  rcases (show 0 ≤ x ∨ x ≤ 0 by grind) with h | h
  · exact Rat.mul_nonneg h h
  · have := Rat.mul_nonneg (show 0 ≤ -x by grind) (show 0 ≤ -x by grind); grind
theorem ab_sq (x : Rat) : ab x * ab x = x * x := by unfold ab; split <;> grind
theorem sq_le {x y : Rat} (hx : 0 ≤ x) (h : x ≤ y) : x * x ≤ y * y := by
  have h1 := rmul_l h hx
  have h2 := rmul_r h (show 0 ≤ y by grind)
  grind
/-- A square of a sum, a part of it small. -/
theorem sq_up {x y s : Rat} (hx : 0 ≤ x) (h : x ≤ y + s) : x * x ≤ y * y * (1025 / 1024) + s * s * 1025 := by
  have h1 := sq_le hx h
  have h2 := sq_nonneg (y * (1 / 32) - s * 32)
  grind
theorem err_up {v q e t : Rat} (h : ab (v - q) ≤ ab q * e + t) : ab v ≤ ab q * (1 + e) + t := by
  have := ab_add (v - q) q
  rw [show v - q + q = v by grind] at this
  grind
theorem err_dn {v q e t : Rat} (h : ab (v - q) ≤ ab q * e + t) : ab q * (1 - e) ≤ ab v + t := by
  have := ab_add (q - v) v
  rw [show q - v + v = q by grind, show q - v = -(v - q) by grind, ab_neg] at this
  grind
theorem eps_val : eps = 1 / 1048576 := by decide +kernel

/-- Two facts of the products. -/
theorem core_kb {k2 K M b2 Q t : Rat} (h0 : 0 ≤ K) (h1 : 0 ≤ M) (h2 : 0 ≤ Q) (hb : 0 ≤ b2) (ht : 0 ≤ t) (ht1 : t ≤ 1 / 4096)
    (a1 : k2 ≤ K * (1025 / 1024) + 2 * t) (a2 : b2 ≤ (M + 5 * t) * (1025 / 1024)) (a3 : K * M ≤ (Q + t) * (1025 / 1024)) (tK : t * K ≤ 1 / 4096) (tb : t * b2 ≤ 1 / 1024) :
    k2 * b2 ≤ Q * (101 / 100) + 1 / 128 := by
  have e1 := rmul_r a1 hb
  have e2 := rmul_l a2 h0
  grind
theorem core_ab {a k A2 k2 b2 Q t : Rat} (ha : 0 ≤ a) (hk : 0 ≤ k) (hA : A2 = a * a) (hk2 : k2 = k * k) (hb : 0 ≤ b2) (ht : 0 ≤ t) (ht1 : t ≤ 1 / 1048576) (hQ : 0 ≤ Q)
    (a1 : a ≤ 2 * k * (1025 / 1024) + 4 * t) (tb : t * b2 ≤ 1 / 1024) (h : k2 * b2 ≤ Q * (101 / 100) + 1 / 128) : A2 * b2 ≤ Q * (41 / 10) + 1 / 25 := by
  have e1 := sq_up ha a1
  have e2 : A2 ≤ k2 * (4 * (1025 / 1024) * (1025 / 1024) * (1025 / 1024)) + t * t * 16400 := by rw [hA, hk2]; grind
  have e3 := rmul_r e2 hb
  have e4 := rmul_l tb ht
  grind

/-- A part: x = F B, F = G with G d at most a. -/
theorem core_F {F G d a t : Rat} (hF : 0 ≤ F) (hG : 0 ≤ G) (hd : 0 ≤ d) (ha : 0 ≤ a) (ht : 0 ≤ t) (f1 : F ≤ G * (1048577 / 1048576) + t) (g1 : G * d ≤ a * (1048577 / 1048576)) :
    F * F * (d * d) ≤ a * a * (1002 / 1000) + t * t * 1025 * (d * d) := by
  have e1 := sq_up hF f1
  have e2 := rmul_r e1 (sq_nonneg d)
  have e3 := sq_le (Rat.mul_nonneg hG hd) g1
  have e4 := sq_nonneg a
  grind
theorem core_part {X F B t : Rat} (hX : 0 ≤ X) (ht : 0 ≤ t) (h : X ≤ F * B * (1048577 / 1048576) + t) : X * X ≤ F * F * (B * B) * (1002 / 1000) + t * t * 1025 := by
  have e1 := sq_up hX h
  have e2 := sq_nonneg (F * B)
  grind
theorem core_sum {X Y Z F B0 B1 B2 b2 t d A2 : Rat} (hA : 0 ≤ A2) (hb : b2 = B0 * B0 + B1 * B1 + B2 * B2) (ht : 0 ≤ t) (ht1 : t ≤ 1 / 1048576) (tb : t * b2 ≤ 1 / 1024)
    (x : X * X ≤ F * F * (B0 * B0) * (1002 / 1000) + t * t * 1025) (y : Y * Y ≤ F * F * (B1 * B1) * (1002 / 1000) + t * t * 1025) (z : Z * Z ≤ F * F * (B2 * B2) * (1002 / 1000) + t * t * 1025)
    (f : F * F * (d * d) ≤ A2 * (1002 / 1000) + t * t * 1025 * (d * d)) : (X * X + Y * Y + Z * Z) * (d * d) ≤ A2 * b2 * (1005 / 1000) + t * (d * d) * 2 := by
  have hb0 : 0 ≤ b2 := by have := sq_nonneg B0; have := sq_nonneg B1; have := sq_nonneg B2; grind
  have hd := sq_nonneg d
  have e0 : X * X + Y * Y + Z * Z ≤ F * F * b2 * (1002 / 1000) + t * t * 3075 := by rw [hb]; grind
  have e1 := rmul_r e0 hd
  have e2 := rmul_r f hb0
  have e3 := rmul_l tb ht
  have e4 := rmul_r e3 hd
  have e5 := rmul_l ht1 ht
  have e6 := rmul_r e5 hd
  have e7 : 0 ≤ t * (d * d) := Rat.mul_nonneg ht hd
  have e8 := Rat.mul_nonneg hA hb0
  grind
theorem core_W {W G3 s d q t : Rat} (hW : 0 ≤ W) (hG : 0 ≤ G3) (hd : 1 ≤ d) (hs : 0 ≤ s) (hq : 0 ≤ q) (ht : 0 ≤ t) (ht1 : t ≤ 1 / 1048576)
    (w1 : W ≤ G3 * (1048577 / 1048576) + t) (g1 : G3 * d ≤ s * (1048577 / 1048576)) (s1 : s ≤ q * (1048577 / 1048576) + t) : W * W * (d * d) ≤ q * q * (1005 / 1000) + t * (d * d) := by
  have e1 := core_F hW hG (by grind) hs ht w1 g1
  have e2 := sq_up hs s1
  have hdd : 1 ≤ d * d := by have := sq_le (show (0 : Rat) ≤ 1 by decide +kernel) hd; grind
  have e3 := rmul_l ht1 ht
  have e4 := rmul_r e3 (show 0 ≤ d * d by grind)
  have e5 := rmul_l hdd (Rat.mul_nonneg ht ht)
  have e6 := sq_nonneg q
  have e7 := rmul_l hdd ht
  grind
theorem core_all {S2 W2 q2 A2b2 Q d t : Rat} (hd : 1 ≤ d) (hQ : 0 ≤ Q) (ht : 0 ≤ t) (ht1 : t ≤ 1 / 1048576) (hq : q2 = (1 - Q) * (1 - Q))
    (h1 : S2 * (d * d) ≤ A2b2 * (1005 / 1000) + t * (d * d) * 2) (h2 : W2 * (d * d) ≤ q2 * (1005 / 1000) + t * (d * d)) (h3 : A2b2 ≤ Q * (41 / 10) + 1 / 25) (h4 : (1 + Q) * (1048575 / 1048576) ≤ d + t) :
    W2 + S2 ≤ 5 / 4 := by
  have hdd : 1 ≤ d * d := by have := sq_le (show (0 : Rat) ≤ 1 by decide +kernel) hd; grind
  have e1 : (1 + Q) * (1 + Q) ≤ d * d * (1003 / 1000) := by
    have a1 := sq_up (show 0 ≤ (1 + Q) * (1048575 / 1048576) by grind) h4
    have a2 := rmul_l ht1 ht
    have a4 := sq_nonneg t
    have a5 := sq_nonneg (1 + Q)
    have a3 : (1 + Q) * (1 + Q) ≤ (d * d * (1025 / 1024) + t * t * 1025) * (1001 / 1000) := by grind
    grind
  have e2 := rmul_r ht1 (show 0 ≤ d * d by grind)
  have e4 := sq_nonneg (1 - Q)
  have e3 : (W2 + S2) * (d * d) ≤ (5 / 4) * (d * d) := by rw [hq] at h2; grind
  exact mul_le_cancel (show 0 < d * d by grind) e3
end Flt

namespace Flt
open Ieee Go

theorem nat_quo {X N C q : Nat} (h1 : N * q ≤ X) (h2 : N * C ≤ X) : (2 * q + 1) * N * C ≤ 2 * X * (C + 1) := by
  have e1 : (2 * q + 1) * N * C = 2 * (N * q) * C + N * C := by
    rw [Nat.add_mul, Nat.add_mul, Nat.one_mul, Nat.mul_assoc 2 q N, Nat.mul_comm q N]
  have e2 : 2 * (N * q) * C ≤ 2 * X * C := Nat.mul_le_mul_right _ (Nat.mul_le_mul_left _ h1)
  rw [e1, Nat.mul_add, Nat.mul_one]
  omega
theorem nat_quo0 {X N C q : Nat} (h1 : N * q ≤ X) : (2 * q) * N * C ≤ 2 * X * (C + 1) := by
  have e1 : (2 * q) * N * C = 2 * (N * q) * C := by rw [Nat.mul_assoc 2 q N, Nat.mul_comm q N]
  have e2 : 2 * (N * q) * C ≤ 2 * X * C := Nat.mul_le_mul_right _ (Nat.mul_le_mul_left _ h1)
  rw [e1, Nat.mul_add, Nat.mul_one]
  omega
theorem pow_split (N a : Nat) : 2 ^ (a + 1 + 24) = 2 ^ (a + 1) * 16 * 1048576 := by rw [Nat.pow_add]; rw [Nat.mul_assoc]
/-- A quotient's number is not much greater than the quotient. -/
theorem quo_up {x y : Nat} (hx : fin S x = true) (hy : fin S y = true) (h0 : val S y ≠ 0) : ab (dv (quo S x y)) * ab (val S y) ≤ ab (val S x) * (1048577 / 1048576) := by
  rw [dv_quo_abs, val_ab S S_good hx, val_ab S S_good hy]
  have hN0 : rmag S (rg S y) ≠ 0 := rmag_ne S (fun hc => h0 ((val_zero_iff S S_good hy).2 hc))
  have lM := rmag_S_log (rg S x)
  unfold rv
  generalize rmag S (rg S x) = M at *
  generalize rmag S (rg S y) = N at *
  generalize rplace S (rg S x) = i at *
  generalize rplace S (rg S y) = j at *
  have e4 : S.fractionBits = 23 := rfl
  rw [e4]
  generalize hmore : 23 + 2 + N.log2 - M.log2 = more at *
  generalize hX : M <<< more = X
  have hXv : mg X (i - more) = mg M i := by rw [← hX, mg_shl, show i - (more : Int) + more = i by omega]
  have hmag : (2 * (X / N) + (X % N != 0).toNat) * N * 1048576 ≤ 2 * X * 1048577 := by
    have q1 := Nat.div_add_mod X N
    by_cases hr : X % N = 0
    · have e : (X % N != 0).toNat = 0 := by simp [hr]
      rw [e, Nat.add_zero]
      exact nat_quo0 (Nat.mul_div_le X N)
    · have e : (X % N != 0).toNat = 1 := by simp [hr]
      have hX0 : X ≠ 0 := fun hc => by rw [hc] at hr; simp at hr
      have hM0 : M ≠ 0 := fun hc => by rw [hc] at hX; simp at hX; exact hX0 hX.symm
      have hbig : N * 1048576 ≤ X := by
        have a1 : 2 ^ M.log2 ≤ M := Nat.log2_self_le hM0
        have a2 : N < 2 ^ (N.log2 + 1) := Nat.lt_log2_self
        have a3 : M * 2 ^ more = X := by rw [← hX, Nat.shiftLeft_eq]
        have a4 : 2 ^ M.log2 * 2 ^ more ≤ M * 2 ^ more := Nat.mul_le_mul_right _ a1
        rw [← Nat.pow_add, show M.log2 + more = N.log2 + 1 + 24 by omega, pow_split N, a3] at a4
        refine Nat.le_trans (Nat.mul_le_mul_right _ ?_) a4
        omega
      rw [e]
      exact nat_quo (Nat.mul_div_le X N) hbig
  generalize 2 * (X / N) + (X % N != 0).toNat = q at *
  have hr : (q : Rat) * N * 1048576 ≤ 2 * X * 1048577 := by exact_mod_cast hmag
  have e1 : mg q (i - j - more - 1) * mg N j = ((q : Rat) * N) * 2 ^ (i - more - 1) := by
    unfold mg
    rw [show i - (more : Int) - 1 = (i - j - more - 1) + j by omega, zp_add]; grind
  have e2 : mg M i = (2 * X : Rat) * 2 ^ (i - more - 1) := by
    rw [← hXv]
    unfold mg
    have e7 : (2 : Rat) ^ (i - (more : Int)) = 2 ^ (i - (more : Int) - 1) * 2 := by
      have := zp_add (i - (more : Int) - 1) 1
      rw [Rat.zpow_one] at this
      rw [← this]; congr 1; omega
    rw [e7]; grind
  rw [e1, e2]
  have hp := Rat.le_of_lt (zp_pos (i - more - 1))
  have e3 := rmul_r hr hp
  grind

theorem tau_pos : 0 < tau := zp_pos _
theorem tau_small : tau ≤ 1 / 1048576 := by decide +kernel
theorem tau_128 {x : Nat} (h : fin S x = true) : tau * ab (val S x) ≤ 1 / 4096 := by
  have h1 := Rat.le_of_lt (lt_128 h)
  have h2 := rmul_l h1 (Rat.le_of_lt tau_pos)
  have h3 : tau * 2 ^ (128 : Int) = 1 / 4096 := by decide +kernel
  grind
theorem eps1 : (1 : Rat) + eps = 1048577 / 1048576 := by decide +kernel
theorem eps2 : (1 : Rat) - eps = 1048575 / 1048576 := by decide +kernel

end Flt
namespace Go.Proofs.YtmbjomjpnfnbkaaGreat
open Flt

/-- The step's quantities, and what is known of them. -/
theorem step_core {x y z h : Nat} (hx : fin S x = true) (hy : fin S y = true) (hz : fin S z = true) (hh : fin S h = true)
    (h1 : fin S (sqS x y z) = true) (h2 : fin S (muls (divs h 1073741824) (divs h 1073741824)) = true) (h3 : fin S (muls (muls (divs h 1073741824) (divs h 1073741824)) (sqS x y z)) = true)
    {d p f X Y Z : Nat} (ed : adds 1065353216 (muls (muls (divs h 1073741824) (divs h 1073741824)) (sqS x y z)) = d) (ep : divs (subs 1065353216 (muls (muls (divs h 1073741824) (divs h 1073741824)) (sqS x y z))) d = p) (ef : divs h d = f)
    (eX : muls f x = X) (eY : muls f y = Y) (eZ : muls f z = Z) (fX : fin S X = true) (fY : fin S Y = true) (fZ : fin S Z = true) :
    val S p * val S p + (val S X * val S X + val S Y * val S Y + val S Z * val S Z) ≤ 5 / 4 := by
  obtain ⟨_, _, _, md, md1, ms, mp, mf⟩ := stepS_mid hx hy hz hh h1 h2 h3
  obtain ⟨s1, s2, s3, s4⟩ := sqS_parts hx hy hz h1
  have pk := (muls_pos (half_fin hh)).val h2
  have pm := (sqS_pos hx hy hz).val h1
  have pq := (muls_pos2 h2 h1 pk pm).val h3
  have t0 := Rat.le_of_lt tau_pos
  have r0 := err_dn ((muls_eq hx hx).2.errS s1)
  have r1 := err_dn ((muls_eq hy hy).2.errS s2)
  have r2 := err_dn ((muls_eq hz hz).2.errS s3)
  have r3 := err_dn ((adds_eq s1 s2).2.errS s4)
  have r4 := err_dn ((adds_eq s4 s3).2.errS h1)
  have v0 := (muls_pos hx).val s1
  have v1 := (muls_pos hy).val s2
  have v2 := (muls_pos hz).val s3
  have v3 := (adds_pos (muls_pos hx) (muls_pos hy)).2.1.val s4
  have eM : val S (adds (adds (muls x x) (muls y y)) (muls z z)) = val S (sqS x y z) := rfl
  have fk := half_fin hh
  have n2 : val S 1073741824 ≠ 0 := by rw [val2]; decide
  have q1 := err_dn ((divs_eq hh fin_2 n2).2.errS fk)
  have q2 := half_quo hh
  have q3 := err_dn ((muls_eq fk fk).2.errS h2)
  have q4 := err_dn ((muls_eq h2 h1).2.errS h3)
  have q5 := err_dn ((adds_eq fin_1 h3).2.errS md)
  have d0 : val S (adds 1065353216 (muls (muls (divs h 1073741824) (divs h 1073741824)) (sqS x y z))) ≠ 0 := by grind
  have g1 := quo_up hh md d0
  have g2 := err_up ((divs_eq hh md d0).2.errS mf)
  have w1 := err_up ((subs_eq fin_1 h3).2.errS ms)
  have w2 := quo_up ms md d0
  have w3 := err_up ((divs_eq ms md d0).2.errS mp)
  have bK := tau_128 h2
  have bM := tau_128 h1
  rw [eM] at r4
  subst ed
  subst ef
  subst ep
  have x1 := err_up ((muls_eq mf hx).2.errS (by rw [eX]; exact fX))
  have y1 := err_up ((muls_eq mf hy).2.errS (by rw [eY]; exact fY))
  have z1 := err_up ((muls_eq mf hz).2.errS (by rw [eZ]; exact fZ))
  subst eX eY eZ
  rw [eps2] at r0 r1 r2 r3 r4 q1 q3 q4 q5
  rw [eps1] at g2 w1 w3 x1 y1 z1
  rw [val1] at q5 w1
  rw [ab_mul] at x1 y1 z1
  generalize val S (divs (subs 1065353216 (muls (muls (divs h 1073741824) (divs h 1073741824)) (sqS x y z))) (adds 1065353216 (muls (muls (divs h 1073741824) (divs h 1073741824)) (sqS x y z)))) = W at *
  generalize val S (muls (divs h (adds 1065353216 (muls (muls (divs h 1073741824) (divs h 1073741824)) (sqS x y z)))) x) = Xv at *
  generalize val S (muls (divs h (adds 1065353216 (muls (muls (divs h 1073741824) (divs h 1073741824)) (sqS x y z)))) y) = Yv at *
  generalize val S (muls (divs h (adds 1065353216 (muls (muls (divs h 1073741824) (divs h 1073741824)) (sqS x y z)))) z) = Zv at *
  generalize val S (divs h (adds 1065353216 (muls (muls (divs h 1073741824) (divs h 1073741824)) (sqS x y z)))) = F at *
  generalize dv (quo S h (adds 1065353216 (muls (muls (divs h 1073741824) (divs h 1073741824)) (sqS x y z)))) = G at *
  generalize dv (quo S (subs 1065353216 (muls (muls (divs h 1073741824) (divs h 1073741824)) (sqS x y z))) (adds 1065353216 (muls (muls (divs h 1073741824) (divs h 1073741824)) (sqS x y z)))) = G3 at *
  generalize val S (subs 1065353216 (muls (muls (divs h 1073741824) (divs h 1073741824)) (sqS x y z))) = s at *
  generalize val S (adds 1065353216 (muls (muls (divs h 1073741824) (divs h 1073741824)) (sqS x y z))) = d at *
  generalize val S (muls (muls (divs h 1073741824) (divs h 1073741824)) (sqS x y z)) = Q at *
  generalize val S (sqS x y z) = M at *
  generalize val S (muls (divs h 1073741824) (divs h 1073741824)) = K at *
  generalize val S (divs h 1073741824) = k at *
  generalize dv (quo S h 1073741824) = kq at *
  generalize val S (adds (muls x x) (muls y y)) = m01 at *
  generalize val S (muls x x) = m0 at *
  generalize val S (muls y y) = m1 at *
  generalize val S (muls z z) = m2 at *
  generalize val S x = B0 at *
  generalize val S y = B1 at *
  generalize val S z = B2 at *
  generalize val S h = H at *
  have ts := tau_small
  generalize tau = t at *
  have dd : ab d = d := ab_of_nonneg (by grind)
  have t1 : t ≤ 1 / 4096 := by grind
  rw [ab_of_nonneg (sq_nonneg B0), ab_of_nonneg v0] at r0
  rw [ab_of_nonneg (sq_nonneg B1), ab_of_nonneg v1] at r1
  rw [ab_of_nonneg (sq_nonneg B2), ab_of_nonneg v2] at r2
  rw [ab_of_nonneg (show 0 ≤ m0 + m1 by grind), ab_of_nonneg v3] at r3
  rw [ab_of_nonneg (show 0 ≤ m01 + m2 by grind), ab_of_nonneg pm] at r4
  rw [ab_of_nonneg (sq_nonneg k), ab_of_nonneg pk] at q3
  rw [ab_of_nonneg (Rat.mul_nonneg pk pm), ab_of_nonneg pq] at q4
  rw [ab_of_nonneg (show 0 ≤ 1 + Q by grind), dd] at q5
  rw [ab_of_nonneg pm] at bM
  rw [ab_of_nonneg pk] at bK
  rw [dd] at g1 w2
  have b0 := sq_nonneg B0
  have b1 := sq_nonneg B1
  have b2 := sq_nonneg B2
  have ka := ab_sq k
  have a2 : B0 * B0 + B1 * B1 + B2 * B2 ≤ (M + 5 * t) * (1025 / 1024) := by grind
  have hb : 0 ≤ B0 * B0 + B1 * B1 + B2 * B2 := by grind
  have tb : t * (B0 * B0 + B1 * B1 + B2 * B2) ≤ 1 / 1024 := by
    have e1 := rmul_l a2 t0
    have e2 := rmul_l t1 t0
    grind
  have a1 : ab k * ab k ≤ K * (1025 / 1024) + 2 * t := by rw [ka]; grind
  have a3 : K * M ≤ (Q + t) * (1025 / 1024) := by grind
  have kb := core_kb pk pm pq hb t0 t1 a1 a2 a3 bK tb
  have ha : ab H ≤ 2 * ab k * (1025 / 1024) + 4 * t := by
    have := ab_nonneg k
    have := ab_nonneg H
    grind
  have hAB := core_ab (ab_nonneg H) (ab_nonneg k) rfl rfl hb t0 ts pq ha tb kb
  have hF := core_F (ab_nonneg F) (ab_nonneg G) (show 0 ≤ d by grind) (ab_nonneg H) t0 g2 g1
  have pX := core_part (ab_nonneg Xv) t0 x1
  have pY := core_part (ab_nonneg Yv) t0 y1
  have pZ := core_part (ab_nonneg Zv) t0 z1
  rw [ab_sq B0] at pX
  rw [ab_sq B1] at pY
  rw [ab_sq B2] at pZ
  have hS := core_sum (sq_nonneg (ab H)) rfl t0 ts tb pX pY pZ hF
  have hW := core_W (ab_nonneg W) (ab_nonneg G3) md1 (ab_nonneg s) (ab_nonneg (1 - Q)) t0 ts w3 w2 w1
  rw [ab_sq (1 - Q)] at hW
  have := core_all md1 pq t0 ts rfl hS hW hAB q5
  rw [ab_sq, ab_sq, ab_sq, ab_sq] at this
  exact this
end Go.Proofs.YtmbjomjpnfnbkaaGreat

namespace Flt
open Ieee Go

theorem err2 {x1 x2 p1 p2 s r t : Rat} (ht : 0 ≤ t) (h1 : ab (p1 - x1) ≤ ab x1 * (1 / 1048576) + t) (h2 : ab (p2 - x2) ≤ ab x2 * (1 / 1048576) + t)
    (h3 : ab (s - (p1 + p2)) ≤ ab (p1 + p2) * (1 / 1048576) + t) (h4 : ab (r - s) ≤ ab s * (1 / 1048576) + t) :
    ab (r - (x1 + x2)) ≤ (ab x1 + ab x2) * (5 / 1048576) + 6 * t := by
  have a1 := ab_add (p1 - x1) x1
  rw [show p1 - x1 + x1 = p1 by grind] at a1
  have a2 := ab_add (p2 - x2) x2
  rw [show p2 - x2 + x2 = p2 by grind] at a2
  have a3 := ab_add p1 p2
  have a4 := ab_add (s - (p1 + p2)) (p1 + p2)
  rw [show s - (p1 + p2) + (p1 + p2) = s by grind] at a4
  have b1 := ab_add (p1 - x1) (p2 - x2)
  have b2 := ab_add (s - (p1 + p2)) ((p1 - x1) + (p2 - x2))
  have b3 := ab_add (r - s) ((s - (p1 + p2)) + ((p1 - x1) + (p2 - x2)))
  rw [show r - s + (s - (p1 + p2) + (p1 - x1 + (p2 - x2))) = r - (x1 + x2) by grind] at b3
  have := ab_nonneg x1
  have := ab_nonneg x2
  grind
theorem err3 {x y P R r A C t : Rat} (ht : 0 ≤ t) (hA : ab x ≤ A) (hC : ab y ≤ C) (h1 : ab (P - x) ≤ A * (5 / 1048576) + 6 * t) (h2 : ab (R - y) ≤ C * (5 / 1048576) + 6 * t) (h3 : ab (r - (P + R)) ≤ ab (P + R) * (1 / 1048576) + t) :
    ab (r - (x + y)) ≤ (A + C) * (7 / 1048576) + 16 * t := by
  have a1 := ab_add (P - x) x
  rw [show P - x + x = P by grind] at a1
  have a2 := ab_add (R - y) y
  rw [show R - y + y = R by grind] at a2
  have a3 := ab_add P R
  have b1 := ab_add (P - x) (R - y)
  have b2 := ab_add (r - (P + R)) ((P - x) + (R - y))
  rw [show r - (P + R) + (P - x + (R - y)) = r - (x + y) by grind] at b2
  have := ab_nonneg x
  have := ab_nonneg y
  grind
theorem bothS_err {a b c d : Nat} (ha : fin S a = true) (hb : fin S b = true) (hc : fin S c = true) (hd : fin S d = true) (hf : fin S (bothS a b c d) = true) :
    ab (val S (bothS a b c d) - (val S a * val S b + val S c * val S d)) ≤ (ab (val S a) * ab (val S b) + ab (val S c) * ab (val S d)) * (5 / 1048576) + 6 * tau := by
  have f1 := (muld_cv ha hb).1
  have f2 := (muld_cv hc hd).1
  have fB := bothD_fin ha hb hc hd
  have h1 := (muld_eq (cv_fin ha).1 (cv_fin hb).1).2.errD f1
  have h2 := (muld_eq (cv_fin hc).1 (cv_fin hd).1).2.errD f2
  have h3 := (addd_eq f1 f2).2.errD fB
  have h4 := (bothS_rnd ha hb hc hd).errS hf
  rw [(cv_fin ha).2, (cv_fin hb).2, eps_val] at h1
  rw [(cv_fin hc).2, (cv_fin hd).2, eps_val] at h2
  rw [eps_val] at h3 h4
  have := err2 (Rat.le_of_lt tau_pos) h1 h2 h3 h4
  rw [ab_mul, ab_mul] at this
  exact this
/-- A part of a product of tables strays little. -/
theorem part_err {a b c d a' b' c' d' : Nat} (ha : fin S a = true) (hb : fin S b = true) (hc : fin S c = true) (hd : fin S d = true) (ha' : fin S a' = true) (hb' : fin S b' = true) (hc' : fin S c' = true) (hd' : fin S d' = true)
    (f1 : fin S (bothS a b c d) = true) (f2 : fin S (bothS a' b' c' d') = true) (hf : fin S (adds (bothS a b c d) (bothS a' b' c' d')) = true) :
    ab (val S (adds (bothS a b c d) (bothS a' b' c' d')) - (val S a * val S b + val S c * val S d + (val S a' * val S b' + val S c' * val S d'))) ≤
      (ab (val S a) * ab (val S b) + ab (val S c) * ab (val S d) + (ab (val S a') * ab (val S b') + ab (val S c') * ab (val S d'))) * (7 / 1048576) + 16 * tau := by
  have h1 := bothS_err ha hb hc hd f1
  have h2 := bothS_err ha' hb' hc' hd' f2
  have h3 := (adds_eq f1 f2).2.errS hf
  rw [eps_val] at h3
  refine err3 (Rat.le_of_lt tau_pos) ?_ ?_ h1 h2 h3
  · have := ab_add (val S a * val S b) (val S c * val S d); rw [ab_mul, ab_mul] at this; exact this
  · have := ab_add (val S a' * val S b') (val S c' * val S d'); rw [ab_mul, ab_mul] at this; exact this

/-- A sum of products, squared. -/
theorem cs4 (a b c d p q r s : Rat) : (a * p + b * q + c * r + d * s) * (a * p + b * q + c * r + d * s) ≤ (a * a + b * b + c * c + d * d) * (p * p + q * q + r * r + s * s) := by
  have h1 := sq_nonneg (a * q - b * p)
  have h2 := sq_nonneg (a * r - c * p)
  have h3 := sq_nonneg (a * s - d * p)
  have h4 := sq_nonneg (b * r - c * q)
  have h5 := sq_nonneg (b * s - d * q)
  have h6 := sq_nonneg (c * s - d * r)
  grind
theorem part_sq {r e s t U : Rat} (ht : 0 ≤ t) (ht1 : t ≤ 1 / 1048576) (hs : 0 ≤ s) (hU : s * s ≤ U) (h : ab (r - e) ≤ s * (7 / 1048576) + 16 * t) :
    r * r ≤ e * e * (1025 / 1024) + U * (1 / 10000) + 1 / 10000 := by
  have h1 := ab_add (r - e) e
  rw [show r - e + e = r by grind] at h1
  have h2 := sq_up (x := ab r) (y := ab e) (s := s * (7 / 1048576) + 16 * t) (ab_nonneg r) (by grind)
  rw [ab_sq, ab_sq] at h2
  have h3 := sq_nonneg (s * (7 / 1048576) - 16 * t)
  have h4 := rmul_l ht1 ht
  have h5 := sq_nonneg s
  grind
end Flt

namespace Flt
open Ieee Go

theorem col_up {w x y z v0 v1 v2 v3 r0 r1 r2 r3 t B : Rat} (ht : 0 ≤ t) (ht1 : t ≤ 1 / 1048576) (hN : w * w + (x * x + y * y + z * z) ≤ 5 / 4) (hn : v0 * v0 + v1 * v1 + v2 * v2 + v3 * v3 ≤ B) (hB : 1 ≤ B)
    (h0 : ab (r0 - (w * v0 + z * v1 + (-y * v2 + x * v3))) ≤ (ab w * ab v0 + ab z * ab v1 + (ab y * ab v2 + ab x * ab v3)) * (7 / 1048576) + 16 * t)
    (h1 : ab (r1 - (w * v1 + -z * v0 + (-y * v3 + -x * v2))) ≤ (ab w * ab v1 + ab z * ab v0 + (ab y * ab v3 + ab x * ab v2)) * (7 / 1048576) + 16 * t)
    (h2 : ab (r2 - (y * v0 + x * v1 + (w * v2 + -z * v3))) ≤ (ab y * ab v0 + ab x * ab v1 + (ab w * ab v2 + ab z * ab v3)) * (7 / 1048576) + 16 * t)
    (h3 : ab (r3 - (y * v1 + -x * v0 + (w * v3 + z * v2))) ≤ (ab y * ab v1 + ab x * ab v0 + (ab w * ab v3 + ab z * ab v2)) * (7 / 1048576) + 16 * t) :
    r0 * r0 + r1 * r1 + r2 * r2 + r3 * r3 ≤ 13 / 10 * B := by
  have aw := ab_nonneg w
  have ax := ab_nonneg x
  have ay := ab_nonneg y
  have az := ab_nonneg z
  have b0 := ab_nonneg v0
  have b1 := ab_nonneg v1
  have b2 := ab_nonneg v2
  have b3 := ab_nonneg v3
  have sw := ab_sq w
  have sx := ab_sq x
  have sy := ab_sq y
  have sz := ab_sq z
  have s0 := ab_sq v0
  have s1 := ab_sq v1
  have s2 := ab_sq v2
  have s3 := ab_sq v3
  have c0 := cs4 (ab w) (ab z) (ab y) (ab x) (ab v0) (ab v1) (ab v2) (ab v3)
  have c1 := cs4 (ab w) (ab z) (ab y) (ab x) (ab v1) (ab v0) (ab v3) (ab v2)
  have c2 := cs4 (ab y) (ab x) (ab w) (ab z) (ab v0) (ab v1) (ab v2) (ab v3)
  have c3 := cs4 (ab y) (ab x) (ab w) (ab z) (ab v1) (ab v0) (ab v3) (ab v2)
  rw [sw, sx, sy, sz, s0, s1, s2, s3] at c0 c1 c2 c3
  have q1 : 0 ≤ ab w * ab v0 + ab z * ab v1 + (ab y * ab v2 + ab x * ab v3) := by
    have := Rat.mul_nonneg aw b0; have := Rat.mul_nonneg az b1; have := Rat.mul_nonneg ay b2; have := Rat.mul_nonneg ax b3; grind
  have q2 : 0 ≤ ab w * ab v1 + ab z * ab v0 + (ab y * ab v3 + ab x * ab v2) := by
    have := Rat.mul_nonneg aw b1; have := Rat.mul_nonneg az b0; have := Rat.mul_nonneg ay b3; have := Rat.mul_nonneg ax b2; grind
  have q3 : 0 ≤ ab y * ab v0 + ab x * ab v1 + (ab w * ab v2 + ab z * ab v3) := by
    have := Rat.mul_nonneg ay b0; have := Rat.mul_nonneg ax b1; have := Rat.mul_nonneg aw b2; have := Rat.mul_nonneg az b3; grind
  have q4 : 0 ≤ ab y * ab v1 + ab x * ab v0 + (ab w * ab v3 + ab z * ab v2) := by
    have := Rat.mul_nonneg ay b1; have := Rat.mul_nonneg ax b0; have := Rat.mul_nonneg aw b3; have := Rat.mul_nonneg az b2; grind
  have p0 := part_sq ht ht1 q1 (U := (w * w + (x * x + y * y + z * z)) * (v0 * v0 + v1 * v1 + v2 * v2 + v3 * v3)) (by grind) h0
  have p1 := part_sq ht ht1 q2 (U := (w * w + (x * x + y * y + z * z)) * (v0 * v0 + v1 * v1 + v2 * v2 + v3 * v3)) (by grind) h1
  have p2 := part_sq ht ht1 q3 (U := (w * w + (x * x + y * y + z * z)) * (v0 * v0 + v1 * v1 + v2 * v2 + v3 * v3)) (by grind) h2
  have p3 := part_sq ht ht1 q4 (U := (w * w + (x * x + y * y + z * z)) * (v0 * v0 + v1 * v1 + v2 * v2 + v3 * v3)) (by grind) h3
  have hq : (w * v0 + z * v1 + (-y * v2 + x * v3)) * (w * v0 + z * v1 + (-y * v2 + x * v3)) + (w * v1 + -z * v0 + (-y * v3 + -x * v2)) * (w * v1 + -z * v0 + (-y * v3 + -x * v2)) + (y * v0 + x * v1 + (w * v2 + -z * v3)) * (y * v0 + x * v1 + (w * v2 + -z * v3)) + (y * v1 + -x * v0 + (w * v3 + z * v2)) * (y * v1 + -x * v0 + (w * v3 + z * v2)) = (w * w + (x * x + y * y + z * z)) * (v0 * v0 + v1 * v1 + v2 * v2 + v3 * v3) := by grind
  have n0 : 0 ≤ v0 * v0 + v1 * v1 + v2 * v2 + v3 * v3 := by have := sq_nonneg v0; have := sq_nonneg v1; have := sq_nonneg v2; have := sq_nonneg v3; grind
  have hU := rmul_r hN n0
  generalize (w * w + (x * x + y * y + z * z)) * (v0 * v0 + v1 * v1 + v2 * v2 + v3 * v3) = U at *
  generalize (w * v0 + z * v1 + (-y * v2 + x * v3)) * (w * v0 + z * v1 + (-y * v2 + x * v3)) = g0 at *
  generalize (w * v1 + -z * v0 + (-y * v3 + -x * v2)) * (w * v1 + -z * v0 + (-y * v3 + -x * v2)) = g1 at *
  generalize (y * v0 + x * v1 + (w * v2 + -z * v3)) * (y * v0 + x * v1 + (w * v2 + -z * v3)) = g2 at *
  generalize (y * v1 + -x * v0 + (w * v3 + z * v2)) * (y * v1 + -x * v0 + (w * v3 + z * v2)) = g3 at *
  generalize v0 * v0 + v1 * v1 + v2 * v2 + v3 * v3 = n at *
  clear c0 c1 c2 c3 q1 q2 q3 q4 h0 h1 h2 h3
  generalize r0 * r0 = R0 at *
  generalize r1 * r1 = R1 at *
  generalize r2 * r2 = R2 at *
  generalize r3 * r3 = R3 at *
  clear sw sx sy sz s0 s1 s2 s3 aw ax ay az b0 b1 b2 b3 hN
  grind
end Flt

namespace Go.Proofs.YtmbjomjpnfnbkaaGreat
open Flt

def n1 (t : C8) : Rat := val S t.a0 * val S t.a0 + val S t.a1 * val S t.a1 + val S t.c0 * val S t.c0 + val S t.c1 * val S t.c1
def n2 (t : C8) : Rat := val S t.b0 * val S t.b0 + val S t.b1 * val S t.b1 + val S t.d0 * val S t.d0 + val S t.d1 * val S t.d1
def nS (p x y z : Nat) : Rat := val S p * val S p + (val S x * val S x + val S y * val S y + val S z * val S z)

/-- A column of a product with a step. -/
theorem col_err {p x y z v0 v1 u0 u1 : Nat} {j : Int} {B : Rat} (lp : Lw 3 p) (lx : Lw 3 x) (ly : Lw 3 y) (lz : Lw 3 z) (l0 : Lw j v0) (l1 : Lw j v1) (l2 : Lw j u0) (l3 : Lw j u1)
    (h3 : -149 ≤ 3 + j) (h4 : 3 + j ≤ 125) (hN : nS p x y z ≤ 5 / 4) (hB : 1 ≤ B) (hn : val S v0 * val S v0 + val S v1 * val S v1 + val S u0 * val S u0 + val S u1 * val S u1 ≤ B) :
    let r := inTableS p (ng z) v0 v1 (ng y) (ng x) u0 u1
    let q := inTableS y (ng x) v0 v1 p z u0 u1
    val S r.1 * val S r.1 + val S r.2 * val S r.2 + val S q.1 * val S q.1 + val S q.2 * val S q.2 ≤ 13 / 10 * B := by
  have nz := lz.ng
  have ny := ly.ng
  have nx := lx.ng
  have nnz := nz.ng
  have nnx := nx.ng
  have vz : val S (ng z) = - val S z := (ng_fin lz.1 lz.2.1).2
  have vy : val S (ng y) = - val S y := (ng_fin ly.1 ly.2.1).2
  have vx : val S (ng x) = - val S x := (ng_fin lx.1 lx.2.1).2
  have vnz : val S (ng (ng z)) = val S z := by
    have := (ng_fin nz.1 nz.2.1).2
    have e : val S (ng (ng z)) = - val S (ng z) := this
    rw [e, vz]; grind
  have vnx : val S (ng (ng x)) = val S x := by
    have := (ng_fin nx.1 nx.2.1).2
    have e : val S (ng (ng x)) = - val S (ng x) := this
    rw [e, vx]; grind
  have hk : 3 + j ≤ 3 + j := Int.le_refl _
  have h5 : 3 + j ≤ 126 := by omega
  have B1 := bothS_lw lp l0 nnz l1 hk h3 h5
  have B2 := bothS_lw ny l2 nnx l3 hk h3 h5
  have B3 := bothS_lw lp l1 nz l0 hk h3 h5
  have B4 := bothS_lw ny l3 nx l2 hk h3 h5
  have B5 := bothS_lw ly l0 nnx l1 hk h3 h5
  have B6 := bothS_lw lp l2 nz l3 hk h3 h5
  have B7 := bothS_lw ly l1 nx l0 hk h3 h5
  have B8 := bothS_lw lp l3 lz l2 hk h3 h5
  have A1 := adds_lw B1 B2 (by omega) (by omega)
  have A2 := adds_lw B3 B4 (by omega) (by omega)
  have nz' := nz.ng
  have B6' : Lw (3 + j + 1) (bothS p u0 (ng z) u1) := B6
  have A3 := adds_lw B5 B6 (by omega) (by omega)
  have A4 := adds_lw B7 B8 (by omega) (by omega)
  have E1 := part_err lp.2.1 l0.2.1 nnz.2.1 l1.2.1 ny.2.1 l2.2.1 nnx.2.1 l3.2.1 B1.2.1 B2.2.1 A1.2.1
  have E2 := part_err lp.2.1 l1.2.1 nz.2.1 l0.2.1 ny.2.1 l3.2.1 nx.2.1 l2.2.1 B3.2.1 B4.2.1 A2.2.1
  have E3 := part_err ly.2.1 l0.2.1 nnx.2.1 l1.2.1 lp.2.1 l2.2.1 nz.2.1 l3.2.1 B5.2.1 B6.2.1 A3.2.1
  have E4 := part_err ly.2.1 l1.2.1 nx.2.1 l0.2.1 lp.2.1 l3.2.1 lz.2.1 l2.2.1 B7.2.1 B8.2.1 A4.2.1
  change ab (val S (adds (bothS p v0 (ng (ng z)) v1) (bothS (ng y) u0 (ng (ng x)) u1)) - (val S p * val S v0 + val S (ng (ng z)) * val S v1 + (val S (ng y) * val S u0 + val S (ng (ng x)) * val S u1))) ≤ (ab (val S p) * ab (val S v0) + ab (val S (ng (ng z))) * ab (val S v1) + (ab (val S (ng y)) * ab (val S u0) + ab (val S (ng (ng x))) * ab (val S u1))) * (7 / 1048576) + 16 * tau at E1
  change ab (val S (adds (bothS p v1 (ng z) v0) (bothS (ng y) u1 (ng x) u0)) - (val S p * val S v1 + val S (ng z) * val S v0 + (val S (ng y) * val S u1 + val S (ng x) * val S u0))) ≤ (ab (val S p) * ab (val S v1) + ab (val S (ng z)) * ab (val S v0) + (ab (val S (ng y)) * ab (val S u1) + ab (val S (ng x)) * ab (val S u0))) * (7 / 1048576) + 16 * tau at E2
  change ab (val S (adds (bothS y v0 (ng (ng x)) v1) (bothS p u0 (ng z) u1)) - (val S y * val S v0 + val S (ng (ng x)) * val S v1 + (val S p * val S u0 + val S (ng z) * val S u1))) ≤ (ab (val S y) * ab (val S v0) + ab (val S (ng (ng x))) * ab (val S v1) + (ab (val S p) * ab (val S u0) + ab (val S (ng z)) * ab (val S u1))) * (7 / 1048576) + 16 * tau at E3
  change ab (val S (adds (bothS y v1 (ng x) v0) (bothS p u1 z u0)) - (val S y * val S v1 + val S (ng x) * val S v0 + (val S p * val S u1 + val S z * val S u0))) ≤ (ab (val S y) * ab (val S v1) + ab (val S (ng x)) * ab (val S v0) + (ab (val S p) * ab (val S u1) + ab (val S z) * ab (val S u0))) * (7 / 1048576) + 16 * tau at E4
  rw [vnz, vnx, vy, ab_neg] at E1
  rw [vz, vx, vy, ab_neg, ab_neg, ab_neg] at E2
  rw [vnx, vz, ab_neg] at E3
  rw [vx, ab_neg] at E4
  exact col_up (Rat.le_of_lt tau_pos) tau_small hN hn hB E1 E2 E3 E4
end Go.Proofs.YtmbjomjpnfnbkaaGreat

namespace Go.Proofs.YtmbjomjpnfnbkaaGreat
open Flt

/-- What a step of numbers comes to: a bad code, or a table whose parts' squares sum up to 5/4 at most. -/
theorem stepS_norm {x y z h : Nat} (hx : fin S x = true) (hy : fin S y = true) (hz : fin S z = true) (hh : fin S h = true) :
    stepS x y z h = bad8 3 ∨ ∃ p X Y Z, stepS x y z h = tabS p X Y Z ∧ Lw 3 p ∧ Lw 3 X ∧ Lw 3 Y ∧ Lw 3 Z ∧ nS p X Y Z ≤ 5 / 4 := by
  by_cases hb : fin S (sqS x y z) = false ∨ fin S (muls (divs h 1073741824) (divs h 1073741824)) = false ∨ fin S (muls (muls (divs h 1073741824) (divs h 1073741824)) (sqS x y z)) = false
  · left; unfold stepS; simp only [if_pos hb]
  · have h1 : fin S (sqS x y z) = true := by cases h : fin S (sqS x y z) <;> simp_all
    have h2 : fin S (muls (divs h 1073741824) (divs h 1073741824)) = true := by cases h : fin S (muls (divs h 1073741824) (divs h 1073741824)) <;> simp_all
    have h3 : fin S (muls (muls (divs h 1073741824) (divs h 1073741824)) (sqS x y z)) = true := by cases h : fin S (muls (muls (divs h 1073741824) (divs h 1073741824)) (sqS x y z)) <;> simp_all
    obtain ⟨_, _, _, md, md1, ms, mp, mf⟩ := stepS_mid hx hy hz hh h1 h2 h3
    have pk := (muls_pos (half_fin hh)).val h2
    have pm := (sqS_pos hx hy hz).val h1
    have pq := (muls_pos2 h2 h1 pk pm).val h3
    have d0 : val S (adds 1065353216 (muls (muls (divs h 1073741824) (divs h 1073741824)) (sqS x y z))) ≠ 0 := by grind
    have hdq := (adds_ge fin_1 h3 md (by rw [val1]; decide) pq).2
    obtain ⟨g1, g2, g3⟩ := sqS_ge hx hy hz h1
    obtain ⟨s1, s2, s3, _⟩ := sqS_parts hx hy hz h1
    have bx := step_part hh hx rfl rfl h2 h1 g1 s1 rfl h3 md md1 hdq
    have by' := step_part hh hy rfl rfl h2 h1 g2 s2 rfl h3 md md1 hdq
    have bz := step_part hh hz rfl rfl h2 h1 g3 s3 rfl h3 md md1 hdq
    have lp : Lw 1 (divs (subs 1065353216 (muls (muls (divs h 1073741824) (divs h 1073741824)) (sqS x y z))) (adds 1065353216 (muls (muls (divs h 1073741824) (divs h 1073741824)) (sqS x y z)))) := ⟨divs_lt ms md d0, step_p h3 pq⟩
    right
    refine ⟨_, _, _, _, ?_, lp.mono (by decide), ⟨muls_lt mf hx, bx⟩, ⟨muls_lt mf hy, by'⟩, ⟨muls_lt mf hz, bz⟩, step_core hx hy hz hh h1 h2 h3 rfl rfl rfl rfl rfl rfl bx.1 by'.1 bz.1⟩
    unfold stepS
    simp only [if_neg hb]
    rw [if_neg (by rw [bx.1, by'.1, bz.1]; simp)]

/-- The powers of a table, bare. -/
def powS (s : C8) : Nat → C8
  | 0 => s
  | k + 1 => productS s (powS s k)
def Bn : Nat → Rat
  | 0 => 2
  | k + 1 => 13 / 10 * Bn k
theorem Bn_ge : ∀ k, 1 ≤ Bn k
  | 0 => by unfold Bn; decide +kernel
  | k + 1 => by have := Bn_ge k; unfold Bn; grind
theorem Bn_le : ∀ k, k < 301 → Bn k ≤ 2 ^ (58 : Int) * 2 ^ (58 : Int) := by
  have h : (List.range 301).all (fun k => decide (Bn k ≤ 2 ^ (58 : Int) * 2 ^ (58 : Int))) = true := by decide +kernel
  intro k hk
  exact of_decide_eq_true (List.all_eq_true.1 h k (List.mem_range.2 hk))
theorem root_le {x c : Rat} (hc : 0 ≤ c) (h : x * x ≤ c * c) : ab x ≤ c := by
  apply Classical.byContradiction
  intro hn
  have h1 : c < ab x := by grind
  have h2 := ab_sq x
  have h3 := sq_le hc (Rat.le_of_lt h1)
  have h4 : c * c < ab x * ab x := by
    have a1 := Rat.mul_lt_mul_of_pos_right h1 (show 0 < ab x by grind)
    have a2 := rmul_l (Rat.le_of_lt h1) hc
    grind
  grind
theorem lw_of {k : Int} {x : Nat} {B : Rat} (h : Lw k x) (hx : val S x * val S x ≤ B) (hB : B ≤ 2 ^ (58 : Int) * 2 ^ (58 : Int)) : Lw 58 x :=
  ⟨h.1, h.2.1, root_le (Rat.le_of_lt (zp_pos 58)) (by grind)⟩
theorem cols_lw {k : Int} {t : C8} {B : Rat} (h : Lw8 k t) (h1 : n1 t ≤ B) (h2 : n2 t ≤ B) (hB : B ≤ 2 ^ (58 : Int) * 2 ^ (58 : Int)) : Lw8 58 t := by
  unfold n1 at h1
  unfold n2 at h2
  have a0 := sq_nonneg (val S t.a0); have a1 := sq_nonneg (val S t.a1); have c0 := sq_nonneg (val S t.c0); have c1 := sq_nonneg (val S t.c1)
  have b0 := sq_nonneg (val S t.b0); have b1 := sq_nonneg (val S t.b1); have d0 := sq_nonneg (val S t.d0); have d1 := sq_nonneg (val S t.d1)
  exact ⟨lw_of h.a0 (by grind) hB, lw_of h.a1 (by grind) hB, lw_of h.b0 (by grind) hB, lw_of h.b1 (by grind) hB, lw_of h.c0 (by grind) hB, lw_of h.c1 (by grind) hB, lw_of h.d0 (by grind) hB, lw_of h.d1 (by grind) hB⟩
theorem tabS_lw3 {p x y z : Nat} (hp : Lw 3 p) (hx : Lw 3 x) (hy : Lw 3 y) (hz : Lw 3 z) : Lw8 3 (tabS p x y z) := ⟨hp, hz.ng, hy.ng, hx.ng, hy, hx.ng, hp, hz⟩
theorem val_ng {k : Int} {x : Nat} (h : Lw k x) : val S (ng x) = - val S x := (ng_fin h.1 h.2.1).2

theorem pow_small {p x y z : Nat} (hp : Lw 3 p) (hx : Lw 3 x) (hy : Lw 3 y) (hz : Lw 3 z) (hN : nS p x y z ≤ 5 / 4) : ∀ k, k < 301 → Lw8 58 (powS (tabS p x y z) k) ∧ n1 (powS (tabS p x y z) k) ≤ Bn k ∧ n2 (powS (tabS p x y z) k) ≤ Bn k
  | 0, _ => by
    refine ⟨(tabS_lw3 hp hx hy hz).mono (by decide), ?_, ?_⟩
    · unfold nS at hN
      show val S p * val S p + val S (ng z) * val S (ng z) + val S y * val S y + val S (ng x) * val S (ng x) ≤ 2
      rw [val_ng hz, val_ng hx]
      grind
    · unfold nS at hN
      show val S (ng y) * val S (ng y) + val S (ng x) * val S (ng x) + val S p * val S p + val S z * val S z ≤ 2
      rw [val_ng hy, val_ng hx]
      grind
  | k + 1, h => by
    obtain ⟨l, i1, i2⟩ := pow_small hp hx hy hz hN k (by omega)
    have hB := Bn_ge k
    have c1 := col_err hp hx hy hz l.a0 l.a1 l.c0 l.c1 (by decide) (by decide) hN hB i1
    have c2 := col_err hp hx hy hz l.b0 l.b1 l.d0 l.d1 (by decide) (by decide) hN hB i2
    have hl := (product_law (tabS_lw3 hp hx hy hz) l (by decide) (by decide)).2
    have e1 : n1 (powS (tabS p x y z) (k + 1)) ≤ Bn (k + 1) := c1
    have e2 : n2 (powS (tabS p x y z) (k + 1)) ≤ Bn (k + 1) := c2
    exact ⟨cols_lw hl e1 e2 (Bn_le _ h), e1, e2⟩
end Go.Proofs.YtmbjomjpnfnbkaaGreat
