/-
  The four parts of a step of a field: the sum of their squares is at most 5/4; in the words of the plain arithmetic.
-/
import Derived.Test.YtmbjomjpnfnbkaaP17
import Derived.Test.YtmbjomjpnfnbkaaP2
set_option linter.unusedSimpArgs false
set_option linter.unusedVariables false
namespace Flt
open Ieee Go

theorem rmul_l {a b c : Rat} (h : a ≤ b) (hc : 0 ≤ c) : c * a ≤ c * b := Rat.mul_le_mul_of_nonneg_left h hc
theorem rmul_r {a b c : Rat} (h : a ≤ b) (hc : 0 ≤ c) : a * c ≤ b * c := Rat.mul_le_mul_of_nonneg_right h hc
theorem sq_nonneg (x : Rat) : 0 ≤ x * x := by
  rcases (show 0 ≤ x ∨ x ≤ 0 by grind) with h | h
  · exact Rat.mul_nonneg h h
  · have := Rat.mul_nonneg (show 0 ≤ -x by grind) (show 0 ≤ -x by grind); grind
theorem ab_sq (x : Rat) : ab x * ab x = x * x := by unfold ab; split <;> grind
theorem sq_le {x y : Rat} (hx : 0 ≤ x) (h : x ≤ y) : x * x ≤ y * y := by
  have h1 := rmul_l h hx
  have h2 := rmul_r h (show 0 ≤ y by grind)
  grind
/-- A square of a sum, a part of it small. -/
theorem sq_up {x y s : Rat} (hx : 0 ≤ x) (h : x ≤ y + s) : x * x ≤ y * y * (1025 / 1024) + s * s * 1025 := by
  have h1 := sq_le hx h
  have h2 := sq_nonneg (y * (1 / 32) - s * 32)
  grind
theorem err_up {v q e t : Rat} (h : ab (v - q) ≤ ab q * e + t) : ab v ≤ ab q * (1 + e) + t := by
  have := ab_add (v - q) q
  rw [show v - q + q = v by grind] at this
  grind
theorem err_dn {v q e t : Rat} (h : ab (v - q) ≤ ab q * e + t) : ab q * (1 - e) ≤ ab v + t := by
  have := ab_add (q - v) v
  rw [show q - v + v = q by grind, show q - v = -(v - q) by grind, ab_neg] at this
  grind
theorem eps_val : eps = 1 / 1048576 := by decide +kernel

/-- Two facts of the products. -/
theorem core_kb {k2 K M b2 Q t : Rat} (h0 : 0 ≤ K) (h1 : 0 ≤ M) (h2 : 0 ≤ Q) (hb : 0 ≤ b2) (ht : 0 ≤ t) (ht1 : t ≤ 1 / 4096)
    (a1 : k2 ≤ K * (1025 / 1024) + 2 * t) (a2 : b2 ≤ (M + 5 * t) * (1025 / 1024)) (a3 : K * M ≤ (Q + t) * (1025 / 1024)) (tK : t * K ≤ 1 / 4096) (tb : t * b2 ≤ 1 / 1024) :
    k2 * b2 ≤ Q * (101 / 100) + 1 / 128 := by
  have e1 := rmul_r a1 hb
  have e2 := rmul_l a2 h0
  grind
theorem core_ab {a k A2 k2 b2 Q t : Rat} (ha : 0 ≤ a) (hk : 0 ≤ k) (hA : A2 = a * a) (hk2 : k2 = k * k) (hb : 0 ≤ b2) (ht : 0 ≤ t) (ht1 : t ≤ 1 / 1048576) (hQ : 0 ≤ Q)
    (a1 : a ≤ 2 * k * (1025 / 1024) + 4 * t) (tb : t * b2 ≤ 1 / 1024) (h : k2 * b2 ≤ Q * (101 / 100) + 1 / 128) : A2 * b2 ≤ Q * (41 / 10) + 1 / 25 := by
  have e1 := sq_up ha a1
  have e2 : A2 ≤ k2 * (4 * (1025 / 1024) * (1025 / 1024) * (1025 / 1024)) + t * t * 16400 := by rw [hA, hk2]; grind
  have e3 := rmul_r e2 hb
  have e4 := rmul_l tb ht
  grind

/-- A part: x = F B, F = G with G d at most a. -/
theorem core_F {F G d a t : Rat} (hF : 0 ≤ F) (hG : 0 ≤ G) (hd : 0 ≤ d) (ha : 0 ≤ a) (ht : 0 ≤ t) (f1 : F ≤ G * (1048577 / 1048576) + t) (g1 : G * d ≤ a * (1048577 / 1048576)) :
    F * F * (d * d) ≤ a * a * (1002 / 1000) + t * t * 1025 * (d * d) := by
  have e1 := sq_up hF f1
  have e2 := rmul_r e1 (sq_nonneg d)
  have e3 := sq_le (Rat.mul_nonneg hG hd) g1
  have e4 := sq_nonneg a
  grind
theorem core_part {X F B t : Rat} (hX : 0 ≤ X) (ht : 0 ≤ t) (h : X ≤ F * B * (1048577 / 1048576) + t) : X * X ≤ F * F * (B * B) * (1002 / 1000) + t * t * 1025 := by
  have e1 := sq_up hX h
  have e2 := sq_nonneg (F * B)
  grind
theorem core_sum {X Y Z F B0 B1 B2 b2 t d A2 : Rat} (hA : 0 ≤ A2) (hb : b2 = B0 * B0 + B1 * B1 + B2 * B2) (ht : 0 ≤ t) (ht1 : t ≤ 1 / 1048576) (tb : t * b2 ≤ 1 / 1024)
    (x : X * X ≤ F * F * (B0 * B0) * (1002 / 1000) + t * t * 1025) (y : Y * Y ≤ F * F * (B1 * B1) * (1002 / 1000) + t * t * 1025) (z : Z * Z ≤ F * F * (B2 * B2) * (1002 / 1000) + t * t * 1025)
    (f : F * F * (d * d) ≤ A2 * (1002 / 1000) + t * t * 1025 * (d * d)) : (X * X + Y * Y + Z * Z) * (d * d) ≤ A2 * b2 * (1005 / 1000) + t * (d * d) * 2 := by
  have hb0 : 0 ≤ b2 := by have := sq_nonneg B0; have := sq_nonneg B1; have := sq_nonneg B2; grind
  have hd := sq_nonneg d
  have e0 : X * X + Y * Y + Z * Z ≤ F * F * b2 * (1002 / 1000) + t * t * 3075 := by rw [hb]; grind
  have e1 := rmul_r e0 hd
  have e2 := rmul_r f hb0
  have e3 := rmul_l tb ht
  have e4 := rmul_r e3 hd
  have e5 := rmul_l ht1 ht
  have e6 := rmul_r e5 hd
  have e7 : 0 ≤ t * (d * d) := Rat.mul_nonneg ht hd
  have e8 := Rat.mul_nonneg hA hb0
  grind
theorem core_W {W G3 s d q t : Rat} (hW : 0 ≤ W) (hG : 0 ≤ G3) (hd : 1 ≤ d) (hs : 0 ≤ s) (hq : 0 ≤ q) (ht : 0 ≤ t) (ht1 : t ≤ 1 / 1048576)
    (w1 : W ≤ G3 * (1048577 / 1048576) + t) (g1 : G3 * d ≤ s * (1048577 / 1048576)) (s1 : s ≤ q * (1048577 / 1048576) + t) : W * W * (d * d) ≤ q * q * (1005 / 1000) + t * (d * d) := by
  have e1 := core_F hW hG (by grind) hs ht w1 g1
  have e2 := sq_up hs s1
  have hdd : 1 ≤ d * d := by have := sq_le (show (0 : Rat) ≤ 1 by decide +kernel) hd; grind
  have e3 := rmul_l ht1 ht
  have e4 := rmul_r e3 (show 0 ≤ d * d by grind)
  have e5 := rmul_l hdd (Rat.mul_nonneg ht ht)
  have e6 := sq_nonneg q
  have e7 := rmul_l hdd ht
  grind
theorem core_all {S2 W2 q2 A2b2 Q d t : Rat} (hd : 1 ≤ d) (hQ : 0 ≤ Q) (ht : 0 ≤ t) (ht1 : t ≤ 1 / 1048576) (hq : q2 = (1 - Q) * (1 - Q))
    (h1 : S2 * (d * d) ≤ A2b2 * (1005 / 1000) + t * (d * d) * 2) (h2 : W2 * (d * d) ≤ q2 * (1005 / 1000) + t * (d * d)) (h3 : A2b2 ≤ Q * (41 / 10) + 1 / 25) (h4 : (1 + Q) * (1048575 / 1048576) ≤ d + t) :
    W2 + S2 ≤ 5 / 4 := by
  have hdd : 1 ≤ d * d := by have := sq_le (show (0 : Rat) ≤ 1 by decide +kernel) hd; grind
  have e1 : (1 + Q) * (1 + Q) ≤ d * d * (1003 / 1000) := by
    have a1 := sq_up (show 0 ≤ (1 + Q) * (1048575 / 1048576) by grind) h4
    have a2 := rmul_l ht1 ht
    have a4 := sq_nonneg t
    have a5 := sq_nonneg (1 + Q)
    have a3 : (1 + Q) * (1 + Q) ≤ (d * d * (1025 / 1024) + t * t * 1025) * (1001 / 1000) := by grind
    grind
  have e2 := rmul_r ht1 (show 0 ≤ d * d by grind)
  have e4 := sq_nonneg (1 - Q)
  have e3 : (W2 + S2) * (d * d) ≤ (5 / 4) * (d * d) := by rw [hq] at h2; grind
  exact mul_le_cancel (show 0 < d * d by grind) e3
end Flt
