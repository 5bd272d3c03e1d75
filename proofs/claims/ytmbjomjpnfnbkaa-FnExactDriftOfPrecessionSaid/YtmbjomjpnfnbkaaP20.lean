/-
  A product with a step lets a column grow by a factor of 13/10 at most.
-/
import Derived.Test.YtmbjomjpnfnbkaaP19
import Derived.Test.YtmbjomjpnfnbkaaP3
set_option linter.unusedSimpArgs false
set_option linter.unusedVariables false
namespace Flt
open Ieee Go

theorem err2 {x1 x2 p1 p2 s r t : Rat} (ht : 0 ≤ t) (h1 : ab (p1 - x1) ≤ ab x1 * (1 / 1048576) + t) (h2 : ab (p2 - x2) ≤ ab x2 * (1 / 1048576) + t)
    (h3 : ab (s - (p1 + p2)) ≤ ab (p1 + p2) * (1 / 1048576) + t) (h4 : ab (r - s) ≤ ab s * (1 / 1048576) + t) :
    ab (r - (x1 + x2)) ≤ (ab x1 + ab x2) * (5 / 1048576) + 6 * t := by
  have a1 := ab_add (p1 - x1) x1
  rw [show p1 - x1 + x1 = p1 by grind] at a1
  have a2 := ab_add (p2 - x2) x2
  rw [show p2 - x2 + x2 = p2 by grind] at a2
  have a3 := ab_add p1 p2
  have a4 := ab_add (s - (p1 + p2)) (p1 + p2)
  rw [show s - (p1 + p2) + (p1 + p2) = s by grind] at a4
  have b1 := ab_add (p1 - x1) (p2 - x2)
  have b2 := ab_add (s - (p1 + p2)) ((p1 - x1) + (p2 - x2))
  have b3 := ab_add (r - s) ((s - (p1 + p2)) + ((p1 - x1) + (p2 - x2)))
  rw [show r - s + (s - (p1 + p2) + (p1 - x1 + (p2 - x2))) = r - (x1 + x2) by grind] at b3
  have := ab_nonneg x1
  have := ab_nonneg x2
  grind
theorem err3 {x y P R r A C t : Rat} (ht : 0 ≤ t) (hA : ab x ≤ A) (hC : ab y ≤ C) (h1 : ab (P - x) ≤ A * (5 / 1048576) + 6 * t) (h2 : ab (R - y) ≤ C * (5 / 1048576) + 6 * t) (h3 : ab (r - (P + R)) ≤ ab (P + R) * (1 / 1048576) + t) :
    ab (r - (x + y)) ≤ (A + C) * (7 / 1048576) + 16 * t := by
  have a1 := ab_add (P - x) x
  rw [show P - x + x = P by grind] at a1
  have a2 := ab_add (R - y) y
  rw [show R - y + y = R by grind] at a2
  have a3 := ab_add P R
  have b1 := ab_add (P - x) (R - y)
  have b2 := ab_add (r - (P + R)) ((P - x) + (R - y))
  rw [show r - (P + R) + (P - x + (R - y)) = r - (x + y) by grind] at b2
  have := ab_nonneg x
  have := ab_nonneg y
  grind
theorem bothS_err {a b c d : Nat} (ha : fin S a = true) (hb : fin S b = true) (hc : fin S c = true) (hd : fin S d = true) (hf : fin S (bothS a b c d) = true) :
    ab (val S (bothS a b c d) - (val S a * val S b + val S c * val S d)) ≤ (ab (val S a) * ab (val S b) + ab (val S c) * ab (val S d)) * (5 / 1048576) + 6 * tau := by
  have f1 := (muld_cv ha hb).1
  have f2 := (muld_cv hc hd).1
  have fB := bothD_fin ha hb hc hd
  have h1 := (muld_eq (cv_fin ha).1 (cv_fin hb).1).2.errD f1
  have h2 := (muld_eq (cv_fin hc).1 (cv_fin hd).1).2.errD f2
  have h3 := (addd_eq f1 f2).2.errD fB
  have h4 := (bothS_rnd ha hb hc hd).errS hf
  rw [(cv_fin ha).2, (cv_fin hb).2, eps_val] at h1
  rw [(cv_fin hc).2, (cv_fin hd).2, eps_val] at h2
  rw [eps_val] at h3 h4
  have := err2 (Rat.le_of_lt tau_pos) h1 h2 h3 h4
  rw [ab_mul, ab_mul] at this
  exact this
/-- A part of a product of tables strays little. -/
theorem part_err {a b c d a' b' c' d' : Nat} (ha : fin S a = true) (hb : fin S b = true) (hc : fin S c = true) (hd : fin S d = true) (ha' : fin S a' = true) (hb' : fin S b' = true) (hc' : fin S c' = true) (hd' : fin S d' = true)
    (f1 : fin S (bothS a b c d) = true) (f2 : fin S (bothS a' b' c' d') = true) (hf : fin S (adds (bothS a b c d) (bothS a' b' c' d')) = true) :
    ab (val S (adds (bothS a b c d) (bothS a' b' c' d')) - (val S a * val S b + val S c * val S d + (val S a' * val S b' + val S c' * val S d'))) ≤
      (ab (val S a) * ab (val S b) + ab (val S c) * ab (val S d) + (ab (val S a') * ab (val S b') + ab (val S c') * ab (val S d'))) * (7 / 1048576) + 16 * tau := by
  have h1 := bothS_err ha hb hc hd f1
  have h2 := bothS_err ha' hb' hc' hd' f2
  have h3 := (adds_eq f1 f2).2.errS hf
  rw [eps_val] at h3
  refine err3 (Rat.le_of_lt tau_pos) ?_ ?_ h1 h2 h3
  · have := ab_add (val S a * val S b) (val S c * val S d); rw [ab_mul, ab_mul] at this; exact this
  · have := ab_add (val S a' * val S b') (val S c' * val S d'); rw [ab_mul, ab_mul] at this; exact this

/-- A sum of products, squared. -/
theorem cs4 (a b c d p q r s : Rat) : (a * p + b * q + c * r + d * s) * (a * p + b * q + c * r + d * s) ≤ (a * a + b * b + c * c + d * d) * (p * p + q * q + r * r + s * s) := by
  have h1 := sq_nonneg (a * q - b * p)
  have h2 := sq_nonneg (a * r - c * p)
  have h3 := sq_nonneg (a * s - d * p)
  have h4 := sq_nonneg (b * r - c * q)
  have h5 := sq_nonneg (b * s - d * q)
  have h6 := sq_nonneg (c * s - d * r)
  grind
theorem part_sq {r e s t U : Rat} (ht : 0 ≤ t) (ht1 : t ≤ 1 / 1048576) (hs : 0 ≤ s) (hU : s * s ≤ U) (h : ab (r - e) ≤ s * (7 / 1048576) + 16 * t) :
    r * r ≤ e * e * (1025 / 1024) + U * (1 / 10000) + 1 / 10000 := by
  have h1 := ab_add (r - e) e
  rw [show r - e + e = r by grind] at h1
  have h2 := sq_up (x := ab r) (y := ab e) (s := s * (7 / 1048576) + 16 * t) (ab_nonneg r) (by grind)
  rw [ab_sq, ab_sq] at h2
  have h3 := sq_nonneg (s * (7 / 1048576) - 16 * t)
  have h4 := rmul_l ht1 ht
  have h5 := sq_nonneg s
  grind
end Flt
