/-
  The powers of a step stay small.
-/
import Derived.Test.YtmbjomjpnfnbkaaP20
set_option linter.unusedSimpArgs false
set_option linter.unusedVariables false
namespace Flt
open Ieee Go

theorem col_up {w x y z v0 v1 v2 v3 r0 r1 r2 r3 t B : Rat} (ht : 0 ≤ t) (ht1 : t ≤ 1 / 1048576) (hN : w * w + (x * x + y * y + z * z) ≤ 5 / 4) (hn : v0 * v0 + v1 * v1 + v2 * v2 + v3 * v3 ≤ B) (hB : 1 ≤ B)
    (h0 : ab (r0 - (w * v0 + z * v1 + (-y * v2 + x * v3))) ≤ (ab w * ab v0 + ab z * ab v1 + (ab y * ab v2 + ab x * ab v3)) * (7 / 1048576) + 16 * t)
    (h1 : ab (r1 - (w * v1 + -z * v0 + (-y * v3 + -x * v2))) ≤ (ab w * ab v1 + ab z * ab v0 + (ab y * ab v3 + ab x * ab v2)) * (7 / 1048576) + 16 * t)
    (h2 : ab (r2 - (y * v0 + x * v1 + (w * v2 + -z * v3))) ≤ (ab y * ab v0 + ab x * ab v1 + (ab w * ab v2 + ab z * ab v3)) * (7 / 1048576) + 16 * t)
    (h3 : ab (r3 - (y * v1 + -x * v0 + (w * v3 + z * v2))) ≤ (ab y * ab v1 + ab x * ab v0 + (ab w * ab v3 + ab z * ab v2)) * (7 / 1048576) + 16 * t) :
    r0 * r0 + r1 * r1 + r2 * r2 + r3 * r3 ≤ 13 / 10 * B := by
  have aw := ab_nonneg w
  have ax := ab_nonneg x
  have ay := ab_nonneg y
  have az := ab_nonneg z
  have b0 := ab_nonneg v0
  have b1 := ab_nonneg v1
  have b2 := ab_nonneg v2
  have b3 := ab_nonneg v3
  have sw := ab_sq w
  have sx := ab_sq x
  have sy := ab_sq y
  have sz := ab_sq z
  have s0 := ab_sq v0
  have s1 := ab_sq v1
  have s2 := ab_sq v2
  have s3 := ab_sq v3
  have c0 := cs4 (ab w) (ab z) (ab y) (ab x) (ab v0) (ab v1) (ab v2) (ab v3)
  have c1 := cs4 (ab w) (ab z) (ab y) (ab x) (ab v1) (ab v0) (ab v3) (ab v2)
  have c2 := cs4 (ab y) (ab x) (ab w) (ab z) (ab v0) (ab v1) (ab v2) (ab v3)
  have c3 := cs4 (ab y) (ab x) (ab w) (ab z) (ab v1) (ab v0) (ab v3) (ab v2)
  rw [sw, sx, sy, sz, s0, s1, s2, s3] at c0 c1 c2 c3
  have q1 : 0 ≤ ab w * ab v0 + ab z * ab v1 + (ab y * ab v2 + ab x * ab v3) := by
    have := Rat.mul_nonneg aw b0; have := Rat.mul_nonneg az b1; have := Rat.mul_nonneg ay b2; have := Rat.mul_nonneg ax b3; grind
  have q2 : 0 ≤ ab w * ab v1 + ab z * ab v0 + (ab y * ab v3 + ab x * ab v2) := by
    have := Rat.mul_nonneg aw b1; have := Rat.mul_nonneg az b0; have := Rat.mul_nonneg ay b3; have := Rat.mul_nonneg ax b2; grind
  have q3 : 0 ≤ ab y * ab v0 + ab x * ab v1 + (ab w * ab v2 + ab z * ab v3) := by
    have := Rat.mul_nonneg ay b0; have := Rat.mul_nonneg ax b1; have := Rat.mul_nonneg aw b2; have := Rat.mul_nonneg az b3; grind
  have q4 : 0 ≤ ab y * ab v1 + ab x * ab v0 + (ab w * ab v3 + ab z * ab v2) := by
    have := Rat.mul_nonneg ay b1; have := Rat.mul_nonneg ax b0; have := Rat.mul_nonneg aw b3; have := Rat.mul_nonneg az b2; grind
  have p0 := part_sq ht ht1 q1 (U := (w * w + (x * x + y * y + z * z)) * (v0 * v0 + v1 * v1 + v2 * v2 + v3 * v3)) (by grind) h0
  have p1 := part_sq ht ht1 q2 (U := (w * w + (x * x + y * y + z * z)) * (v0 * v0 + v1 * v1 + v2 * v2 + v3 * v3)) (by grind) h1
  have p2 := part_sq ht ht1 q3 (U := (w * w + (x * x + y * y + z * z)) * (v0 * v0 + v1 * v1 + v2 * v2 + v3 * v3)) (by grind) h2
  have p3 := part_sq ht ht1 q4 (U := (w * w + (x * x + y * y + z * z)) * (v0 * v0 + v1 * v1 + v2 * v2 + v3 * v3)) (by grind) h3
  have hq : (w * v0 + z * v1 + (-y * v2 + x * v3)) * (w * v0 + z * v1 + (-y * v2 + x * v3)) + (w * v1 + -z * v0 + (-y * v3 + -x * v2)) * (w * v1 + -z * v0 + (-y * v3 + -x * v2)) + (y * v0 + x * v1 + (w * v2 + -z * v3)) * (y * v0 + x * v1 + (w * v2 + -z * v3)) + (y * v1 + -x * v0 + (w * v3 + z * v2)) * (y * v1 + -x * v0 + (w * v3 + z * v2)) = (w * w + (x * x + y * y + z * z)) * (v0 * v0 + v1 * v1 + v2 * v2 + v3 * v3) := by grind
  have n0 : 0 ≤ v0 * v0 + v1 * v1 + v2 * v2 + v3 * v3 := by have := sq_nonneg v0; have := sq_nonneg v1; have := sq_nonneg v2; have := sq_nonneg v3; grind
  have hU := rmul_r hN n0
  generalize (w * w + (x * x + y * y + z * z)) * (v0 * v0 + v1 * v1 + v2 * v2 + v3 * v3) = U at *
  generalize (w * v0 + z * v1 + (-y * v2 + x * v3)) * (w * v0 + z * v1 + (-y * v2 + x * v3)) = g0 at *
  generalize (w * v1 + -z * v0 + (-y * v3 + -x * v2)) * (w * v1 + -z * v0 + (-y * v3 + -x * v2)) = g1 at *
  generalize (y * v0 + x * v1 + (w * v2 + -z * v3)) * (y * v0 + x * v1 + (w * v2 + -z * v3)) = g2 at *
  generalize (y * v1 + -x * v0 + (w * v3 + z * v2)) * (y * v1 + -x * v0 + (w * v3 + z * v2)) = g3 at *
  generalize v0 * v0 + v1 * v1 + v2 * v2 + v3 * v3 = n at *
  clear c0 c1 c2 c3 q1 q2 q3 q4 h0 h1 h2 h3
  generalize r0 * r0 = R0 at *
  generalize r1 * r1 = R1 at *
  generalize r2 * r2 = R2 at *
  generalize r3 * r3 = R3 at *
  clear sw sx sy sz s0 s1 s2 s3 aw ax ay az b0 b1 b2 b3 hN
  grind
end Flt
