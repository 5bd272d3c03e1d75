/-
  Walk of the program's distance of two tables.
-/
import Derived.Test.YtmbjomjpnfnbkaaGreatA10
set_option linter.unusedSimpArgs false
set_option linter.unusedVariables false
namespace Go.Proofs.YtmbjomjpnfnbkaaGreat
open Go.RowKit Flt

theorem minusM_FW {p q x y : Nat} (hp : fin S p = true) (hq : fin S q = true) (hx : fin S x = true) (hy : fin S y = true) (c : Int) : FW (minusM p q x y c).2.1 ∧ FW (minusM p q x y c).2.2 :=
  ⟨rnd_FW (subs_lt hp hx) _, rnd_FW (subs_lt hq hy) _⟩

/-- 'distance'. -/
def distM (a b : C8) (c : Int) : Int × Nat :=
  let r0 := minusM a.a0 a.a1 b.a0 b.a1 c
  let r1 := minusM a.b0 a.b1 b.b0 b.b1 r0.1
  let r2 := minusM a.c0 a.c1 b.c0 b.c1 r1.1
  let r3 := minusM a.d0 a.d1 b.d0 b.d1 r2.1
  (r3.1, mx (mx (mx (mx 0 (greatM r0.2.1 r0.2.2)) (greatM r1.2.1 r1.2.2)) (greatM r2.2.1 r2.2.2)) (greatM r3.2.1 r3.2.2))

/-- The parts are numbers in words of 32 bits. -/
structure Fw8 (t : C8) : Prop where
  a0 : FW t.a0
  a1 : FW t.a1
  b0 : FW t.b0
  b1 : FW t.b1
  c0 : FW t.c0
  c1 : FW t.c1
  d0 : FW t.d0
  d1 : FW t.d1
theorem Lw8.fw {k : Int} {t : C8} (h : Lw8 k t) : Fw8 t := ⟨h.a0.FW, h.a1.FW, h.b0.FW, h.b1.FW, h.c0.FW, h.c1.FW, h.d0.FW, h.d1.FW⟩

end Go.Proofs.YtmbjomjpnfnbkaaGreat
