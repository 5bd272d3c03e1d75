/-
  The numbers of halvings: their roots, by the arithmetic of the model.
-/
import Derived.Test.YtmbjomjpnfnbkaaGreatP0
import Derived.Laws.FloatArith
set_option linter.unusedSimpArgs false
set_option linter.unusedVariables false
namespace Flt
open Ieee Go

/-- A root of a number of single precision, by double precision. -/
def sqD (x : Nat) : Nat := (D.sqrt (cv x)).getD qd
def rootS (x : Nat) : Nat := S.write (D.read (sqD x))
/-- The numbers of halvings. -/
def hC : Nat → Nat
  | 0 => 0
  | k + 1 => rootS (divs (adds 1065353216 (hC k)) 1073741824)
def hX (k : Nat) : Nat := divs (adds 1065353216 (hC k)) 1073741824
def hS : Nat → Nat
  | 0 => 1065353216
  | k + 1 => divs (hS k) (adds (hC (k + 1)) (hC (k + 1)))
/-- Powers of two by doubling and halving. -/
def twoU : Nat → Nat
  | 0 => 4607182418800017408
  | j + 1 => muld (twoU j) 4611686018427387904
def divd (x y : Nat) : Nat := (D.div x y).getD qd
def twoD : Nat → Nat
  | 0 => 4607182418800017408
  | j + 1 => divd (twoD j) 4611686018427387904
/-- A number times powers of four. -/
def yF (x : Nat) : Nat → Nat
  | 0 => cv x
  | j + 1 => muld (yF x j) 4616189618054758400
/-- How often the reference multiplies by four. -/
def cnt (x : Nat) : Nat := if D.order (yF x 24) (twoU 48) = some .lt then 25 else 24
def nOf (x : Nat) : Nat := match floatToIntVal .f64 (yF x (cnt x)) .i64 with
  | some n => n.toNat
  | none => 0
/-- The bits of a whole root, from the highest on. -/
def rF (n : Nat) : Nat → Nat
  | 0 => 0
  | i + 1 => if (rF n i + 2 ^ (24 - i)) * (rF n i + 2 ^ (24 - i)) ≤ n then rF n i + 2 ^ (24 - i) else rF n i
def evenOf (n : Nat) : Nat := let e := rF n 25 - rF n 25 % 2; if (e + 1) * (e + 1) < n then e + 2 else e
def rootQ (x : Nat) : Nat := S.write (D.read (muld (floatOfInt .f64 (evenOf (nOf x) : Int)) (twoD (cnt x))))
/-- What the walk of the reference's root asks of a number. -/
def okR (x : Nat) : Bool :=
  fin S x && (FloatKind.f32.format.order x 0 == some .gt) &&
  (List.range (cnt x)).all (fun j => (D.order (yF x j) (twoU 48) == some .lt) && (D.mul (yF x j) 4616189618054758400 == some (yF x (j + 1)))) &&
  ((D.order (yF x (cnt x)) (twoU 48) == some .gt) || (D.order (yF x (cnt x)) (twoU 48) == some .eq)) && (D.order (yF x (cnt x)) (twoU 50) == some .lt) &&
  (floatToIntVal .f64 (yF x (cnt x)) .i64 == some (nOf x : Int)) && decide (nOf x < 2 ^ 50) &&
  (D.mul (floatOfInt .f64 (evenOf (nOf x) : Int)) (twoD (cnt x)) == some (muld (floatOfInt .f64 (evenOf (nOf x) : Int)) (twoD (cnt x)))) &&
  fin D (muld (floatOfInt .f64 (evenOf (nOf x) : Int)) (twoD (cnt x))) && fin S (rootQ x)
/-- What the walks ask of the numbers of halvings. -/
def okH (k : Nat) : Bool :=
  okR (hX k) && (rootQ (hX k) == rootS (hX k)) && (D.sqrt (cv (hX k)) == some (sqD (hX k))) && fin D (sqD (hX k)) && fin S (rootS (hX k)) &&
  fin S (hC k) && fin S (hS k) && decide (hC k < 2 ^ 32) && decide (hS k < 2 ^ 32) && decide (rg S (hC k) ≤ rg S 1065353216) && decide (rg S (hS k) ≤ rg S 1065353216) &&
  (zn (hC k) == hC k) && (zn (hS k) == hS k) && (zn (hX k) == hX k) && fin S (adds 1065353216 (hC k)) && (zn (adds 1065353216 (hC k)) == adds 1065353216 (hC k)) &&
  fin S (hX k) && fin S (adds (hC (k + 1)) (hC (k + 1))) && (zn (adds (hC (k + 1)) (hC (k + 1))) == adds (hC (k + 1)) (hC (k + 1))) && (isZ (adds (hC (k + 1)) (hC (k + 1))) == false) &&
  (S.mul 1073741824 (hC (k + 1)) == some (adds (hC (k + 1)) (hC (k + 1))))
set_option maxRecDepth 100000 in
theorem okH_all : (List.range 25).all okH = true := by decide +kernel
set_option maxRecDepth 100000 in
theorem two_all : (List.range 60).all (fun j => (D.mul (twoU j) 4611686018427387904 == some (twoU (j + 1))) && (D.div (twoD j) 4611686018427387904 == some (twoD (j + 1)))) = true := by decide +kernel
theorem okH_of {k : Nat} (h : k < 25) : okH k = true := List.all_eq_true.1 okH_all k (List.mem_range.2 h)
theorem two_of {j : Nat} (h : j < 60) : D.mul (twoU j) 4611686018427387904 = some (twoU (j + 1)) ∧ D.div (twoD j) 4611686018427387904 = some (twoD (j + 1)) := by
  have := List.all_eq_true.1 two_all j (List.mem_range.2 h)
  simpa using this
end Flt
