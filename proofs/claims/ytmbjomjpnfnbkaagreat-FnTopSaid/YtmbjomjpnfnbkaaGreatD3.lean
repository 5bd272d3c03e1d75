/-
  The walk of the reference's step of a field.
-/
import Derived.Test.YtmbjomjpnfnbkaaGreatD2
set_option linter.unusedSimpArgs false
set_option linter.unusedVariables false
namespace Go.Proofs.YtmbjomjpnfnbkaaGreat
open Go.RowKit Flt

/-- The reference's step. -/
def stepS (x y z h : Nat) : C8 :=
  let k := divs h 1073741824
  let kk := muls k k
  let sq := sqS x y z
  let q := muls kk sq
  if fin S sq = false ∨ fin S kk = false ∨ fin S q = false then bad8 3 else
  let d := adds 1065353216 q
  let p := divs (subs 1065353216 q) d
  let f := divs h d
  if fin S (muls f x) = false ∨ fin S (muls f y) = false ∨ fin S (muls f z) = false then bad8 3 else tabS p (muls f x) (muls f y) (muls f z)

/-- What the reference finds on the way, where the square, k k and q are numbers. -/
structure Mid (kk sq q d s p f : Nat) : Prop where
  hkk : fin S kk = true
  hsq : fin S sq = true
  hq : fin S q = true
  hd : fin S d = true
  hd1 : 1 ≤ val S d
  hs : fin S s = true
  hp : fin S p = true
  hf : fin S f = true

theorem stepS_mid {x y z h : Nat} (hx : fin S x = true) (hy : fin S y = true) (hz : fin S z = true) (hh : fin S h = true)
    (h1 : fin S (sqS x y z) = true) (h2 : fin S (muls (divs h 1073741824) (divs h 1073741824)) = true)
    (h3 : fin S (muls (muls (divs h 1073741824) (divs h 1073741824)) (sqS x y z)) = true) :
    let k := divs h 1073741824
    let kk := muls k k
    let sq := sqS x y z
    let q := muls kk sq
    let d := adds 1065353216 q
    let s := subs 1065353216 q
    Mid kk sq q d s (divs s d) (divs h d) := by
  have fk := half_fin hh
  have pk := (muls_pos fk).val h2
  have ps := (sqS_pos hx hy hz).val h1
  have pq := (muls_pos2 h2 h1 pk ps).val h3
  have hd := adds1 h3
  have hd1 := adds1_ge h3 pq
  have hd2 : 1 ≤ ab (val S (adds 1065353216 (muls (muls (divs h 1073741824) (divs h 1073741824)) (sqS x y z)))) := by
    unfold ab; split <;> grind
  exact ⟨h2, h1, h3, hd, hd1, subs1 h3, (divs_le (subs1 h3) hd hd2).1, (divs_le hh hd hd2).1⟩

end Go.Proofs.YtmbjomjpnfnbkaaGreat
