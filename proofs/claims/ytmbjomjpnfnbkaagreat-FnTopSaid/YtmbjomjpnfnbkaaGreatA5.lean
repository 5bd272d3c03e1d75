/-
  The walk of the step of a field.
-/
import Derived.Test.YtmbjomjpnfnbkaaGreatA4
set_option linter.unusedSimpArgs false
set_option linter.unusedVariables false
namespace Go.Proofs.YtmbjomjpnfnbkaaGreat
open Go.RowKit Flt

/-- 'step'. -/
def one : Nat := 1065353216
def two : Nat := 1073741824
def stepM (b0 b1 b2 h : Nat) (c : Int) : C8 :=
  let k := divM h 1073741824 c
  let kk := mulM k.2 k.2 k.1
  let d0 := dotM b0 b1 b2 b0 b1 b2 kk.1
  let q := mulM kk.2 d0.2 d0.1
  let d := addM 1065353216 q.2 q.1
  let s := subM 1065353216 q.2 d.1
  let p := divM s.2 d.2 s.1
  let f := divM h d.2 p.1
  let x := mulM f.2 b0 f.1
  let y := mulM f.2 b1 x.1
  let z := mulM f.2 b2 y.1
  ofPartsM p.2 x.2 y.2 z.2 z.1
theorem fin1 : fin S 1065353216 = true := by decide
theorem fin2 : fin S 1073741824 = true := by decide
theorem dotM_fin (v0 v1 v2 w0 w1 w2 : Nat) (c : Int) : fin S (dotM v0 v1 v2 w0 w1 w2 c).2 = true := rnd_fin _ _

end Go.Proofs.YtmbjomjpnfnbkaaGreat
