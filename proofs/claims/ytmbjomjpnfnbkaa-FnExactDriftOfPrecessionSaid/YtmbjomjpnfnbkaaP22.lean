/-
  The powers of a step stay small: the columns of a product of tables.
-/
import Derived.Test.YtmbjomjpnfnbkaaP21
set_option linter.unusedSimpArgs false
set_option linter.unusedVariables false
namespace Go.Proofs.Ytmbjomjpnfnbkaa
open Flt

def n1 (t : C8) : Rat := val S t.a0 * val S t.a0 + val S t.a1 * val S t.a1 + val S t.c0 * val S t.c0 + val S t.c1 * val S t.c1
def n2 (t : C8) : Rat := val S t.b0 * val S t.b0 + val S t.b1 * val S t.b1 + val S t.d0 * val S t.d0 + val S t.d1 * val S t.d1
def nS (p x y z : Nat) : Rat := val S p * val S p + (val S x * val S x + val S y * val S y + val S z * val S z)

/-- A column of a product with a step. -/
theorem col_err {p x y z v0 v1 u0 u1 : Nat} {j : Int} {B : Rat} (lp : Lw 3 p) (lx : Lw 3 x) (ly : Lw 3 y) (lz : Lw 3 z) (l0 : Lw j v0) (l1 : Lw j v1) (l2 : Lw j u0) (l3 : Lw j u1)
    (h3 : -149 ≤ 3 + j) (h4 : 3 + j ≤ 125) (hN : nS p x y z ≤ 5 / 4) (hB : 1 ≤ B) (hn : val S v0 * val S v0 + val S v1 * val S v1 + val S u0 * val S u0 + val S u1 * val S u1 ≤ B) :
    let r := inTableS p (ng z) v0 v1 (ng y) (ng x) u0 u1
    let q := inTableS y (ng x) v0 v1 p z u0 u1
    val S r.1 * val S r.1 + val S r.2 * val S r.2 + val S q.1 * val S q.1 + val S q.2 * val S q.2 ≤ 13 / 10 * B := by
  have nz := lz.ng
  have ny := ly.ng
  have nx := lx.ng
  have nnz := nz.ng
  have nnx := nx.ng
  have vz : val S (ng z) = - val S z := (ng_fin lz.1 lz.2.1).2
  have vy : val S (ng y) = - val S y := (ng_fin ly.1 ly.2.1).2
  have vx : val S (ng x) = - val S x := (ng_fin lx.1 lx.2.1).2
  have vnz : val S (ng (ng z)) = val S z := by
    have := (ng_fin nz.1 nz.2.1).2
    have e : val S (ng (ng z)) = - val S (ng z) := this
    rw [e, vz]; grind
  have vnx : val S (ng (ng x)) = val S x := by
    have := (ng_fin nx.1 nx.2.1).2
    have e : val S (ng (ng x)) = - val S (ng x) := this
    rw [e, vx]; grind
  have hk : 3 + j ≤ 3 + j := Int.le_refl _
  have h5 : 3 + j ≤ 126 := by omega
  have B1 := bothS_lw lp l0 nnz l1 hk h3 h5
  have B2 := bothS_lw ny l2 nnx l3 hk h3 h5
  have B3 := bothS_lw lp l1 nz l0 hk h3 h5
  have B4 := bothS_lw ny l3 nx l2 hk h3 h5
  have B5 := bothS_lw ly l0 nnx l1 hk h3 h5
  have B6 := bothS_lw lp l2 nz l3 hk h3 h5
  have B7 := bothS_lw ly l1 nx l0 hk h3 h5
  have B8 := bothS_lw lp l3 lz l2 hk h3 h5
  have A1 := adds_lw B1 B2 (by omega) (by omega)
  have A2 := adds_lw B3 B4 (by omega) (by omega)
  have nz' := nz.ng
  have B6' : Lw (3 + j + 1) (bothS p u0 (ng z) u1) := B6
  have A3 := adds_lw B5 B6 (by omega) (by omega)
  have A4 := adds_lw B7 B8 (by omega) (by omega)
  have E1 := part_err lp.2.1 l0.2.1 nnz.2.1 l1.2.1 ny.2.1 l2.2.1 nnx.2.1 l3.2.1 B1.2.1 B2.2.1 A1.2.1
  have E2 := part_err lp.2.1 l1.2.1 nz.2.1 l0.2.1 ny.2.1 l3.2.1 nx.2.1 l2.2.1 B3.2.1 B4.2.1 A2.2.1
  have E3 := part_err ly.2.1 l0.2.1 nnx.2.1 l1.2.1 lp.2.1 l2.2.1 nz.2.1 l3.2.1 B5.2.1 B6.2.1 A3.2.1
  have E4 := part_err ly.2.1 l1.2.1 nx.2.1 l0.2.1 lp.2.1 l3.2.1 lz.2.1 l2.2.1 B7.2.1 B8.2.1 A4.2.1
  change ab (val S (adds (bothS p v0 (ng (ng z)) v1) (bothS (ng y) u0 (ng (ng x)) u1)) - (val S p * val S v0 + val S (ng (ng z)) * val S v1 + (val S (ng y) * val S u0 + val S (ng (ng x)) * val S u1))) ≤ (ab (val S p) * ab (val S v0) + ab (val S (ng (ng z))) * ab (val S v1) + (ab (val S (ng y)) * ab (val S u0) + ab (val S (ng (ng x))) * ab (val S u1))) * (7 / 1048576) + 16 * tau at E1
  change ab (val S (adds (bothS p v1 (ng z) v0) (bothS (ng y) u1 (ng x) u0)) - (val S p * val S v1 + val S (ng z) * val S v0 + (val S (ng y) * val S u1 + val S (ng x) * val S u0))) ≤ (ab (val S p) * ab (val S v1) + ab (val S (ng z)) * ab (val S v0) + (ab (val S (ng y)) * ab (val S u1) + ab (val S (ng x)) * ab (val S u0))) * (7 / 1048576) + 16 * tau at E2
  change ab (val S (adds (bothS y v0 (ng (ng x)) v1) (bothS p u0 (ng z) u1)) - (val S y * val S v0 + val S (ng (ng x)) * val S v1 + (val S p * val S u0 + val S (ng z) * val S u1))) ≤ (ab (val S y) * ab (val S v0) + ab (val S (ng (ng x))) * ab (val S v1) + (ab (val S p) * ab (val S u0) + ab (val S (ng z)) * ab (val S u1))) * (7 / 1048576) + 16 * tau at E3
  change ab (val S (adds (bothS y v1 (ng x) v0) (bothS p u1 z u0)) - (val S y * val S v1 + val S (ng x) * val S v0 + (val S p * val S u1 + val S z * val S u0))) ≤ (ab (val S y) * ab (val S v1) + ab (val S (ng x)) * ab (val S v0) + (ab (val S p) * ab (val S u1) + ab (val S z) * ab (val S u0))) * (7 / 1048576) + 16 * tau at E4
  rw [vnz, vnx, vy, ab_neg] at E1
  rw [vz, vx, vy, ab_neg, ab_neg, ab_neg] at E2
  rw [vnx, vz, ab_neg] at E3
  rw [vx, ab_neg] at E4
  exact col_up (Rat.le_of_lt tau_pos) tau_small hN hn hB E1 E2 E3 E4
end Go.Proofs.Ytmbjomjpnfnbkaa
