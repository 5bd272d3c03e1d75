/-
  The law of the mixture of a vector: what the program computes is what the reference does.
-/
import Derived.Test.YtmbjomjpnfnbkaaP4
set_option linter.unusedSimpArgs false
set_option linter.unusedVariables false
namespace Go.Proofs.Ytmbjomjpnfnbkaa
open Flt

/-- 'x >= 0', as the model asks it. -/
def geB (x : Nat) : Bool := match Go.FloatKind.f32.format.order x 0 with
  | some .gt => true
  | some .eq => true
  | _ => false
theorem geB_iff {x : Nat} (hx : fin S x = true) : geB x = decide (0 ≤ val S x) := by
  have e : Go.FloatKind.f32.format.order x 0 = S.order x 0 := rfl
  unfold geB
  rw [e, order_fin S hx fin0, val0]
  by_cases h1 : val S x < 0
  · rw [if_pos h1]
    have : ¬ 0 ≤ val S x := by grind
    simp [this]
  · by_cases h2 : val S x = 0
    · rw [if_neg h1, if_pos h2]
      have : 0 ≤ val S x := by grind
      simp [this]
    · rw [if_neg h1, if_neg h2]
      have : 0 ≤ val S x := by grind
      simp [this]
theorem geB_zn {x : Nat} (hx : fin S x = true) : geB (zn x) = geB x := by rw [geB_iff (zn_fin hx), geB_iff hx, zn_val hx]

/-- The numbers of the mixture of a vector, bare. -/
def mixA (z : Nat) : Nat := divs (adds 1065353216 z) 1073741824
def mixD (z : Nat) : Nat := divs (subs 1065353216 z) 1073741824
def mixP (x : Nat) : Nat := divs x 1073741824
def tabX (a d p q : Nat) : C8 := ⟨0, a, 0, p, ng q, p, q, d, 0⟩
/-- The reference's mixture, bare. -/
def mixS (x y z : Nat) : C8 := if (geB (mixA z) && geB (mixD z)) = true then tabX (mixA z) (mixD z) (mixP x) (mixP y) else bad8 5
/-- The program's table of a mixture. -/
def turnM (a d p q : Nat) (c : Int) : C8 :=
  let r1 := zM a 0 c
  let r2 := zM p (ng q) r1.1
  let r3 := zM p q r2.1
  let r4 := zM d 0 r3.1
  ⟨r4.1, r1.2.1, r1.2.2, r2.2.1, r2.2.2, r3.2.1, r3.2.2, r4.2.1, r4.2.2⟩

theorem two_ne0 : val S 1073741824 ≠ 0 := by rw [val2]; decide
theorem mixA_FW {z : Nat} (hz : fin S z = true) : FW (mixA z) := ⟨divs_lt (adds1 hz) fin_2 two_ne0, half_fin (adds1 hz)⟩
theorem mixD_FW {z : Nat} (hz : fin S z = true) : FW (mixD z) := ⟨divs_lt (subs1 hz) fin_2 two_ne0, half_fin (subs1 hz)⟩
theorem mixP_FW {x : Nat} (hx : fin S x = true) : FW (mixP x) := ⟨divs_lt hx fin_2 two_ne0, half_fin hx⟩
theorem half_zn {k : Nat} (hk : fin S k = true) : divM (zn k) 1073741824 0 = (0, zn (divs k 1073741824)) := by
  rw [divM_zn hk fin_2, divM_e (Eqv.refl hk) (Eqv.refl fin_2) two_ne0, rnd_g (half_fin hk)]
theorem half_zn' {k : Nat} (hk : fin S k = true) : divM k 1073741824 0 = (0, zn (divs k 1073741824)) := by
  rw [divM_e (Eqv.refl hk) (Eqv.refl fin_2) two_ne0, rnd_g (half_fin hk)]
theorem add1_M {z : Nat} (hz : fin S z = true) : addM 1065353216 z 0 = (0, zn (adds 1065353216 z)) := by
  rw [addM_e (Eqv.refl fin_1) (Eqv.refl hz), rnd_g (adds1 hz)]
theorem sub1_M {z : Nat} (hz : fin S z = true) : subM 1065353216 z 0 = (0, zn (subs 1065353216 z)) := by
  rw [subM_e (Eqv.refl fin_1) (Eqv.refl hz), rnd_g (subs1 hz)]
theorem parted_M {x y : Nat} (hx : fin S x = true) (hy : fin S y = true) : partedM x y 1073741824 0 = (0, zn (mixP x), zn (mixP y)) := by
  unfold partedM mixP; simp only [half_zn' hx, half_zn' hy]

theorem turnM_ne (a d p q : Nat) {c : Int} (h : c ≠ 0) : turnM a d p q c = bad8 c := by
  unfold turnM bad8; simp only [zM_ne _ _ h]
theorem mix_law {x y z : Nat} (hx : fin S x = true) (hy : fin S y = true) (hz : fin S z = true) :
    toldC (turnM (zn (mixA z)) (zn (mixD z)) (zn (mixP x)) (zn (mixP y)) (if (geB (zn (mixA z)) && geB (zn (mixD z))) = true then 0 else 5)) = nz (mixS x y z) := by
  have fa := mixA_FW hz
  have fd := mixD_FW hz
  have fp := mixP_FW hx
  have fq := mixP_FW hy
  rw [geB_zn fa.2, geB_zn fd.2]
  unfold mixS
  split
  · have nq := ng_congr (zn_lt fq.1) fq.1 (Eqv.zn fq.2)
    have e1 : zn (ng (zn (mixP y))) = zn (ng (mixP y)) := zn_eq (ng_lt (zn_lt fq.1)) (ng_lt fq.1) nq
    unfold turnM toldC tabX nz
    simp only [zM_g (zn_fin fa.2) fin0, zM_g (zn_fin fp.2) nq.1, zM_g (zn_fin fp.2) (zn_fin fq.2), zM_g (zn_fin fd.2) fin0, zn_zn, e1, if_true]
  · rw [turnM_ne _ _ _ _ (by decide), nz_bad]; rfl
end Go.Proofs.Ytmbjomjpnfnbkaa
