/-
  The reference's error of a step is a number.
-/
import Derived.Test.YtmbjomjpnfnbkaaP5
set_option linter.unusedSimpArgs false
set_option linter.unusedVariables false
namespace Go.Proofs.Ytmbjomjpnfnbkaa
open Flt

theorem zn0 : zn 0 = 0 := zn_zero fin0 val0
theorem distS_fin {s t : C8} (hs : Fw8 s) (ht : Fw8 t) (hd : Df8 s t) : fin S (distS s t) = true := by
  have w0 : FW (subs s.a0 t.a0) := ⟨subs_lt hs.a0.2 ht.a0.2, hd.a0⟩
  have w1 : FW (subs s.a1 t.a1) := ⟨subs_lt hs.a1.2 ht.a1.2, hd.a1⟩
  have w2 : FW (subs s.b0 t.b0) := ⟨subs_lt hs.b0.2 ht.b0.2, hd.b0⟩
  have w3 : FW (subs s.b1 t.b1) := ⟨subs_lt hs.b1.2 ht.b1.2, hd.b1⟩
  have w4 : FW (subs s.c0 t.c0) := ⟨subs_lt hs.c0.2 ht.c0.2, hd.c0⟩
  have w5 : FW (subs s.c1 t.c1) := ⟨subs_lt hs.c1.2 ht.c1.2, hd.c1⟩
  have w6 : FW (subs s.d0 t.d0) := ⟨subs_lt hs.d0.2 ht.d0.2, hd.d0⟩
  have w7 : FW (subs s.d1 t.d1) := ⟨subs_lt hs.d1.2 ht.d1.2, hd.d1⟩
  exact (upS_is (upS_is (upS_is (upS_is (upS_is (upS_is (upS_is (upS_is Is.zero (szS_is w0)) (szS_is w1)) (szS_is w2)) (szS_is w3)) (szS_is w4)) (szS_is w5)) (szS_is w6)) (szS_is w7)).fin
theorem errS_fin {x y z h : Nat} (hx : fin S x = true) (hy : fin S y = true) (hz : fin S z = true) (hh : fin S h = true) : fin S (errS x y z h).2 = true := by
  obtain ⟨la, ea⟩ := stepS_lw hx hy hz hh
  obtain ⟨lf, ef⟩ := stepS_lw hx hy hz (half_fin hh)
  have hp := (product_law lf lf (by decide) (by decide)).2
  have hd := (dist_law (k := 8) (la.mono (by decide)) hp (by decide) (by decide)).2
  have := distS_fin la.fw hp.fw hd
  unfold errS
  simp only
  split
  · exact fin0
  · split
    · exact fin0
    · exact this
end Go.Proofs.Ytmbjomjpnfnbkaa
