/-
  The law FnExactErrorOfStep answers true at every field and every step: the program's error of a step is the reference's. No conditions.
-/
import Derived.Test.YtmbjomjpnfnbkaaA13
import Derived.Test.YtmbjomjpnfnbkaaD8
import Derived.Test.YtmbjomjpnfnbkaaE1
import Derived.Test.YtmbjomjpnfnbkaaL0
import Derived.ProofKit
set_option linter.unusedSimpArgs false
set_option linter.unusedVariables false
namespace Go.Proofs.Ytmbjomjpnfnbkaa
open Go.RowKit Go.ChangeShapes Go.WideShapes Flt

theorem zn0 : zn 0 = 0 := zn_zero fin0 val0
theorem errR_eq {x y z h : Nat} (hx : x < 2 ^ 32) (hy : y < 2 ^ 32) (hz : z < 2 ^ 32) (hh : h < 2 ^ 32) : errR x y z h = ((errW x y z h).1, zn (errW x y z h).2) := by
  unfold errR errW
  cases hf : isFin4 x y z h with
  | false => rw [if_neg (by simp), if_neg (by simp)]; simp only [zn0]
  | true =>
    rw [if_pos rfl, if_pos rfl]
    unfold isFin4 at hf
    simp only [Bool.and_eq_true] at hf
    obtain ⟨e1, e2, e3⟩ := err_law (x := x) (y := y) (z := z) (h := h) ⟨hx, hf.1.1.1⟩ ⟨hy, hf.1.1.2⟩ ⟨hz, hf.1.2⟩ ⟨hh, hf.2⟩
    unfold toldN
    by_cases h0 : (errM x y z h 0).1 = 0
    · rw [if_pos h0, e1, ← e2 h0]
    · rw [if_neg h0, e1, e3 h0, zn0]
theorem distS_fin {s t : C8} (hs : Fw8 s) (ht : Fw8 t) (hd : Df8 s t) : fin S (distS s t) = true := by
  have w0 : FW (subs s.a0 t.a0) := ⟨subs_lt hs.a0.2 ht.a0.2, hd.a0⟩
  have w1 : FW (subs s.a1 t.a1) := ⟨subs_lt hs.a1.2 ht.a1.2, hd.a1⟩
  have w2 : FW (subs s.b0 t.b0) := ⟨subs_lt hs.b0.2 ht.b0.2, hd.b0⟩
  have w3 : FW (subs s.b1 t.b1) := ⟨subs_lt hs.b1.2 ht.b1.2, hd.b1⟩
  have w4 : FW (subs s.c0 t.c0) := ⟨subs_lt hs.c0.2 ht.c0.2, hd.c0⟩
  have w5 : FW (subs s.c1 t.c1) := ⟨subs_lt hs.c1.2 ht.c1.2, hd.c1⟩
  have w6 : FW (subs s.d0 t.d0) := ⟨subs_lt hs.d0.2 ht.d0.2, hd.d0⟩
  have w7 : FW (subs s.d1 t.d1) := ⟨subs_lt hs.d1.2 ht.d1.2, hd.d1⟩
  exact (upS_is (upS_is (upS_is (upS_is (upS_is (upS_is (upS_is (upS_is Is.zero (szS_is w0)) (szS_is w1)) (szS_is w2)) (szS_is w3)) (szS_is w4)) (szS_is w5)) (szS_is w6)) (szS_is w7)).fin
theorem errS_fin {x y z h : Nat} (hx : fin S x = true) (hy : fin S y = true) (hz : fin S z = true) (hh : fin S h = true) : fin S (errS x y z h).2 = true := by
  obtain ⟨la, ea⟩ := stepS_lw hx hy hz hh
  obtain ⟨lf, ef⟩ := stepS_lw hx hy hz (half_fin hh)
  have hp := (product_law lf lf (by decide) (by decide)).2
  have hd := (dist_law (k := 8) (la.mono (by decide)) hp (by decide) (by decide)).2
  have := distS_fin la.fw hp.fw hd
  unfold errS
  simp only
  split
  · exact fin0
  · split
    · exact fin0
    · exact this
theorem errW_fin (x y z h : Nat) : fin S (errW x y z h).2 = true := by
  unfold errW
  cases hf : isFin4 x y z h with
  | false => rw [if_neg (by simp)]; exact fin0
  | true =>
    rw [if_pos rfl]
    unfold isFin4 at hf
    simp only [Bool.and_eq_true] at hf
    exact errS_fin hf.1.1.1 hf.1.1.2 hf.1.2 hf.2

set_option maxHeartbeats 1000000 in
theorem law_c (x y z h : Nat) (w : World) (hx : x < 2 ^ 32) (hy : y < 2 ^ 32) (hz : z < 2 ^ 32) (hh : h < 2 ^ 32) :
    Calls Try.prog 9 #[V3 x y z, .float .f32 h] w fun e w' => e = .returned (.bool true) ∧ New w w' := by
  have c1 := fun w => specErrorOfStep_c x y z h w
  have c2 := fun w => errorOfStep_c x y z h w hx hy hz hh
  have hn : fin S (zn (errW x y z h).2) = true := zn_fin (errW_fin x y z h)
  have hm := zn_zn (errW x y z h).2
  rw [errR_eq hx hy hz hh] at c2
  generalize zn (errW x y z h).2 = v at *
  generalize (errW x y z h).1 = r at *
  have k1 := conv_run (nn_of_fin hn)
  have c3 := fun w => sameFloat_c v w hn hm
  clear hn hm hx hy hz hh
  go_enter Try.func9, Try.ntmps9
  go_wp2_with fail
  refine (toVector_c x y z _).mono ?_; rintro e w1 ⟨rfl, hN1⟩
  obtain ⟨l1, l2, l3⟩ := hN1.laws
  go_wp2_with fail
  refine (c1 _).mono ?_; rintro e w2 ⟨rfl, hN2⟩
  obtain ⟨i1, i2, i3⟩ := (hN1.trans hN2).laws
  go_wp2_with fail
  refine (toVector_c x y z _).mono ?_; rintro e w3 ⟨rfl, hN3⟩
  go_wp2_with fail
  refine (c2 _).mono ?_; rintro e w4 ⟨rfl, hN4⟩
  go_wp2_with fail
  refine (c3 _).mono ?_; rintro e w5 ⟨rfl, rfl⟩
  go_wp2
  go_ret
  refine ⟨rfl, ?_⟩
  exact ((((New.refl w).alloc _).trans hN1).trans hN2).trans (hN3.trans hN4)

set_option maxRecDepth 100000 in
theorem contract (H : Type) (enc : TypeId × Value → H) (W : World) (base : Nat) (args : Array Value) (ds gs : List (DataW H)) (before : List MemPlace)
    (hval : ∀ (j : Nat) t v, Try.f9.params[j]? = some t → args[j]? = some v → Value.okWide Try.prog W .any base t v)
    (hW : DataW.Whole enc Try.prog Try.f9.params.toList Rows.fnExactErrorOfStepSpec.vars false W args.toList ds gs before) :
    Calls Try.prog 9 args W fun e W' => ∃ v, e = .returned v ∧ Rows.fnExactErrorOfStepSpec.post enc Try.prog Try.f9 false true false false W args v W' := by
  have hW' := hW
  obtain ⟨p, q, hA0, hV, rfl, hfz, hnd⟩ := hW
  have hA : DataW.TrodAll enc Try.prog W 0 (fun _ => true) true Try.f9.params.toList args.toList ds p := hA0
  rw [Try.params9] at hA hval
  obtain ⟨v0, v1, d0, d1, p0, p1, rfl, rfl, rfl, h0, h1⟩ := trodAll_two hA
  obtain ⟨rfl, rfl⟩ := trodVars_none hV
  have q0 : (#[35, 34] : Array TypeId)[0]? = some 35 := rfl
  have q1 : (#[v0, v1] : Array Value)[0]? = some v0 := rfl
  have hv0 := hval 0 35 v0 q0 q1
  obtain ⟨x, y, z, rfl, rfl, hx, hy, hz⟩ := open_v3' (P := Try.prog) hu32 hu3 hc3 hc1 hv0 h0
  obtain ⟨b, rfl, rfl, rfl, wb⟩ := open_float hu32 (hval 1 34 v1 rfl rfl) h1
  have hb : b < 2 ^ 32 := by simpa [Lit.wf] using wb
  clear hA0
  simp only [List.append_nil] at hW'
  refine (law_c x y z b W hx hy hz hb).mono fun e W' ⟨he, hN⟩ => ?_
  subst he
  have hargs : ∀ sp : Nat → Bool, (∀ p ∈ ([] : List MemPlace), sp p.block = true) → DataW.TrodAll enc Try.prog W' 0 sp true [35, 34] [V3 x y z, .float .f32 b] [d0, .lit (.float .f32 b)] [] := fun sp _ => by
    have t0 := WideElems.Trod_stays (sp' := sp) (W' := W') laidOut (by kernel_rfl) (of_decide_eq_true (by kernel_rfl)) h0 (fun x hx => nomatch hx) (fun x hx => nomatch hx)
    exact trodAll_mk2 t0 (shut_float hu32 wb)
  exact ⟨_, rfl, post_new (pa := []) (pv := []) hW' (fun _ _ _ => trodAll_mk1 (shut_bool Try.underlying4 _)) hargs (fun _ _ => rfl) rfl hN (ok_one (by kernel_rfl) rfl (okWide_bool_mk Try.underlying4 _))⟩

set_option maxRecDepth 100000 in
theorem lifted (os : Os) (started : os.Started) (H : Type) (enc : TypeId × Value → H) :
    ReturnsInHanded {} Try.checked os 9 .any (Rows.fnExactErrorOfStepSpec.pre6 enc Try.prog Try.f9 Rows.fnExactErrorOfStepRow.domain false) (Rows.fnExactErrorOfStepSpec.post enc Try.prog Try.f9 false true false false) := by
  refine returnsInHanded_of_change (C := Try.checked) own started (by kernel_rfl) Try.func9
    (ChangeSpec.witness6 (enc := enc) (C := Try.checked) false ⟨#[], #[V3 0 0 0, .float .f32 0], []⟩ 8 (by kernel_rfl) (by kernel_rfl) (by kernel_rfl) (by kernel_rfl)) ?_
  intro W base args ds gs before hval hW _ _
  exact contract H enc W base args ds gs before hval hW

theorem proved : Rows.FnExactErrorOfStepSaid :=
  OpenClaim.holds_of_wide 9 Try.f9 rfl rfl rfl rfl rfl rfl rfl ⟨rfl, rfl, rfl, rfl, rfl⟩ rfl rfl rfl rfl rfl (by kernel_rfl) Try.func9 (by kernel_rfl)
    (of_decide_eq_true (by kernel_rfl)) (by unfold Func.isWrapper; first | (rw [if_pos (by decide +kernel)]; kernel_rfl) | (rw [if_neg (by decide +kernel)]; exact ⟨rfl, rfl⟩))
    (fun os started H enc _ => lifted os started H enc)
end Go.Proofs.Ytmbjomjpnfnbkaa
