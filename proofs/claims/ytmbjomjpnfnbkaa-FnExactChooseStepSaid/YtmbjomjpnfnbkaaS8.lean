/-
  The law FnExactChooseStep answers true at every field, every step and every distance: the program's choice of a step is the reference's. No conditions.
-/
import Derived.Test.YtmbjomjpnfnbkaaA14
import Derived.Test.YtmbjomjpnfnbkaaD10
import Derived.Test.YtmbjomjpnfnbkaaP7
import Derived.Test.YtmbjomjpnfnbkaaE1
import Derived.Test.YtmbjomjpnfnbkaaL0
import Derived.ProofKit
set_option linter.unusedSimpArgs false
set_option linter.unusedVariables false
namespace Go.Proofs.Ytmbjomjpnfnbkaa
open Go.RowKit Go.ChangeShapes Go.WideShapes Flt

theorem chR_eq {x y z h e : Nat} (hx : x < 2 ^ 32) (hy : y < 2 ^ 32) (hz : z < 2 ^ 32) (hh : h < 2 ^ 32) : chR x y z h e = ((chW x y z h e).1, zn (chW x y z h e).2) := by
  unfold chR chW
  cases hf : isFin5 x y z h e with
  | false => rw [if_neg (by simp), if_neg (by simp)]; simp only [zn0]
  | true =>
    rw [if_pos rfl, if_pos rfl]
    split
    · simp only [zn0]
    · unfold isFin5 isFin4 at hf
      simp only [Bool.and_eq_true] at hf
      exact choose_law ⟨hx, hf.1.1.1.1⟩ ⟨hy, hf.1.1.1.2⟩ ⟨hz, hf.1.1.2⟩ hf.2 (fun k hk => errS_fin hf.1.1.1.1 hf.1.1.1.2 hf.1.1.2 hk.2) 21 h ⟨hh, hf.1.2⟩
theorem chS_fin {x y z e : Nat} : ∀ (n h : Nat), FW h → fin S (chS x y z e n h).2 = true
  | 0, h, hh => fin0
  | n + 1, h, hh => by
    unfold chS
    split
    · exact fin0
    · split
      · exact hh.2
      · exact chS_fin n _ ⟨divs_lt hh.2 fin_2 (by rw [val2]; decide), half_fin hh.2⟩
theorem chW_fin {x y z h e : Nat} (hh : h < 2 ^ 32) : fin S (chW x y z h e).2 = true := by
  unfold chW
  cases hf : isFin5 x y z h e with
  | false => rw [if_neg (by simp)]; exact fin0
  | true =>
    rw [if_pos rfl]
    split
    · exact fin0
    · unfold isFin5 isFin4 at hf
      simp only [Bool.and_eq_true] at hf
      exact chS_fin 21 h ⟨hh, hf.1.2⟩

set_option maxHeartbeats 1000000 in
theorem law_c (x y z h e : Nat) (w : World) (hx : x < 2 ^ 32) (hy : y < 2 ^ 32) (hz : z < 2 ^ 32) (hh : h < 2 ^ 32) :
    Calls Try.prog 11 #[V3 x y z, .float .f32 h, .float .f32 e] w fun e' w' => e' = .returned (.bool true) ∧ New w w' := by
  have c1 := fun w => specChooseStep_c x y z h e w hx hy hz hh
  have c2 := fun w => chooseStep_c x y z h e w hx hy hz hh
  have hn : fin S (zn (chW x y z h e).2) = true := zn_fin (chW_fin hh)
  have hm := zn_zn (chW x y z h e).2
  rw [chR_eq hx hy hz hh] at c2
  generalize zn (chW x y z h e).2 = v at *
  generalize (chW x y z h e).1 = r at *
  have k1 := conv_run (nn_of_fin hn)
  have c3 := fun w => sameFloat_c v w hn hm
  clear hn hm hx hy hz hh
  go_enter Try.func11, Try.ntmps11
  go_wp2_with fail
  refine (toVector_c x y z _).mono ?_; rintro e' w1 ⟨rfl, hN1⟩
  obtain ⟨l1, l2, l3⟩ := hN1.laws
  go_wp2_with fail
  refine (c1 _).mono ?_; rintro e' w2 ⟨rfl, hN2⟩
  obtain ⟨i1, i2, i3⟩ := (hN1.trans hN2).laws
  go_wp2_with fail
  refine (toVector_c x y z _).mono ?_; rintro e' w3 ⟨rfl, hN3⟩
  go_wp2_with fail
  refine (c2 _).mono ?_; rintro e' w4 ⟨rfl, hN4⟩
  go_wp2_with fail
  refine (c3 _).mono ?_; rintro e' w5 ⟨rfl, rfl⟩
  go_wp2
  go_ret
  refine ⟨rfl, ?_⟩
  exact ((((New.refl w).alloc _).trans hN1).trans hN2).trans (hN3.trans hN4)

set_option maxRecDepth 100000 in
theorem contract (H : Type) (enc : TypeId × Value → H) (W : World) (base : Nat) (args : Array Value) (ds gs : List (DataW H)) (before : List MemPlace)
    (hval : ∀ (j : Nat) t v, Try.f11.params[j]? = some t → args[j]? = some v → Value.okWide Try.prog W .any base t v)
    (hW : DataW.Whole enc Try.prog Try.f11.params.toList Rows.fnExactChooseStepSpec.vars false W args.toList ds gs before) :
    Calls Try.prog 11 args W fun e W' => ∃ v, e = .returned v ∧ Rows.fnExactChooseStepSpec.post enc Try.prog Try.f11 false true false false W args v W' := by
  have hW' := hW
  obtain ⟨p, q, hA0, hV, rfl, hfz, hnd⟩ := hW
  have hA : DataW.TrodAll enc Try.prog W 0 (fun _ => true) true Try.f11.params.toList args.toList ds p := hA0
  rw [Try.params11] at hA hval
  obtain ⟨v0, v1, v2, d0, d1, d2, p0, p1, p2, rfl, rfl, rfl, h0, h1, h2⟩ := trodAll_three hA
  obtain ⟨rfl, rfl⟩ := trodVars_none hV
  have q0 : (#[35, 34, 34] : Array TypeId)[0]? = some 35 := rfl
  have q1 : (#[v0, v1, v2] : Array Value)[0]? = some v0 := rfl
  have hv0 := hval 0 35 v0 q0 q1
  obtain ⟨x, y, z, rfl, rfl, hx, hy, hz⟩ := open_v3' (P := Try.prog) hu32 hu3 hc3 hc1 hv0 h0
  obtain ⟨b, rfl, rfl, rfl, wb⟩ := open_float hu32 (hval 1 34 v1 rfl rfl) h1
  have hb : b < 2 ^ 32 := by simpa [Lit.wf] using wb
  obtain ⟨b2, rfl, rfl, rfl, wb2⟩ := open_float hu32 (hval 2 34 v2 rfl rfl) h2
  clear hA0
  simp only [List.append_nil] at hW'
  refine (law_c x y z b b2 W hx hy hz hb).mono fun e W' ⟨he, hN⟩ => ?_
  subst he
  have hargs : ∀ sp : Nat → Bool, (∀ p ∈ ([] : List MemPlace), sp p.block = true) → DataW.TrodAll enc Try.prog W' 0 sp true [35, 34, 34] [V3 x y z, .float .f32 b, .float .f32 b2] [d0, .lit (.float .f32 b), .lit (.float .f32 b2)] [] := fun sp _ => by
    have t0 := WideElems.Trod_stays (sp' := sp) (W' := W') laidOut (by kernel_rfl) (of_decide_eq_true (by kernel_rfl)) h0 (fun x hx => nomatch hx) (fun x hx => nomatch hx)
    exact trodAll_mk3 t0 (shut_float hu32 wb) (shut_float hu32 wb2)
  exact ⟨_, rfl, post_new (pa := []) (pv := []) hW' (fun _ _ _ => trodAll_mk1 (shut_bool Try.underlying4 _)) hargs (fun _ _ => rfl) rfl hN (ok_one (by kernel_rfl) rfl (okWide_bool_mk Try.underlying4 _))⟩

set_option maxRecDepth 100000 in
theorem lifted (os : Os) (started : os.Started) (H : Type) (enc : TypeId × Value → H) :
    ReturnsInHanded {} Try.checked os 11 .any (Rows.fnExactChooseStepSpec.pre6 enc Try.prog Try.f11 Rows.fnExactChooseStepRow.domain false) (Rows.fnExactChooseStepSpec.post enc Try.prog Try.f11 false true false false) := by
  refine returnsInHanded_of_change (C := Try.checked) own started (by kernel_rfl) Try.func11
    (ChangeSpec.witness6 (enc := enc) (C := Try.checked) false ⟨#[], #[V3 0 0 0, .float .f32 0, .float .f32 0], []⟩ 8 (by kernel_rfl) (by kernel_rfl) (by kernel_rfl) (by kernel_rfl)) ?_
  intro W base args ds gs before hval hW _ _
  exact contract H enc W base args ds gs before hval hW

theorem proved : Rows.FnExactChooseStepSaid :=
  OpenClaim.holds_of_wide 11 Try.f11 rfl rfl rfl rfl rfl rfl rfl ⟨rfl, rfl, rfl, rfl, rfl⟩ rfl rfl rfl rfl rfl (by kernel_rfl) Try.func11 (by kernel_rfl)
    (of_decide_eq_true (by kernel_rfl)) (by unfold Func.isWrapper; first | (rw [if_pos (by decide +kernel)]; kernel_rfl) | (rw [if_neg (by decide +kernel)]; exact ⟨rfl, rfl⟩))
    (fun os started H enc _ => lifted os started H enc)
end Go.Proofs.Ytmbjomjpnfnbkaa
