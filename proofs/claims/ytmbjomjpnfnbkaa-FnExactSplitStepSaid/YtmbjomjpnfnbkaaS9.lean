/-
  The law FnExactSplitStep answers true at every field and every step: the program's split step is the reference's. No conditions.
-/
import Derived.Test.YtmbjomjpnfnbkaaA15
import Derived.Test.YtmbjomjpnfnbkaaD12
import Derived.Test.YtmbjomjpnfnbkaaL0
import Derived.ProofKit
set_option linter.unusedSimpArgs false
set_option linter.unusedVariables false
namespace Go.Proofs.Ytmbjomjpnfnbkaa
open Go.RowKit Go.ChangeShapes Go.WideShapes Flt

theorem Nm.zn {x : Nat} (h : fin S x = true) : Nm (zn x) := ⟨zn_fin h, zn_zn x⟩
theorem Nm.zero : Nm 0 := ⟨fin0, by unfold Flt.zn; split <;> rfl⟩

/-- The parts of a table are numbers without a signed zero. -/
def Nmc (t : C8) : Prop := Nm8 t.a0 t.a1 t.b0 t.b1 t.c0 t.c1 t.d0 t.d1
theorem Nmc.bad (c : Int) : Nmc (bad8 c) := ⟨Nm.zero, Nm.zero, Nm.zero, Nm.zero, Nm.zero, Nm.zero, Nm.zero, Nm.zero⟩
theorem nmc_of {k : Int} {t : C8} (h : Lw8 k t) : Nmc (nz t) :=
  ⟨.zn h.a0.2.1, .zn h.a1.2.1, .zn h.b0.2.1, .zn h.b1.2.1, .zn h.c0.2.1, .zn h.c1.2.1, .zn h.d0.2.1, .zn h.d1.2.1⟩
theorem splitR_eq {x y z h : Nat} (hx : x < 2 ^ 32) (hy : y < 2 ^ 32) (hz : z < 2 ^ 32) (hh : h < 2 ^ 32) : splitR x y z h = nz (splitW x y z h) ∧ Nmc (nz (splitW x y z h)) := by
  unfold splitR splitW
  cases hf : isFin4 x y z h with
  | false => rw [if_neg (by simp), if_neg (by simp), nz_bad]; exact ⟨rfl, Nmc.bad 1⟩
  | true =>
    rw [if_pos rfl, if_pos rfl]
    unfold isFin4 at hf
    simp only [Bool.and_eq_true] at hf
    obtain ⟨e, l⟩ := split_law ⟨hx, hf.1.1.1⟩ ⟨hy, hf.1.1.2⟩ ⟨hz, hf.1.2⟩ ⟨hh, hf.2⟩
    refine ⟨?_, nmc_of l⟩
    rw [e]
    unfold toldC
    split
    · rfl
    · rename_i hc
      have hS : splitS x y z h = bad8 3 := by
        unfold splitS at hc ⊢
        simp only at hc ⊢
        split
        · rfl
        · rename_i hn
          rw [if_neg hn] at hc
          exact absurd rfl hc
      rw [hS, nz_bad]; rfl

set_option maxHeartbeats 1000000 in
theorem law_c (x y z h : Nat) (w : World) (hx : x < 2 ^ 32) (hy : y < 2 ^ 32) (hz : z < 2 ^ 32) (hh : h < 2 ^ 32) :
    Calls Try.prog 8 #[V3 x y z, .float .f32 h] w fun e w' => e = .returned (.bool true) ∧ New w w' := by
  have c1 := fun w => specSplitStep_c x y z h w
  have c2 := fun w => splitStep_c x y z h w hx hy hz hh
  obtain ⟨he, hn⟩ := splitR_eq hx hy hz hh
  rw [he] at c2
  clear he
  generalize nz (splitW x y z h) = R at *
  obtain ⟨c, a0, a1, b0, b1, c0, c1', d0, d1⟩ := R
  have c3 := fun w => eqTurn_c a0 a1 b0 b1 c0 c1' d0 d1 w hn
  clear hn hx hy hz hh
  go_enter Try.func8, Try.ntmps8
  go_wp2_with fail
  refine (toVector_c x y z _).mono ?_; rintro e w1 ⟨rfl, hN1⟩
  obtain ⟨l1, l2, l3⟩ := hN1.laws
  go_wp2_with fail
  refine (c1 _).mono ?_; rintro e w2 ⟨rfl, hN2⟩
  obtain ⟨k1, k2, k3⟩ := (hN1.trans hN2).laws
  go_wp2_with fail
  refine (toVector_c x y z _).mono ?_; rintro e w3 ⟨rfl, hN3⟩
  obtain ⟨j1, j2, j3⟩ := hN3.laws
  go_wp2_with fail
  refine (c2 _).mono ?_; rintro e w4 ⟨rfl, hN4⟩
  obtain ⟨i1, i2, i3⟩ := (hN3.trans hN4).laws
  go_wp2_with fail
  refine (c3 _).mono ?_; rintro e w5 ⟨rfl, hN5⟩
  go_wp2
  go_ret
  refine ⟨rfl, ?_⟩
  refine New.trans ?_ hN5
  refine New.alloc ?_ _
  refine New.trans ?_ hN4
  refine New.trans ?_ hN3
  refine New.alloc ?_ _
  refine New.trans ?_ hN2
  refine New.trans ?_ hN1
  exact (New.refl w).alloc _

set_option maxRecDepth 100000 in
theorem contract (H : Type) (enc : TypeId × Value → H) (W : World) (base : Nat) (args : Array Value) (ds gs : List (DataW H)) (before : List MemPlace)
    (hval : ∀ (j : Nat) t v, Try.f8.params[j]? = some t → args[j]? = some v → Value.okWide Try.prog W .any base t v)
    (hW : DataW.Whole enc Try.prog Try.f8.params.toList Rows.fnExactSplitStepSpec.vars false W args.toList ds gs before) :
    Calls Try.prog 8 args W fun e W' => ∃ v, e = .returned v ∧ Rows.fnExactSplitStepSpec.post enc Try.prog Try.f8 false true false false W args v W' := by
  have hW' := hW
  obtain ⟨p, q, hA0, hV, rfl, hfz, hnd⟩ := hW
  have hA : DataW.TrodAll enc Try.prog W 0 (fun _ => true) true Try.f8.params.toList args.toList ds p := hA0
  rw [Try.params8] at hA hval
  obtain ⟨v0, v1, d0, d1, p0, p1, rfl, rfl, rfl, h0, h1⟩ := trodAll_two hA
  obtain ⟨rfl, rfl⟩ := trodVars_none hV
  have q0 : (#[35, 34] : Array TypeId)[0]? = some 35 := rfl
  have q1 : (#[v0, v1] : Array Value)[0]? = some v0 := rfl
  have hv0 := hval 0 35 v0 q0 q1
  obtain ⟨x, y, z, rfl, rfl, hx, hy, hz⟩ := open_v3' (P := Try.prog) hu32 hu3 hc3 hc1 hv0 h0
  obtain ⟨b, rfl, rfl, rfl, wb⟩ := open_float hu32 (hval 1 34 v1 rfl rfl) h1
  have hb : b < 2 ^ 32 := by simpa [Lit.wf] using wb
  clear hA0
  simp only [List.append_nil] at hW'
  refine (law_c x y z b W hx hy hz hb).mono fun e W' ⟨he, hN⟩ => ?_
  subst he
  have hargs : ∀ sp : Nat → Bool, (∀ p ∈ ([] : List MemPlace), sp p.block = true) → DataW.TrodAll enc Try.prog W' 0 sp true [35, 34] [V3 x y z, .float .f32 b] [d0, .lit (.float .f32 b)] [] := fun sp _ => by
    have t0 := WideElems.Trod_stays (sp' := sp) (W' := W') laidOut (by kernel_rfl) (of_decide_eq_true (by kernel_rfl)) h0 (fun x hx => nomatch hx) (fun x hx => nomatch hx)
    exact trodAll_mk2 t0 (shut_float hu32 wb)
  exact ⟨_, rfl, post_new (pa := []) (pv := []) hW' (fun _ _ _ => trodAll_mk1 (shut_bool Try.underlying4 _)) hargs (fun _ _ => rfl) rfl hN (ok_one (by kernel_rfl) rfl (okWide_bool_mk Try.underlying4 _))⟩

set_option maxRecDepth 100000 in
theorem lifted (os : Os) (started : os.Started) (H : Type) (enc : TypeId × Value → H) :
    ReturnsInHanded {} Try.checked os 8 .any (Rows.fnExactSplitStepSpec.pre6 enc Try.prog Try.f8 Rows.fnExactSplitStepRow.domain false) (Rows.fnExactSplitStepSpec.post enc Try.prog Try.f8 false true false false) := by
  refine returnsInHanded_of_change (C := Try.checked) own started (by kernel_rfl) Try.func8
    (ChangeSpec.witness6 (enc := enc) (C := Try.checked) false ⟨#[], #[V3 0 0 0, .float .f32 0], []⟩ 8 (by kernel_rfl) (by kernel_rfl) (by kernel_rfl) (by kernel_rfl)) ?_
  intro W base args ds gs before hval hW _ _
  exact contract H enc W base args ds gs before hval hW

theorem proved : Rows.FnExactSplitStepSaid :=
  OpenClaim.holds_of_wide 8 Try.f8 rfl rfl rfl rfl rfl rfl rfl ⟨rfl, rfl, rfl, rfl, rfl⟩ rfl rfl rfl rfl rfl (by kernel_rfl) Try.func8 (by kernel_rfl)
    (of_decide_eq_true (by kernel_rfl)) (by unfold Func.isWrapper; first | (rw [if_pos (by decide +kernel)]; kernel_rfl) | (rw [if_neg (by decide +kernel)]; exact ⟨rfl, rfl⟩))
    (fun os started H enc _ => lifted os started H enc)
end Go.Proofs.Ytmbjomjpnfnbkaa
