/-
  The law FnExactMixtureOfVector answers true at every vector: the program's mixture of a vector is the reference's. No conditions.
-/
import Derived.Test.YtmbjomjpnfnbkaaA17
import Derived.Test.YtmbjomjpnfnbkaaD13
import Derived.Test.YtmbjomjpnfnbkaaL0
import Derived.ProofKit
set_option linter.unusedSimpArgs false
set_option linter.unusedVariables false
namespace Go.Proofs.Ytmbjomjpnfnbkaa
open Go.RowKit Go.ChangeShapes Go.WideShapes Flt

theorem Nm.zn {x : Nat} (h : fin S x = true) : Nm (zn x) := ⟨zn_fin h, zn_zn x⟩
theorem Nm.zero : Nm 0 := ⟨fin0, by unfold Flt.zn; split <;> rfl⟩

/-- The parts of a table are numbers without a signed zero. -/
def Nmc (t : C8) : Prop := Nm8 t.a0 t.a1 t.b0 t.b1 t.c0 t.c1 t.d0 t.d1
theorem Nmc.bad (c : Int) : Nmc (bad8 c) := ⟨Nm.zero, Nm.zero, Nm.zero, Nm.zero, Nm.zero, Nm.zero, Nm.zero, Nm.zero⟩
theorem mixR_eq {x y z : Nat} (hx : x < 2 ^ 32) (hy : y < 2 ^ 32) (hz : z < 2 ^ 32) : mixR x y z = nz (mixW x y z) ∧ Nmc (nz (mixW x y z)) := by
  unfold mixR mixW
  cases hf : (fin S x && fin S y && fin S z) with
  | false => rw [if_neg (by simp), if_neg (by simp), nz_bad]; exact ⟨rfl, Nmc.bad 1⟩
  | true =>
    rw [if_pos rfl, if_pos rfl]
    simp only [Bool.and_eq_true] at hf
    refine ⟨mix_law hf.1.1 hf.1.2 hf.2, ?_⟩
    unfold mixS
    split
    · have q := mixP_FW hf.1.2
      exact ⟨.zn (mixA_FW hf.2).2, .zn fin0, .zn (mixP_FW hf.1.1).2, .zn q.ng, .zn (mixP_FW hf.1.1).2, .zn q.2, .zn (mixD_FW hf.2).2, .zn fin0⟩
    · rw [nz_bad]; exact Nmc.bad 5

set_option maxHeartbeats 1000000 in
theorem law_c (x y z : Nat) (w : World) (hx : x < 2 ^ 32) (hy : y < 2 ^ 32) (hz : z < 2 ^ 32) :
    Calls Try.prog 4 #[V3 x y z] w fun e w' => e = .returned (.bool true) ∧ New w w' := by
  have c1 := fun w => specMixtureOfVector_c x y z w hx hy hz
  have c2 := fun w => mixtureOfVector_c x y z w hx hy hz
  obtain ⟨he, hn⟩ := mixR_eq hx hy hz
  rw [he] at c2
  clear he
  generalize nz (mixW x y z) = R at *
  obtain ⟨c, a0, a1, b0, b1, c0, c1', d0, d1⟩ := R
  have c3 := fun w => eqTurn_c a0 a1 b0 b1 c0 c1' d0 d1 w hn
  clear hn hx hy hz
  go_enter Try.func4, Try.ntmps4
  go_wp2_with fail
  refine (toVector_c x y z _).mono ?_; rintro e w1 ⟨rfl, hN1⟩
  obtain ⟨l1, l2, l3⟩ := hN1.laws
  go_wp2_with fail
  refine (c1 _).mono ?_; rintro e w2 ⟨rfl, hN2⟩
  obtain ⟨k1, k2, k3⟩ := (hN1.trans hN2).laws
  go_wp2_with fail
  refine (toVector_c x y z _).mono ?_; rintro e w3 ⟨rfl, hN3⟩
  obtain ⟨j1, j2, j3⟩ := hN3.laws
  go_wp2_with fail
  refine (c2 _).mono ?_; rintro e w4 ⟨rfl, hN4⟩
  obtain ⟨i1, i2, i3⟩ := (hN3.trans hN4).laws
  go_wp2_with fail
  refine (c3 _).mono ?_; rintro e w5 ⟨rfl, hN5⟩
  go_wp2
  go_ret
  refine ⟨rfl, ?_⟩
  refine New.trans ?_ hN5
  refine New.alloc ?_ _
  refine New.trans ?_ hN4
  refine New.trans ?_ hN3
  refine New.alloc ?_ _
  refine New.trans ?_ hN2
  refine New.trans ?_ hN1
  exact (New.refl w).alloc _

set_option maxRecDepth 100000 in
theorem contract (H : Type) (enc : TypeId × Value → H) (W : World) (base : Nat) (args : Array Value) (ds gs : List (DataW H)) (before : List MemPlace)
    (hval : ∀ (j : Nat) t v, Try.f4.params[j]? = some t → args[j]? = some v → Value.okWide Try.prog W .any base t v)
    (hW : DataW.Whole enc Try.prog Try.f4.params.toList Rows.fnExactMixtureOfVectorSpec.vars false W args.toList ds gs before) :
    Calls Try.prog 4 args W fun e W' => ∃ v, e = .returned v ∧ Rows.fnExactMixtureOfVectorSpec.post enc Try.prog Try.f4 false true false false W args v W' := by
  have hW' := hW
  obtain ⟨p, q, hA0, hV, rfl, hfz, hnd⟩ := hW
  have hA : DataW.TrodAll enc Try.prog W 0 (fun _ => true) true Try.f4.params.toList args.toList ds p := hA0
  rw [Try.params4] at hA hval
  obtain ⟨v0, d0, rfl, rfl, h0⟩ := trodAll_one hA
  obtain ⟨rfl, rfl⟩ := trodVars_none hV
  have q0 : (#[35] : Array TypeId)[0]? = some 35 := rfl
  have q1 : (#[v0] : Array Value)[0]? = some v0 := rfl
  have hv0 := hval 0 35 v0 q0 q1
  obtain ⟨x, y, z, rfl, rfl, hx, hy, hz⟩ := open_v3' (P := Try.prog) hu32 hu3 hc3 hc1 hv0 h0
  clear hA0
  simp only [List.append_nil] at hW'
  refine (law_c x y z W hx hy hz).mono fun e W' ⟨he, hN⟩ => ?_
  subst he
  have hargs : ∀ sp : Nat → Bool, (∀ p ∈ ([] : List MemPlace), sp p.block = true) → DataW.TrodAll enc Try.prog W' 0 sp true [35] [V3 x y z] [d0] [] := fun sp _ => by
    have t0 := WideElems.Trod_stays (sp' := sp) (W' := W') laidOut (by kernel_rfl) (of_decide_eq_true (by kernel_rfl)) h0 (fun x hx => nomatch hx) (fun x hx => nomatch hx)
    exact trodAll_mk1 t0
  exact ⟨_, rfl, post_new (pa := []) (pv := []) hW' (fun _ _ _ => trodAll_mk1 (shut_bool Try.underlying4 _)) hargs (fun _ _ => rfl) rfl hN (ok_one (by kernel_rfl) rfl (okWide_bool_mk Try.underlying4 _))⟩

set_option maxRecDepth 100000 in
theorem lifted (os : Os) (started : os.Started) (H : Type) (enc : TypeId × Value → H) :
    ReturnsInHanded {} Try.checked os 4 .any (Rows.fnExactMixtureOfVectorSpec.pre6 enc Try.prog Try.f4 Rows.fnExactMixtureOfVectorRow.domain false) (Rows.fnExactMixtureOfVectorSpec.post enc Try.prog Try.f4 false true false false) := by
  refine returnsInHanded_of_change (C := Try.checked) own started (by kernel_rfl) Try.func4
    (ChangeSpec.witness6 (enc := enc) (C := Try.checked) false ⟨#[], #[V3 0 0 0], []⟩ 8 (by kernel_rfl) (by kernel_rfl) (by kernel_rfl) (by kernel_rfl)) ?_
  intro W base args ds gs before hval hW _ _
  exact contract H enc W base args ds gs before hval hW

theorem proved : Rows.FnExactMixtureOfVectorSaid :=
  OpenClaim.holds_of_wide 4 Try.f4 rfl rfl rfl rfl rfl rfl rfl ⟨rfl, rfl, rfl, rfl, rfl⟩ rfl rfl rfl rfl rfl (by kernel_rfl) Try.func4 (by kernel_rfl)
    (of_decide_eq_true (by kernel_rfl)) (by unfold Func.isWrapper; first | (rw [if_pos (by decide +kernel)]; kernel_rfl) | (rw [if_neg (by decide +kernel)]; exact ⟨rfl, rfl⟩))
    (fun os started H enc _ => lifted os started H enc)
end Go.Proofs.Ytmbjomjpnfnbkaa
