/-
  The law FnExactNewDesk answers true: the program's new desk is the reference's, and its memory is its own. No conditions.
-/
import Derived.Test.YtmbjomjpnfnbkaaN1
import Derived.Test.YtmbjomjpnfnbkaaL0
import Derived.ProofKit
set_option linter.unusedSimpArgs false
set_option linter.unusedVariables false
namespace Go.Proofs.Ytmbjomjpnfnbkaa
open Go.RowKit Go.ChangeShapes Go.WideShapes Flt

set_option maxHeartbeats 2000000 in
theorem law_c (w : World) : Calls Try.prog 3 #[] w fun e w' => e = .returned (.bool true) ∧ New w w' := by
  go_enter Try.func3, Try.ntmps3
  go_wp2_with fail
  refine (specNewDesk_c _).mono ?_; rintro e w1 ⟨⟨b, rfl⟩, hN1⟩
  go_wp2_with fail
  refine (newDesk_c _).mono ?_; rintro e w2 ⟨rfl, hN2⟩
  obtain ⟨l1, l2, l3⟩ := hN2.laws
  go_wp2_with fail
  refine (eqDesk_c b _).mono ?_; rintro e w3 ⟨rfl, hN3⟩
  obtain ⟨k1, k2, k3⟩ := hN3.laws
  go_wp2_with fail
  refine (markDesk_c _).mono ?_; rintro e w4 ⟨rfl, hN4⟩
  clear k1 k2 k3
  obtain ⟨k1, k2, k3⟩ := (hN3.trans hN4).laws
  go_wp2_with fail
  refine (heldDesk_c _).mono ?_; rintro e w5 ⟨rfl, hN5⟩
  clear k1 k2 k3
  go_wp2_with fail
  refine (newDesk_c _).mono ?_; rintro e w6 ⟨rfl, hN6⟩
  have hA := ((hN3.trans hN4).trans hN5).trans hN6
  have hB := (hN2.alloc (.cells #[.complex .f32 1065353216 0, .complex .f32 0 0, .complex .f32 0 0, .complex .f32 1065353216 0, .complex .f32 1065353216 0, .complex .f32 0 0, .complex .f32 0 0, .complex .f32 1065353216 0, .slice none 0 0] 29)).trans hA
  have a0 := hB.cell_at (k := w1.heap.size) (o := 0) (v := .complex .f32 1065353216 0) (by go_simp)
  have b0 := hA.cell_at (k := w2.heap.size) (o := 0) (v := .complex .f32 1065353216 0) (by go_simp)
  have a1 := hB.cell_at (k := w1.heap.size) (o := 1) (v := .complex .f32 0 0) (by go_simp)
  have b1 := hA.cell_at (k := w2.heap.size) (o := 1) (v := .complex .f32 0 0) (by go_simp)
  have a2 := hB.cell_at (k := w1.heap.size) (o := 2) (v := .complex .f32 0 0) (by go_simp)
  have b2 := hA.cell_at (k := w2.heap.size) (o := 2) (v := .complex .f32 0 0) (by go_simp)
  have a3 := hB.cell_at (k := w1.heap.size) (o := 3) (v := .complex .f32 1065353216 0) (by go_simp)
  have b3 := hA.cell_at (k := w2.heap.size) (o := 3) (v := .complex .f32 1065353216 0) (by go_simp)
  have a4 := hB.cell_at (k := w1.heap.size) (o := 4) (v := .complex .f32 1065353216 0) (by go_simp)
  have b4 := hA.cell_at (k := w2.heap.size) (o := 4) (v := .complex .f32 1065353216 0) (by go_simp)
  have a5 := hB.cell_at (k := w1.heap.size) (o := 5) (v := .complex .f32 0 0) (by go_simp)
  have b5 := hA.cell_at (k := w2.heap.size) (o := 5) (v := .complex .f32 0 0) (by go_simp)
  have a6 := hB.cell_at (k := w1.heap.size) (o := 6) (v := .complex .f32 0 0) (by go_simp)
  have b6 := hA.cell_at (k := w2.heap.size) (o := 6) (v := .complex .f32 0 0) (by go_simp)
  have a7 := hB.cell_at (k := w1.heap.size) (o := 7) (v := .complex .f32 1065353216 0) (by go_simp)
  have b7 := hA.cell_at (k := w2.heap.size) (o := 7) (v := .complex .f32 1065353216 0) (by go_simp)
  have a8 := hB.cell_at (k := w1.heap.size) (o := 8) (v := .slice (some ⟨b, 0, none⟩) 0 0) (by go_simp)
  have b8 := hA.cell_at (k := w2.heap.size) (o := 8) (v := .slice none 0 0) (by go_simp)
  clear l1 l2 l3
  have a0' := cell_alloc a0
  have a1' := cell_alloc a1
  have a2' := cell_alloc a2
  have a3' := cell_alloc a3
  have a4' := cell_alloc a4
  have a5' := cell_alloc a5
  have a6' := cell_alloc a6
  have a7' := cell_alloc a7
  have a8' := cell_alloc a8
  go_wp2_with fail
  refine (eqDesk_c b _).mono ?_; rintro e w7 ⟨rfl, hN7⟩
  have c0 := hN7.cell_at (cell_alloc b0 _)
  have c1 := hN7.cell_at (cell_alloc b1 _)
  have c2 := hN7.cell_at (cell_alloc b2 _)
  have c3 := hN7.cell_at (cell_alloc b3 _)
  have c4 := hN7.cell_at (cell_alloc b4 _)
  have c5 := hN7.cell_at (cell_alloc b5 _)
  have c6 := hN7.cell_at (cell_alloc b6 _)
  have c7 := hN7.cell_at (cell_alloc b7 _)
  have c8 := hN7.cell_at (cell_alloc b8 _)
  go_wp2_with fail
  refine (heldDesk_c _).mono ?_; rintro e w8 ⟨rfl, hN8⟩
  go_wp2
  go_ret
  refine ⟨rfl, ?_⟩
  exact (((((((New.refl w).trans hN1).alloc _).trans hN2).alloc _).trans hA).alloc _).trans (hN7.trans hN8)

set_option maxRecDepth 100000 in
theorem contract (H : Type) (enc : TypeId × Value → H) (W : World) (base : Nat) (args : Array Value) (ds gs : List (DataW H)) (before : List MemPlace)
    (hval : ∀ (j : Nat) t v, Try.f3.params[j]? = some t → args[j]? = some v → Value.okWide Try.prog W .any base t v)
    (hW : DataW.Whole enc Try.prog Try.f3.params.toList Rows.fnExactNewDeskSpec.vars false W args.toList ds gs before) :
    Calls Try.prog 3 args W fun e W' => ∃ v, e = .returned v ∧ Rows.fnExactNewDeskSpec.post enc Try.prog Try.f3 false true false false W args v W' := by
  have hW' := hW
  obtain ⟨p, q, hA0, hV, rfl, hfz, hnd⟩ := hW
  have hA : DataW.TrodAll enc Try.prog W 0 (fun _ => true) true Try.f3.params.toList args.toList ds p := hA0
  rw [Try.params3] at hA hval
  obtain ⟨rfl, rfl, rfl⟩ := trodAll_none hA
  obtain ⟨rfl, rfl⟩ := trodVars_none hV
  clear hA0
  simp only [List.append_nil] at hW'
  refine (law_c W).mono fun e W' ⟨he, hN⟩ => ?_
  subst he
  have hargs : ∀ sp : Nat → Bool, (∀ p ∈ ([] : List MemPlace), sp p.block = true) → DataW.TrodAll enc Try.prog W' 0 sp true [] [] [] [] := fun sp _ => by
    exact rfl
  exact ⟨_, rfl, post_new (pa := []) (pv := []) hW' (fun _ _ _ => trodAll_mk1 (shut_bool Try.underlying4 _)) hargs (fun _ _ => rfl) rfl hN (ok_one (by kernel_rfl) rfl (okWide_bool_mk Try.underlying4 _))⟩

set_option maxRecDepth 100000 in
theorem lifted (os : Os) (started : os.Started) (H : Type) (enc : TypeId × Value → H) :
    ReturnsInHanded {} Try.checked os 3 .any (Rows.fnExactNewDeskSpec.pre6 enc Try.prog Try.f3 Rows.fnExactNewDeskRow.domain false) (Rows.fnExactNewDeskSpec.post enc Try.prog Try.f3 false true false false) := by
  refine returnsInHanded_of_change (C := Try.checked) own started (by kernel_rfl) Try.func3
    (ChangeSpec.witness6 (enc := enc) (C := Try.checked) false ⟨#[], #[], []⟩ 8 (by kernel_rfl) (by kernel_rfl) (by kernel_rfl) (by kernel_rfl)) ?_
  intro W base args ds gs before hval hW _ _
  exact contract H enc W base args ds gs before hval hW

theorem proved : Rows.FnExactNewDeskSaid :=
  OpenClaim.holds_of_wide 3 Try.f3 rfl rfl rfl rfl rfl rfl rfl ⟨rfl, rfl, rfl, rfl, rfl⟩ rfl rfl rfl rfl rfl (by kernel_rfl) Try.func3 (by kernel_rfl)
    (of_decide_eq_true (by kernel_rfl)) (by unfold Func.isWrapper; first | (rw [if_pos (by decide +kernel)]; kernel_rfl) | (rw [if_neg (by decide +kernel)]; exact ⟨rfl, rfl⟩))
    (fun os started H enc _ => lifted os started H enc)
end Go.Proofs.Ytmbjomjpnfnbkaa
