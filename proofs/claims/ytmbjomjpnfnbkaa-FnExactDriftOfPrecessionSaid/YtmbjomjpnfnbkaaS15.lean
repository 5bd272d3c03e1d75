/-
  The law FnExactDriftOfPrecession answers true at every field, every step and every number: the program's drifts are the reference's. No conditions.
-/
import Derived.Test.YtmbjomjpnfnbkaaT8
import Derived.Test.YtmbjomjpnfnbkaaE1
import Derived.Test.YtmbjomjpnfnbkaaL0
import Derived.ProofKit
set_option linter.unusedSimpArgs false
set_option linter.unusedVariables false
namespace Go.Proofs.Ytmbjomjpnfnbkaa
open Go.RowKit Go.ChangeShapes Go.WideShapes Flt

/-- A row below what turned stays. -/
theorem own_apart {w w' w0 : World} {base e size n base' e' size' n' : Nat} {v v' : Value} {xs xs' : List Value} (h : w.ownsRow base e size v n xs) (h0 : w0.ownsRow base e size v n xs) (hg : w.grownBy w' v'.ownBlock)
    (h' : w.ownsRow base' e' size' v' n' xs') (hb : w0.heap.size ≤ base') : w'.ownsRow base e size v n xs := by
  refine h.kept hg ?_
  cases hv : v.ownBlock with
  | none => exact .inl rfl
  | some k =>
    right
    intro he
    have h1 := (h0.lt k hv).2
    have h2 := (h'.lt k he.symm).1
    omega
theorem fl32_length (l : List Nat) : (fl32 l).length = l.length := by simp [fl32]

set_option maxHeartbeats 4000000 in
set_option maxRecDepth 5000 in
theorem law_c (x y z h : Nat) (n : Int) (w : World) (hx : x < 2 ^ 32) (hy : y < 2 ^ 32) (hz : z < 2 ^ 32) (hh : h < 2 ^ 32) :
    Calls Try.prog 12 #[V3 x y z, .float .f32 h, .int .i64 n] w fun e w' => e = .returned (.bool true) ∧ New w w' := by
  have c1 := hid (fun w => specDriftOfPrecession_c x y z h n w hx hy hz hh)
  have c2 := hid (fun w => driftOfPrecession_c x y z h n w hx hy hz hh)
  have HFW := hid (driftR_fw (x := x) (y := y) (z := z) (h := h) (n := n) hx hy hz hh)
  have HLEN := hid (driftR_length x y z h n)
  generalize (driftR x y z h n).1 = rc at *
  generalize (driftR x y z h n).2 = l at *
  have ht := hid (toVector_c x y z)
  obtain ⟨M, HMV, hM0⟩ : ∃ M : Int, Hid (((l.length + 1 : Nat) : Int) = M) ∧ ¬ M < 0 := ⟨_, hid rfl, by omega⟩
  clear hx hy hz hh
  go_enter Try.func12, Try.ntmps12
  go_wp2_with fail
  refine (ht.out _).mono ?_; rintro e w1 ⟨rfl, hN1⟩
  have a0 := hN1.cell_at (k := w.heap.size) (o := 0) (v := .float .f32 x) (by go_simp)
  have a1 := hN1.cell_at (k := w.heap.size) (o := 1) (v := .float .f32 y) (by go_simp)
  have a2 := hN1.cell_at (k := w.heap.size) (o := 2) (v := .float .f32 z) (by go_simp)
  have n1 := hid (((New.refl w).alloc _).trans hN1)
  clear hN1
  go_wp2_with fail
  refine (c1.out _).mono ?_; rintro e w2 ⟨uA, rfl, hOA, hN2⟩
  have HOA := hid hOA
  have b0 := hN2.cell_at a0
  have b1 := hN2.cell_at a1
  have b2 := hN2.cell_at a2
  have n2 := hid (n1.out.trans hN2)
  have hlb := cell_lt b0
  have HLB := hid hlb
  clear hOA hN2 a0 a1 a2 hlb
  go_wp2_with fail
  refine (ht.out _).mono ?_; rintro e w3 ⟨rfl, hN3⟩
  have a0 := hN3.cell_at b0
  have a1 := hN3.cell_at b1
  have a2 := hN3.cell_at b2
  go_wp2_with fail
  refine (c2.out _).mono ?_; rintro e w4 ⟨uB, rfl, hOB, hN4⟩
  have HOB := hid hOB
  have d0 := hN4.cell_at a0
  have d1 := hN4.cell_at a1
  have d2 := hN4.cell_at a2
  have hz3 := hid hN3.size
  have n4 := hid (hN3.trans hN4)
  clear hOB hN3 hN4 a0 a1 a2 b0 b1 b2
  go_wp2_with fail
  refine (eqF32S_c uB uA l _ _ _ HOB.out (own_new HOA.out n4.out) (by have := HLEN.out; omega) HFW.out).mono ?_; rintro e y4 ⟨rfl, hE4⟩
  have HOB4 := hid (own_new HOB.out hE4)
  have HOA4 := hid (own_new HOA.out (n4.out.trans hE4))
  have e0 := hE4.cell_at d0
  have e1 := hE4.cell_at d1
  have e2 := hE4.cell_at d2
  go_wp2_with fail
  refine (markF32S_c uB l.length (fl32 l) _ _ HOB4.out (by have := HLEN.out; omega)).mono ?_; rintro e m1 ⟨rfl, hM, hG⟩
  have HM := hid hM
  have HG := hid hG
  clear hM hG
  have hNm := hid (New.grew (n4.out.trans hE4) HOB4.out HG.out hz3.out)
  have HOAm := hid (own_apart HOA4.out HOA.out HG.out HOB4.out hz3.out)
  have hsz2 := n2.out.size
  have hz3' := hz3.out
  have k0 := grew_cell HOB4.out HG.out (Nat.lt_of_lt_of_le (HLB.out) hz3') e0
  have k1 := grew_cell HOB4.out HG.out (Nat.lt_of_lt_of_le (HLB.out) hz3') e1
  have k2 := grew_cell HOB4.out HG.out (Nat.lt_of_lt_of_le (HLB.out) hz3') e2
  rw [HMV.out]
  go_wp2_with fail
  refine (heldF32S_c uB l.length (fl32 l) _ _ HM.out (fl32_length l) HLEN.out).mono ?_; rintro e m2 ⟨rfl, rfl⟩
  rw [HMV.out]
  go_wp2_with fail
  refine (ht.out _).mono ?_; rintro e w5 ⟨rfl, hN5⟩
  go_wp2_with fail
  refine (c2.out _).mono ?_; rintro e w6 ⟨uC, rfl, hOC, hN6⟩
  have HOC := hid hOC
  have n6 := hid (hN5.trans hN6)
  clear hOC hN5 hN6
  go_wp2_with fail
  refine (eqF32S_c uC uA l _ _ _ HOC.out (own_new HOAm.out n6.out) (by have := HLEN.out; omega) HFW.out).mono ?_; rintro e z4 ⟨rfl, hE5⟩
  go_wp2_with fail
  refine (heldF32S_c uB l.length (fl32 l) _ _ (own_new HM.out (n6.out.trans hE5)) (fl32_length l) HLEN.out).mono ?_; rintro e z5 ⟨rfl, rfl⟩
  rw [HMV.out]
  go_wp2
  go_ret
  exact ⟨rfl, ((n2.out.trans hNm.out).trans n6.out).trans hE5⟩

set_option maxRecDepth 100000 in
theorem contract (H : Type) (enc : TypeId × Value → H) (W : World) (base : Nat) (args : Array Value) (ds gs : List (DataW H)) (before : List MemPlace)
    (hval : ∀ (j : Nat) t v, Try.f12.params[j]? = some t → args[j]? = some v → Value.okWide Try.prog W .any base t v)
    (hW : DataW.Whole enc Try.prog Try.f12.params.toList Rows.fnExactDriftOfPrecessionSpec.vars false W args.toList ds gs before) :
    Calls Try.prog 12 args W fun e W' => ∃ v, e = .returned v ∧ Rows.fnExactDriftOfPrecessionSpec.post enc Try.prog Try.f12 false true false false W args v W' := by
  have hW' := hW
  obtain ⟨p, q, hA0, hV, rfl, hfz, hnd⟩ := hW
  have hA : DataW.TrodAll enc Try.prog W 0 (fun _ => true) true Try.f12.params.toList args.toList ds p := hA0
  rw [Try.params12] at hA hval
  obtain ⟨v0, v1, v2, d0, d1, d2, p0, p1, p2, rfl, rfl, rfl, h0, h1, h2⟩ := trodAll_three hA
  obtain ⟨rfl, rfl⟩ := trodVars_none hV
  have hv0 := hval 0 35 v0 rfl rfl
  obtain ⟨x, y, z, rfl, rfl, hx, hy, hz⟩ := open_v3' (P := Try.prog) hu32 hu3 hc3 hc1 hv0 h0
  obtain ⟨b, rfl, rfl, rfl, wb⟩ := open_float hu32 (hval 1 34 v1 rfl rfl) h1
  have hb : b < 2 ^ 32 := by simpa [Lit.wf] using wb
  obtain ⟨m, rfl, rfl, rfl, wm⟩ := Go.ChangeShapes.open_int Try.underlying2 (hval 2 2 v2 rfl rfl) h2
  clear hA0
  simp only [List.append_nil] at hW'
  refine (law_c x y z b m W hx hy hz hb).mono fun e W' ⟨he, hN⟩ => ?_
  subst he
  have hargs : ∀ sp : Nat → Bool, (∀ p ∈ ([] : List MemPlace), sp p.block = true) → DataW.TrodAll enc Try.prog W' 0 sp true [35, 34, 2] [V3 x y z, .float .f32 b, .int .i64 m] [d0, .lit (.float .f32 b), .lit (.int .i64 m)] [] := fun sp _ => by
    have t0 := WideElems.Trod_stays (sp' := sp) (W' := W') laidOut (by kernel_rfl) (of_decide_eq_true (by kernel_rfl)) h0 (fun x hx => nomatch hx) (fun x hx => nomatch hx)
    exact trodAll_mk3 t0 (shut_float hu32 wb) (shut_int Try.underlying2 wm)
  exact ⟨_, rfl, post_new (pa := []) (pv := []) hW' (fun _ _ _ => trodAll_mk1 (shut_bool Try.underlying4 _)) hargs (fun _ _ => rfl) rfl hN (ok_one (by kernel_rfl) rfl (okWide_bool_mk Try.underlying4 _))⟩

set_option maxRecDepth 100000 in
theorem lifted (os : Os) (started : os.Started) (H : Type) (enc : TypeId × Value → H) :
    ReturnsInHanded {} Try.checked os 12 .any (Rows.fnExactDriftOfPrecessionSpec.pre6 enc Try.prog Try.f12 Rows.fnExactDriftOfPrecessionRow.domain false) (Rows.fnExactDriftOfPrecessionSpec.post enc Try.prog Try.f12 false true false false) := by
  refine returnsInHanded_of_change (C := Try.checked) own started (by kernel_rfl) Try.func12
    (ChangeSpec.witness6 (enc := enc) (C := Try.checked) false ⟨#[], #[V3 0 0 0, .float .f32 0, .int .i64 0], []⟩ 8 (by kernel_rfl) (by kernel_rfl) (by kernel_rfl) (by kernel_rfl)) ?_
  intro W base args ds gs before hval hW _ _
  exact contract H enc W base args ds gs before hval hW

theorem proved : Rows.FnExactDriftOfPrecessionSaid :=
  OpenClaim.holds_of_wide 12 Try.f12 rfl rfl rfl rfl rfl rfl rfl ⟨rfl, rfl, rfl, rfl, rfl⟩ rfl rfl rfl rfl rfl (by kernel_rfl) Try.func12 (by kernel_rfl)
    (of_decide_eq_true (by kernel_rfl)) (by unfold Func.isWrapper; first | (rw [if_pos (by decide +kernel)]; kernel_rfl) | (rw [if_neg (by decide +kernel)]; exact ⟨rfl, rfl⟩))
    (fun os started H enc _ => lifted os started H enc)
end Go.Proofs.Ytmbjomjpnfnbkaa
