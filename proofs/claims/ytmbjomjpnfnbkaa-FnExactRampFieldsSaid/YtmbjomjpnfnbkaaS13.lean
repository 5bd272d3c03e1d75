/-
  The law FnExactRampFields answers true at every pair of fields and every number: the program's fields of a ramp are the reference's. No conditions.
-/
import Derived.Test.YtmbjomjpnfnbkaaP14
import Derived.Test.YtmbjomjpnfnbkaaT5
import Derived.Test.YtmbjomjpnfnbkaaE1
import Derived.Test.YtmbjomjpnfnbkaaL0
import Derived.ProofKit
set_option linter.unusedSimpArgs false
set_option linter.unusedVariables false
namespace Go.Proofs.Ytmbjomjpnfnbkaa
open Go.RowKit Go.ChangeShapes Go.WideShapes Flt

/-- A row below what turned stays. -/
theorem own_apart {w w' w0 : World} {base e size n base' e' size' n' : Nat} {v v' : Value} {xs xs' : List Value} (h : w.ownsRow base e size v n xs) (h0 : w0.ownsRow base e size v n xs) (hg : w.grownBy w' v'.ownBlock)
    (h' : w.ownsRow base' e' size' v' n' xs') (hb : w0.heap.size ≤ base') : w'.ownsRow base e size v n xs := by
  refine h.kept hg ?_
  cases hv : v.ownBlock with
  | none => exact .inl rfl
  | some k =>
    right
    intro he
    have h1 := (h0.lt k hv).2
    have h2 := (h'.lt k he.symm).1
    omega

set_option maxHeartbeats 4000000 in
set_option maxRecDepth 5000 in
theorem law_c (a v : V3N) (n : Int) (w : World) (ha : a.lt) (hv : v.lt) :
    Calls Try.prog 7 #[V3 a.x a.y a.z, V3 v.x v.y v.z, .int .i64 n] w fun e w' => e = .returned (.bool true) ∧ New w w' := by
  have c1 := hid (fun w => specRampFields_c a v n w ha hv)
  have c2 := hid (fun w => rampFields_c a v n w ha hv)
  rw [rampR_eq ha hv] at c2
  have hfw := znl_fw (rampQ_fw (a := a) (v := v) (n := n))
  have hlen := rampQ_length3 a v n
  have hl := znl_length (rampQ a v n).2
  rw [← hl] at c1 hlen
  generalize (rampQ a v n).1 = rc at *
  generalize znl (rampQ a v n).2 = l at *
  have HFW := hid hfw
  have HLEN := hid hlen
  have ht1 := hid (toVector_c a.x a.y a.z)
  have ht2 := hid (toVector_c v.x v.y v.z)
  obtain ⟨M, HMV, hM0⟩ : ∃ M : Int, Hid (((l.length * 3 + 1 : Nat) : Int) = M) ∧ ¬ M < 0 := ⟨_, hid rfl, by omega⟩
  clear hfw hlen hl ha hv
  go_enter Try.func7, Try.ntmps7
  go_wp2_with fail
  go_region_held3 (fun w' => w'.cell? ⟨w.heap.size, 0, none⟩ = some (.float .f32 a.x) ∧ w'.cell? ⟨w.heap.size, 1, none⟩ = some (.float .f32 a.y) ∧ w'.cell? ⟨w.heap.size, 2, none⟩ = some (.float .f32 a.z) ∧ w'.cell? ⟨w.heap.size + 1, 0, none⟩ = some (.float .f32 v.x) ∧ w'.cell? ⟨w.heap.size + 1, 1, none⟩ = some (.float .f32 v.y) ∧ w'.cell? ⟨w.heap.size + 1, 2, none⟩ = some (.float .f32 v.z) ∧ New w w') (((repeat' apply And.intro) <;> (first | (with_reducible assumption) | (go_simp; done) | (repeat (with_reducible first | exact New.refl _ | apply New.drew | apply New.drewN | apply New.alloc)))))
    (first | (go_at_call 20; go_split_ands; (first | (with_reducible refine (ht1.out _).mono ?_) | (with_reducible refine (ht2.out _).mono ?_)); rintro e x1A ⟨rfl, hTA⟩; have tA0 := hTA.cell_at (k := w.heap.size) (o := 0) (v := .float .f32 a.x) (by with_reducible assumption); have tA1 := hTA.cell_at (k := w.heap.size) (o := 1) (v := .float .f32 a.y) (by with_reducible assumption); have tA2 := hTA.cell_at (k := w.heap.size) (o := 2) (v := .float .f32 a.z) (by with_reducible assumption); have tA3 := hTA.cell_at (k := w.heap.size + 1) (o := 0) (v := .float .f32 v.x) (by with_reducible assumption); have tA4 := hTA.cell_at (k := w.heap.size + 1) (o := 1) (v := .float .f32 v.y) (by with_reducible assumption); have tA5 := hTA.cell_at (k := w.heap.size + 1) (o := 2) (v := .float .f32 v.z) (by with_reducible assumption); have hn1A : New w x1A := New.trans (by with_reducible assumption) hTA)
           | (go_at_call 30; go_split_ands; (with_reducible refine (c1.out _).mono ?_); rintro e x3A ⟨uA, rfl, hOA, hSA⟩; have HOA := hid hOA; clear hOA; have sA0 := hSA.cell_at (k := w.heap.size) (o := 0) (v := .float .f32 a.x) (by with_reducible assumption); have sA1 := hSA.cell_at (k := w.heap.size) (o := 1) (v := .float .f32 a.y) (by with_reducible assumption); have sA2 := hSA.cell_at (k := w.heap.size) (o := 2) (v := .float .f32 a.z) (by with_reducible assumption); have sA3 := hSA.cell_at (k := w.heap.size + 1) (o := 0) (v := .float .f32 v.x) (by with_reducible assumption); have sA4 := hSA.cell_at (k := w.heap.size + 1) (o := 1) (v := .float .f32 v.y) (by with_reducible assumption); have sA5 := hSA.cell_at (k := w.heap.size + 1) (o := 2) (v := .float .f32 v.z) (by with_reducible assumption); have hn3A : New w x3A := New.trans (by with_reducible assumption) hSA; have hzA := (show New w _ by with_reducible assumption).size))
  rename_i hh; clear hh
  go_wp2_with fail
  go_region_held3 (fun w' => w'.cell? ⟨w.heap.size, 0, none⟩ = some (.float .f32 a.x) ∧ w'.cell? ⟨w.heap.size, 1, none⟩ = some (.float .f32 a.y) ∧ w'.cell? ⟨w.heap.size, 2, none⟩ = some (.float .f32 a.z) ∧ w'.cell? ⟨w.heap.size + 1, 0, none⟩ = some (.float .f32 v.x) ∧ w'.cell? ⟨w.heap.size + 1, 1, none⟩ = some (.float .f32 v.y) ∧ w'.cell? ⟨w.heap.size + 1, 2, none⟩ = some (.float .f32 v.z) ∧ New x3A w') (((repeat' apply And.intro) <;> (first | (with_reducible assumption) | (go_simp; done) | (repeat (with_reducible first | exact New.refl _ | apply New.drew | apply New.drewN | apply New.alloc)))))
    (first | (go_at_call 20; go_split_ands; (first | (with_reducible refine (ht1.out _).mono ?_) | (with_reducible refine (ht2.out _).mono ?_)); rintro e x1B ⟨rfl, hTB⟩; have tB0 := hTB.cell_at (k := w.heap.size) (o := 0) (v := .float .f32 a.x) (by with_reducible assumption); have tB1 := hTB.cell_at (k := w.heap.size) (o := 1) (v := .float .f32 a.y) (by with_reducible assumption); have tB2 := hTB.cell_at (k := w.heap.size) (o := 2) (v := .float .f32 a.z) (by with_reducible assumption); have tB3 := hTB.cell_at (k := w.heap.size + 1) (o := 0) (v := .float .f32 v.x) (by with_reducible assumption); have tB4 := hTB.cell_at (k := w.heap.size + 1) (o := 1) (v := .float .f32 v.y) (by with_reducible assumption); have tB5 := hTB.cell_at (k := w.heap.size + 1) (o := 2) (v := .float .f32 v.z) (by with_reducible assumption); have hn1B : New x3A x1B := New.trans (by with_reducible assumption) hTB)
           | (go_at_call 31; go_split_ands; (with_reducible refine (c2.out _).mono ?_); rintro e x3B ⟨uB, rfl, hOB, hSB⟩; have HOB := hid hOB; clear hOB; have sB0 := hSB.cell_at (k := w.heap.size) (o := 0) (v := .float .f32 a.x) (by with_reducible assumption); have sB1 := hSB.cell_at (k := w.heap.size) (o := 1) (v := .float .f32 a.y) (by with_reducible assumption); have sB2 := hSB.cell_at (k := w.heap.size) (o := 2) (v := .float .f32 a.z) (by with_reducible assumption); have sB3 := hSB.cell_at (k := w.heap.size + 1) (o := 0) (v := .float .f32 v.x) (by with_reducible assumption); have sB4 := hSB.cell_at (k := w.heap.size + 1) (o := 1) (v := .float .f32 v.y) (by with_reducible assumption); have sB5 := hSB.cell_at (k := w.heap.size + 1) (o := 2) (v := .float .f32 v.z) (by with_reducible assumption); have hn3B : New x3A x3B := New.trans (by with_reducible assumption) hSB; have hzB := (show New x3A _ by with_reducible assumption).size))
  rename_i hh; clear hh
  go_wp2_with fail
  have hxx := hn3A.size
  refine (eqVectorS_c uB uA l _ _ _ HOB.out (own_new HOA.out hn3B) (by have := HLEN.out; omega) HFW.out).mono ?_; rintro e y4 ⟨rfl, hE4⟩
  have HOB4 := hid (own_new HOB.out hE4)
  have HOA4 := hid (own_new HOA.out (hn3B.trans hE4))
  go_wp2_with fail
  refine (markVectorS_c uB l.length (flat l) _ _ HOB4.out (by have := HLEN.out; omega)).mono ?_; rintro e m1 ⟨rfl, hM, hG⟩
  have HM := hid hM
  have HG := hid hG
  clear hM hG
  have hNm := hid (New.grew (hn3B.trans hE4) HOB4.out HG.out hn1B.size)
  have HOAm := hid (own_apart HOA4.out HOA.out HG.out HOB4.out hn1B.size)
  have k0 := hNm.out.cell_at sA0
  have k1 := hNm.out.cell_at sA1
  have k2 := hNm.out.cell_at sA2
  have k3 := hNm.out.cell_at sA3
  have k4 := hNm.out.cell_at sA4
  have k5 := hNm.out.cell_at sA5
  rw [HMV.out]
  go_wp2_with fail
  refine (heldVectorS_c uB l.length (flat l) _ _ HM.out (flat_length l) HLEN.out).mono ?_; rintro e m2 ⟨rfl, rfl⟩
  rw [HMV.out]
  go_wp2_with fail
  go_region_held3 (fun w' => w'.cell? ⟨w.heap.size, 0, none⟩ = some (.float .f32 a.x) ∧ w'.cell? ⟨w.heap.size, 1, none⟩ = some (.float .f32 a.y) ∧ w'.cell? ⟨w.heap.size, 2, none⟩ = some (.float .f32 a.z) ∧ w'.cell? ⟨w.heap.size + 1, 0, none⟩ = some (.float .f32 v.x) ∧ w'.cell? ⟨w.heap.size + 1, 1, none⟩ = some (.float .f32 v.y) ∧ w'.cell? ⟨w.heap.size + 1, 2, none⟩ = some (.float .f32 v.z) ∧ New m1 w') (((repeat' apply And.intro) <;> (first | (with_reducible assumption) | (go_simp; done) | (repeat (with_reducible first | exact New.refl _ | apply New.drew | apply New.drewN | apply New.alloc)))))
    (first | (go_at_call 20; go_split_ands; (first | (with_reducible refine (ht1.out _).mono ?_) | (with_reducible refine (ht2.out _).mono ?_)); rintro e x1C ⟨rfl, hTC⟩; have tC0 := hTC.cell_at (k := w.heap.size) (o := 0) (v := .float .f32 a.x) (by with_reducible assumption); have tC1 := hTC.cell_at (k := w.heap.size) (o := 1) (v := .float .f32 a.y) (by with_reducible assumption); have tC2 := hTC.cell_at (k := w.heap.size) (o := 2) (v := .float .f32 a.z) (by with_reducible assumption); have tC3 := hTC.cell_at (k := w.heap.size + 1) (o := 0) (v := .float .f32 v.x) (by with_reducible assumption); have tC4 := hTC.cell_at (k := w.heap.size + 1) (o := 1) (v := .float .f32 v.y) (by with_reducible assumption); have tC5 := hTC.cell_at (k := w.heap.size + 1) (o := 2) (v := .float .f32 v.z) (by with_reducible assumption); have hn1C : New m1 x1C := New.trans (by with_reducible assumption) hTC)
           | (go_at_call 31; go_split_ands; (with_reducible refine (c2.out _).mono ?_); rintro e x3C ⟨uC, rfl, hOC, hSC⟩; have HOC := hid hOC; clear hOC; have sC0 := hSC.cell_at (k := w.heap.size) (o := 0) (v := .float .f32 a.x) (by with_reducible assumption); have sC1 := hSC.cell_at (k := w.heap.size) (o := 1) (v := .float .f32 a.y) (by with_reducible assumption); have sC2 := hSC.cell_at (k := w.heap.size) (o := 2) (v := .float .f32 a.z) (by with_reducible assumption); have sC3 := hSC.cell_at (k := w.heap.size + 1) (o := 0) (v := .float .f32 v.x) (by with_reducible assumption); have sC4 := hSC.cell_at (k := w.heap.size + 1) (o := 1) (v := .float .f32 v.y) (by with_reducible assumption); have sC5 := hSC.cell_at (k := w.heap.size + 1) (o := 2) (v := .float .f32 v.z) (by with_reducible assumption); have hn3C : New m1 x3C := New.trans (by with_reducible assumption) hSC; have hzC := (show New m1 _ by with_reducible assumption).size))
  rename_i hh; clear hh
  go_wp2_with fail
  refine (eqVectorS_c uC uA l _ _ _ HOC.out (own_new HOAm.out hn3C) (by have := HLEN.out; omega) HFW.out).mono ?_; rintro e z4 ⟨rfl, hE5⟩
  go_wp2_with fail
  refine (heldVectorS_c uB l.length (flat l) _ _ (own_new HM.out (hn3C.trans hE5)) (flat_length l) HLEN.out).mono ?_; rintro e z5 ⟨rfl, rfl⟩
  rw [HMV.out]
  go_wp2
  go_ret
  exact ⟨rfl, ((hn3A.trans hNm.out).trans hn3C).trans hE5⟩

set_option maxRecDepth 100000 in
theorem contract (H : Type) (enc : TypeId × Value → H) (W : World) (base : Nat) (args : Array Value) (ds gs : List (DataW H)) (before : List MemPlace)
    (hval : ∀ (j : Nat) t v, Try.f7.params[j]? = some t → args[j]? = some v → Value.okWide Try.prog W .any base t v)
    (hW : DataW.Whole enc Try.prog Try.f7.params.toList Rows.fnExactRampFieldsSpec.vars false W args.toList ds gs before) :
    Calls Try.prog 7 args W fun e W' => ∃ v, e = .returned v ∧ Rows.fnExactRampFieldsSpec.post enc Try.prog Try.f7 false true false false W args v W' := by
  have hW' := hW
  obtain ⟨p, q, hA0, hV, rfl, hfz, hnd⟩ := hW
  have hA : DataW.TrodAll enc Try.prog W 0 (fun _ => true) true Try.f7.params.toList args.toList ds p := hA0
  rw [Try.params7] at hA hval
  obtain ⟨v0, v1, v2, d0, d1, d2, p0, p1, p2, rfl, rfl, rfl, h0, h1, h2⟩ := trodAll_three hA
  obtain ⟨rfl, rfl⟩ := trodVars_none hV
  have hv0 := hval 0 35 v0 rfl rfl
  have hv1 := hval 1 35 v1 rfl rfl
  obtain ⟨x, y, z, rfl, rfl, hx, hy, hz⟩ := open_v3' (P := Try.prog) hu32 hu3 hc3 hc1 hv0 h0
  obtain ⟨x', y', z', rfl, rfl, hx', hy', hz'⟩ := open_v3' (P := Try.prog) hu32 hu3 hc3 hc1 hv1 h1
  obtain ⟨m, rfl, rfl, rfl, wm⟩ := Go.ChangeShapes.open_int Try.underlying2 (hval 2 2 v2 rfl rfl) h2
  clear hA0
  simp only [List.append_nil] at hW'
  refine (law_c ⟨x, y, z⟩ ⟨x', y', z'⟩ m W ⟨hx, hy, hz⟩ ⟨hx', hy', hz'⟩).mono fun e W' ⟨he, hN⟩ => ?_
  subst he
  have hargs : ∀ sp : Nat → Bool, (∀ p ∈ ([] : List MemPlace), sp p.block = true) → DataW.TrodAll enc Try.prog W' 0 sp true [35, 35, 2] [V3 x y z, V3 x' y' z', .int .i64 m] [d0, d1, .lit (.int .i64 m)] [] := fun sp _ => by
    have t0 := WideElems.Trod_stays (sp' := sp) (W' := W') laidOut (by kernel_rfl) (of_decide_eq_true (by kernel_rfl)) h0 (fun x hx => nomatch hx) (fun x hx => nomatch hx)
    have t1 := WideElems.Trod_stays (sp' := sp) (W' := W') laidOut (by kernel_rfl) (of_decide_eq_true (by kernel_rfl)) h1 (fun x hx => nomatch hx) (fun x hx => nomatch hx)
    exact trodAll_mk3 t0 t1 (shut_int Try.underlying2 wm)
  exact ⟨_, rfl, post_new (pa := []) (pv := []) hW' (fun _ _ _ => trodAll_mk1 (shut_bool Try.underlying4 _)) hargs (fun _ _ => rfl) rfl hN (ok_one (by kernel_rfl) rfl (okWide_bool_mk Try.underlying4 _))⟩

set_option maxRecDepth 100000 in
theorem lifted (os : Os) (started : os.Started) (H : Type) (enc : TypeId × Value → H) :
    ReturnsInHanded {} Try.checked os 7 .any (Rows.fnExactRampFieldsSpec.pre6 enc Try.prog Try.f7 Rows.fnExactRampFieldsRow.domain false) (Rows.fnExactRampFieldsSpec.post enc Try.prog Try.f7 false true false false) := by
  refine returnsInHanded_of_change (C := Try.checked) own started (by kernel_rfl) Try.func7
    (ChangeSpec.witness6 (enc := enc) (C := Try.checked) false ⟨#[], #[V3 0 0 0, V3 0 0 0, .int .i64 0], []⟩ 8 (by kernel_rfl) (by kernel_rfl) (by kernel_rfl) (by kernel_rfl)) ?_
  intro W base args ds gs before hval hW _ _
  exact contract H enc W base args ds gs before hval hW

theorem proved : Rows.FnExactRampFieldsSaid :=
  OpenClaim.holds_of_wide 7 Try.f7 rfl rfl rfl rfl rfl rfl rfl ⟨rfl, rfl, rfl, rfl, rfl⟩ rfl rfl rfl rfl rfl (by kernel_rfl) Try.func7 (by kernel_rfl)
    (of_decide_eq_true (by kernel_rfl)) (by unfold Func.isWrapper; first | (rw [if_pos (by decide +kernel)]; kernel_rfl) | (rw [if_neg (by decide +kernel)]; exact ⟨rfl, rfl⟩))
    (fun os started H enc _ => lifted os started H enc)
end Go.Proofs.Ytmbjomjpnfnbkaa
