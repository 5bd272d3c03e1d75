/-
  The law FnExactTableOfSequence answers true at every list of pulses: the program's table of a sequence is the reference's. No conditions.
-/
import Derived.Test.YtmbjomjpnfnbkaaE4
import Derived.Test.YtmbjomjpnfnbkaaL0
import Derived.ProofKit
import Derived.Deep.Slices
import Derived.Deep.Strs
set_option linter.unusedSimpArgs false
set_option linter.unusedVariables false
namespace Go.Proofs.Ytmbjomjpnfnbkaa
open Go.RowKit Go.ChangeShapes Go.WideShapes Flt

section
variable {H : Type} {enc : TypeId × Value → H} {P : Program} {w : World} {base : Nat} {spare : Nat → Bool} {held : Bool}
def intOfV (v : Value) : Int := match v with
  | .int _ n => n
  | _ => 0
def boolOfV (v : Value) : Bool := match v with
  | .bool b => b
  | _ => false
def cellV (w : World) (a : Addr) : Value := (w.cell? a).getD (.bool false)
theorem cellV_of {w : World} {a : Addr} {v : Value} (h : w.cell? a = some v) : cellV w a = v := by unfold cellV; rw [h]; rfl
/-- A list of pulses, opened. -/
theorem open_pulses {E T : TypeId} {f0 f1 f2 : Field} (he : P.underlying E = some (.struct #[f0, f1, f2])) (ht : P.underlying T = some (.slice E)) (ce : P.cellsOf E = 3)
    (o0 : f0.offset = 0) (o1 : f1.offset = 1) (o2 : f2.offset = 2) (c0 : P.cellsOf f0.type = 1) (c1 : P.cellsOf f1.type = 1) (c2 : P.cellsOf f2.type = 1)
    (t0 : P.underlying f0.type = some (.int .i64)) (t1 : P.underlying f1.type = some (.int .i64)) (t2 : P.underlying f2.type = some .bool)
    {b0 : Nat} {v : Value} {d : DataW H} {p : List MemPlace} (hval : Value.okWide P w .any b0 T v) (h : DataW.Trod enc P w base spare held T v d p) :
    ∃ ps : List PuI, HeldP w v ps ∧ (∃ ao cp, v = .slice ao ps.length cp) ∧ ps.length ≤ 9223372036854775807 := by
  obtain ⟨oa, len0, cap0, rfl⟩ := okWide_slice ht hval
  obtain ⟨fuel, hf⟩ := h
  rcases Go.Deep.open_slice ht hf with ⟨h1, _⟩ | ⟨a, len, cap, m, n, D, Pl, h1, _, hl, hcm, hm, _, hx⟩
  · simp [Value.cells] at h1
    obtain ⟨rfl, rfl, rfl⟩ := h1
    exact ⟨[], .inl ⟨none, 0, rfl, rfl⟩, ⟨none, 0, rfl⟩, by simp⟩
  · simp [Value.cells] at h1
    obtain ⟨rfl, rfl, rfl⟩ := h1
    have hle : len0 ≤ m := by rw [hm]; split <;> omega
    have hmax : len0 ≤ 9223372036854775807 := by unfold maxLen at hcm; omega
    have key : ∀ i, i < len0 → w.cell? (a.add (i * 3)) = some (.int .i64 (intOfV (cellV w (a.add (i * 3))))) ∧ w.cell? (a.add (i * 3 + 1)) = some (.int .i64 (intOfV (cellV w (a.add (i * 3 + 1))))) ∧ w.cell? (a.add (i * 3 + 2)) = some (.bool (boolOfV (cellV w (a.add (i * 3 + 2))))) := fun i hi => by
      obtain ⟨cs', g1, g2⟩ := hx i (by omega)
      rw [ce] at g1
      obtain ⟨_, hlen, hcell⟩ := World.cells?_some g1
      obtain ⟨y0, y1, y2, n', _, _, u0, u1, u2⟩ := Go.Deep.trod_struct3 he g2
      match cs', hlen with
      | [v0, v1, v2], _ =>
        simp [o0, o1, o2, c0, c1, c2] at u0 u1 u2
        obtain ⟨k0, e0, _⟩ := DataW.trod_int t0 u0
        obtain ⟨k1, e1, _⟩ := DataW.trod_int t1 u1
        obtain ⟨k2, e2, _⟩ := DataW.trod_bool t2 u2
        simp at e0 e1 e2
        subst e0 e1 e2
        have q0 := hcell 0 (by decide)
        have q1 := hcell 1 (by decide)
        have q2 := hcell 2 (by decide)
        rw [Go.Deep.add_add] at q0 q1 q2
        simp at q0 q1 q2
        rw [cellV_of q0, cellV_of q1, cellV_of q2]
        exact ⟨q0, q1, q2⟩
    by_cases hpos : len0 = 0
    · subst hpos
      exact ⟨[], .inl ⟨_, _, rfl, rfl⟩, ⟨_, _, rfl⟩, by simp⟩
    · obtain ⟨b, off, spot⟩ := a
      have hspot : spot = none := by simpa [Addr.add] using World.cell?_spot (key 0 (by omega)).1
      subst hspot
      let G : Nat → PuI := fun i => ⟨intOfV (cellV w ⟨b, off + i * 3, none⟩), intOfV (cellV w ⟨b, off + i * 3 + 1, none⟩), boolOfV (cellV w ⟨b, off + i * 3 + 2, none⟩)⟩
      refine ⟨(List.range len0).map G, .inr ⟨b, off, cap0, by simp, fun j hj => ?_⟩, ⟨some ⟨b, off, none⟩, cap0, by simp⟩, by simpa using hmax⟩
      have hj' : j < len0 := by simpa using hj
      have e : ((List.range len0).map G).getD j PuI.zero = G j := by simp [List.getD, hj']
      rw [e]
      obtain ⟨k0, k1, k2⟩ := key j hj'
      rw [Go.WideShapes.add_plain] at k0 k1 k2
      have a1 : off + (j * 3 + 1) = off + j * 3 + 1 := by omega
      have a2 : off + (j * 3 + 2) = off + j * 3 + 2 := by omega
      rw [a1] at k1
      rw [a2] at k2
      exact ⟨k0, k1, k2⟩
end

theorem law_c (ps : List PuI) (v : Value) (w : World) (h : HeldP w v ps) (hf : ∃ ao cp, v = .slice ao ps.length cp) (hm : ps.length ≤ 9223372036854775807) :
    Calls Try.prog 13 #[v] w fun e w' => e = .returned (.bool true) ∧ New w w' := by
  by_cases hl : ps.length ≤ 1048576
  · exact law_s ps v w hl h
  · obtain ⟨ao, cp, rfl⟩ := hf
    exact law_big ao ps.length cp w (by omega) hm

set_option maxRecDepth 100000 in
theorem contract (H : Type) (enc : TypeId × Value → H) (W : World) (base : Nat) (args : Array Value) (ds gs : List (DataW H)) (before : List MemPlace)
    (hval : ∀ (j : Nat) t v, Try.f13.params[j]? = some t → args[j]? = some v → Value.okWide Try.prog W .any base t v)
    (hW : DataW.Whole enc Try.prog Try.f13.params.toList Rows.fnExactTableOfSequenceSpec.vars false W args.toList ds gs before) :
    Calls Try.prog 13 args W fun e W' => ∃ v, e = .returned v ∧ Rows.fnExactTableOfSequenceSpec.post enc Try.prog Try.f13 false true false false W args v W' := by
  have hW' := hW
  obtain ⟨p, q, hA0, hV, rfl, hfz, hnd⟩ := hW
  have hA : DataW.TrodAll enc Try.prog W 0 (fun _ => true) true Try.f13.params.toList args.toList ds p := hA0
  rw [Try.params13] at hA hval
  obtain ⟨v0, d0, rfl, rfl, h0⟩ := trodAll_one hA
  obtain ⟨rfl, rfl⟩ := trodVars_none hV
  have hv0 := hval 0 68 v0 rfl rfl
  obtain ⟨ps, hH, hform, hmax⟩ := open_pulses Try.underlying117 Try.underlying68 (by kernel_rfl) rfl rfl rfl (by kernel_rfl) (by kernel_rfl) (by kernel_rfl) Try.underlying2 Try.underlying2 Try.underlying4 hv0 h0
  clear hA0
  simp only [List.append_nil] at hW'
  refine (law_c ps v0 W hH hform hmax).mono fun e W' ⟨he, hN⟩ => ?_
  subst he
  have hargs : ∀ sp : Nat → Bool, (∀ x ∈ p, sp x.block = true) → DataW.TrodAll enc Try.prog W' 0 sp true [68] [v0] [d0] p := fun sp hsp => by
    have t0 := WideElems.Trod_stays (sp' := sp) (W' := W') laidOut (by kernel_rfl) (of_decide_eq_true (by kernel_rfl)) h0 (fun x hx => Below.same hN (hW'.lt x hx)) (fun x hx => hsp x hx)
    exact trodAll_mk1 t0
  exact ⟨_, rfl, post_new (pa := p) (pv := []) hW' (fun _ _ _ => trodAll_mk1 (shut_bool Try.underlying4 _)) hargs (fun _ _ => rfl) (List.append_nil p).symm hN (ok_one (by kernel_rfl) rfl (okWide_bool_mk Try.underlying4 _))⟩

set_option maxRecDepth 100000 in
theorem lifted (os : Os) (started : os.Started) (H : Type) (enc : TypeId × Value → H) :
    ReturnsInHanded {} Try.checked os 13 .any (Rows.fnExactTableOfSequenceSpec.pre6 enc Try.prog Try.f13 Rows.fnExactTableOfSequenceRow.domain false) (Rows.fnExactTableOfSequenceSpec.post enc Try.prog Try.f13 false true false false) := by
  refine returnsInHanded_of_change (C := Try.checked) own started (by kernel_rfl) Try.func13
    (ChangeSpec.witness6 (enc := enc) (C := Try.checked) false ⟨#[], #[.slice none 0 0], []⟩ 8 (by kernel_rfl) (by kernel_rfl) (by kernel_rfl) (by kernel_rfl)) ?_
  intro W base args ds gs before hval hW _ _
  exact contract H enc W base args ds gs before hval hW

theorem proved : Rows.FnExactTableOfSequenceSaid :=
  OpenClaim.holds_of_wide 13 Try.f13 rfl rfl rfl rfl rfl rfl rfl ⟨rfl, rfl, rfl, rfl, rfl⟩ rfl rfl rfl rfl rfl (by kernel_rfl) Try.func13 (by kernel_rfl)
    (of_decide_eq_true (by kernel_rfl)) (by unfold Func.isWrapper; first | (rw [if_pos (by decide +kernel)]; kernel_rfl) | (rw [if_neg (by decide +kernel)]; exact ⟨rfl, rfl⟩))
    (fun os started H enc _ => lifted os started H enc)
end Go.Proofs.Ytmbjomjpnfnbkaa
