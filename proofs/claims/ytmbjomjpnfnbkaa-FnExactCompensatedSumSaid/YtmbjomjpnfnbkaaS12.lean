/-
  The law FnExactCompensatedSum answers true at every list of numbers: the program's compensated sum is the reference's. No conditions.
-/
import Derived.Test.YtmbjomjpnfnbkaaE3
import Derived.Test.YtmbjomjpnfnbkaaL0
import Derived.ProofKit
import Derived.Deep.Slices
set_option linter.unusedSimpArgs false
set_option linter.unusedVariables false
namespace Go.Proofs.Ytmbjomjpnfnbkaa
open Go.RowKit Go.ChangeShapes Go.WideShapes Flt

section
variable {H : Type} {enc : TypeId × Value → H} {P : Program} {w : World} {base : Nat} {spare : Nat → Bool} {held : Bool}
def bitsOf (v : Value) : Nat := match v with
  | .float _ b => b
  | _ => 0
/-- A list of numbers, opened. -/
theorem open_floats {E T : TypeId} (he : P.underlying E = some (.float .f32)) (ht : P.underlying T = some (.slice E)) (hc1 : P.cellsOf E = 1)
    {b0 : Nat} {v : Value} {d : DataW H} {p : List MemPlace} (hval : Value.okWide P w .any b0 T v) (h : DataW.Trod enc P w base spare held T v d p) :
    ∃ xs : List Nat, Held w v xs ∧ ∀ x ∈ xs, x < 2 ^ 32 := by
  obtain ⟨oa, len0, cap0, rfl⟩ := okWide_slice ht hval
  obtain ⟨fuel, hf⟩ := h
  rcases Go.Deep.open_slice1 ht hc1 hf with ⟨h1, _⟩ | ⟨a, len, cap, m, n, V, D, Pl, h1, _, hl, _, hm, _, hx⟩
  · simp [Value.cells] at h1
    obtain ⟨rfl, rfl, rfl⟩ := h1
    exact ⟨[], .inl ⟨rfl, rfl⟩, fun x h => nomatch h⟩
  · simp [Value.cells] at h1
    obtain ⟨rfl, rfl, rfl⟩ := h1
    have hle : len0 ≤ m := by rw [hm]; split <;> omega
    have key : ∀ i, i < len0 → V i = .float .f32 (bitsOf (V i)) ∧ bitsOf (V i) < 2 ^ 32 ∧ w.cell? (a.add i) = some (.float .f32 (bitsOf (V i))) := fun i hi => by
      obtain ⟨c, t⟩ := hx i (by omega)
      obtain ⟨b, e, hb, _⟩ := float_of_trod he t
      rw [e] at c ⊢
      exact ⟨rfl, hb, c⟩
    refine ⟨(List.range len0).map fun i => bitsOf (V i), .inr ⟨a, cap0, by simp, fun j hj => ?_⟩, fun x h => ?_⟩
    · have hj' : j < len0 := by simpa using hj
      have e : ((List.range len0).map fun i => bitsOf (V i)).getD j 0 = bitsOf (V j) := by simp [List.getD, hj']
      rw [e]; exact (key j hj').2.2
    · obtain ⟨i, hi, rfl⟩ := List.mem_map.1 h
      exact (key i (List.mem_range.1 hi)).2.1
end

theorem law_c (xs : List Nat) (v : Value) (w : World) (hx : ∀ x ∈ xs, x < 2 ^ 32) (h : Held w v xs) :
    Calls Try.prog 5 #[v] w fun e w' => e = .returned (.bool true) ∧ New w w' := by
  by_cases hl : xs.length ≤ 1048576
  · exact law_s xs v w hl hx h 0 (h.imp id fun ⟨a, cp, e, _⟩ => ⟨a, cp, e⟩)
  · rcases h with ⟨_, rfl⟩ | ⟨a, cp, rfl, _⟩
    · exact absurd (Nat.zero_le _) hl
    · exact law_big a xs.length cp w (by omega)

set_option maxRecDepth 100000 in
theorem contract (H : Type) (enc : TypeId × Value → H) (W : World) (base : Nat) (args : Array Value) (ds gs : List (DataW H)) (before : List MemPlace)
    (hval : ∀ (j : Nat) t v, Try.f5.params[j]? = some t → args[j]? = some v → Value.okWide Try.prog W .any base t v)
    (hW : DataW.Whole enc Try.prog Try.f5.params.toList Rows.fnExactCompensatedSumSpec.vars false W args.toList ds gs before) :
    Calls Try.prog 5 args W fun e W' => ∃ v, e = .returned v ∧ Rows.fnExactCompensatedSumSpec.post enc Try.prog Try.f5 false true false false W args v W' := by
  have hW' := hW
  obtain ⟨p, q, hA0, hV, rfl, hfz, hnd⟩ := hW
  have hA : DataW.TrodAll enc Try.prog W 0 (fun _ => true) true Try.f5.params.toList args.toList ds p := hA0
  rw [Try.params5] at hA hval
  obtain ⟨v0, d0, rfl, rfl, h0⟩ := trodAll_one hA
  obtain ⟨rfl, rfl⟩ := trodVars_none hV
  have hv0 := hval 0 42 v0 rfl rfl
  obtain ⟨xs, hH, hx⟩ := open_floats hu32 Try.underlying42 hc1 hv0 h0
  clear hA0
  simp only [List.append_nil] at hW'
  refine (law_c xs v0 W hx hH).mono fun e W' ⟨he, hN⟩ => ?_
  subst he
  have hargs : ∀ sp : Nat → Bool, (∀ x ∈ p, sp x.block = true) → DataW.TrodAll enc Try.prog W' 0 sp true [42] [v0] [d0] p := fun sp hsp => by
    have t0 := WideElems.Trod_stays (sp' := sp) (W' := W') laidOut (by kernel_rfl) (of_decide_eq_true (by kernel_rfl)) h0 (fun x hx => Below.same hN (hW'.lt x hx)) (fun x hx => hsp x hx)
    exact trodAll_mk1 t0
  exact ⟨_, rfl, post_new (pa := p) (pv := []) hW' (fun _ _ _ => trodAll_mk1 (shut_bool Try.underlying4 _)) hargs (fun _ _ => rfl) (List.append_nil p).symm hN (ok_one (by kernel_rfl) rfl (okWide_bool_mk Try.underlying4 _))⟩

set_option maxRecDepth 100000 in
theorem lifted (os : Os) (started : os.Started) (H : Type) (enc : TypeId × Value → H) :
    ReturnsInHanded {} Try.checked os 5 .any (Rows.fnExactCompensatedSumSpec.pre6 enc Try.prog Try.f5 Rows.fnExactCompensatedSumRow.domain false) (Rows.fnExactCompensatedSumSpec.post enc Try.prog Try.f5 false true false false) := by
  refine returnsInHanded_of_change (C := Try.checked) own started (by kernel_rfl) Try.func5
    (ChangeSpec.witness6 (enc := enc) (C := Try.checked) false ⟨#[], #[.slice none 0 0], []⟩ 8 (by kernel_rfl) (by kernel_rfl) (by kernel_rfl) (by kernel_rfl)) ?_
  intro W base args ds gs before hval hW _ _
  exact contract H enc W base args ds gs before hval hW

theorem proved : Rows.FnExactCompensatedSumSaid :=
  OpenClaim.holds_of_wide 5 Try.f5 rfl rfl rfl rfl rfl rfl rfl ⟨rfl, rfl, rfl, rfl, rfl⟩ rfl rfl rfl rfl rfl (by kernel_rfl) Try.func5 (by kernel_rfl)
    (of_decide_eq_true (by kernel_rfl)) (by unfold Func.isWrapper; first | (rw [if_pos (by decide +kernel)]; kernel_rfl) | (rw [if_neg (by decide +kernel)]; exact ⟨rfl, rfl⟩))
    (fun os started H enc _ => lifted os started H enc)
end Go.Proofs.Ytmbjomjpnfnbkaa
