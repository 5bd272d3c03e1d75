/-
  The law FnTop answers true at every code: sequences, their tables and inverses, vectors and pairs hang together. No conditions.
-/
import Derived.Test.YtmbjomjpnfnbkaaGreatU17
import Derived.Test.YtmbjomjpnfnbkaaGreatL0
import Derived.ProofKit
import Derived.Deep.Slices
set_option linter.unusedSimpArgs false
set_option linter.unusedVariables false
namespace Go.Proofs.YtmbjomjpnfnbkaaGreat
open Go.RowKit Go.ChangeShapes Go.WideShapes Flt

section
variable {H : Type} {enc : TypeId × Value → H} {P : Program} {w : World} {base : Nat} {spare : Nat → Bool} {held : Bool}
def byteOf' (v : Value) : Int := match v with
  | .int _ b => b
  | _ => 0
/-- A list of bytes, opened. -/
theorem open_bytes {E T : TypeId} (he : P.underlying E = some (.int .u8)) (ht : P.underlying T = some (.slice E)) (hc1 : P.cellsOf E = 1)
    {b0 : Nat} {v : Value} {d : DataW H} {p : List MemPlace} (hval : Value.okWide P w .any b0 T v) (h : DataW.Trod enc P w base spare held T v d p) :
    ∃ n : Nat, Bs w v n ∧ ∃ q cap, v = .slice q n cap := by
  have hval' := hval
  obtain ⟨oa, len0, cap0, rfl⟩ := okWide_slice ht hval
  obtain ⟨fuel, hf⟩ := h
  rcases Go.Deep.open_slice1 ht hc1 hf with ⟨h1, _⟩ | ⟨a, len, cap, m, n, V, D, Pl, h1, _, hl, _, hm, _, hx⟩
  · simp [Value.cells] at h1
    obtain ⟨rfl, rfl, rfl⟩ := h1
    exact ⟨0, .inr ⟨rfl, rfl⟩, none, 0, rfl⟩
  · simp [Value.cells] at h1
    obtain ⟨rfl, rfl, rfl⟩ := h1
    have hle : len0 ≤ m := by rw [hm]; split <;> omega
    simp only [Value.okWide, ht, Cell.okWide, Cell.ok] at hval'
    obtain ⟨_, _, _, hspot, row, cells, hsh, _⟩ := hval'
    obtain ⟨b, off, spot⟩ := a
    simp only at hspot
    subst hspot
    have hb : b < w.heap.size := by
      unfold World.shape? at hsh
      apply Classical.byContradiction
      intro hn
      have : w.heap[b]? = none := Array.getElem?_eq_none (by omega)
      simp [this] at hsh
    refine ⟨len0, .inl ⟨b, off, cap0, rfl, hb, fun j hj => ?_⟩, _, cap0, rfl⟩
    obtain ⟨c, t⟩ := hx j (by omega)
    obtain ⟨k, e, _, hw⟩ := DataW.trod_int he t
    simp at e
    rw [e] at c
    have hr : 0 ≤ k ∧ k ≤ 255 := by
      simp [Lit.wf] at hw
      have m0 : IntKind.u8.min = 0 := by decide
      have m1 : IntKind.u8.max = 255 := by decide
      have h1 := hw.1
      have h2 := hw.2
      rw [m0] at h1
      rw [m1] at h2
      exact ⟨h1, h2⟩
    rw [Go.WideShapes.add_plain] at c
    exact ⟨k, hr.1, hr.2, c⟩
end

theorem law_c (n : Nat) (v : Value) (w : World) (h : Bs w v n) (hf : ∃ q cap, v = .slice q n cap) :
    Calls Tryz.prog 3 #[v] w fun e w' => e = .returned (.bool true) ∧ New w w' := by
  by_cases hl : n ≤ 4096
  · exact fnTop_c v n w hl h hf
  · obtain ⟨q, cap, rfl⟩ := hf
    exact fnTop_big q n cap w (by omega)

set_option maxRecDepth 100000 in
theorem contract (H : Type) (enc : TypeId × Value → H) (W : World) (base : Nat) (args : Array Value) (ds gs : List (DataW H)) (before : List MemPlace)
    (hval : ∀ (j : Nat) t v, Tryz.f3.params[j]? = some t → args[j]? = some v → Value.okWide Tryz.prog W .any base t v)
    (hW : DataW.Whole enc Tryz.prog Tryz.f3.params.toList Rows.fnTopSpec.vars false W args.toList ds gs before) :
    Calls Tryz.prog 3 args W fun e W' => ∃ v, e = .returned v ∧ Rows.fnTopSpec.post enc Tryz.prog Tryz.f3 false true false false W args v W' := by
  have hW' := hW
  obtain ⟨p, q, hA0, hV, rfl, hfz, hnd⟩ := hW
  have hA : DataW.TrodAll enc Tryz.prog W 0 (fun _ => true) true Tryz.f3.params.toList args.toList ds p := hA0
  rw [Tryz.params3] at hA hval
  obtain ⟨v0, d0, rfl, rfl, h0⟩ := trodAll_one hA
  obtain ⟨rfl, rfl⟩ := trodVars_none hV
  have hv0 := hval 0 22 v0 rfl rfl
  obtain ⟨n, hH, hf⟩ := open_bytes Tryz.underlying5 Tryz.underlying22 (by kernel_rfl) hv0 h0
  clear hA0
  simp only [List.append_nil] at hW'
  refine (law_c n v0 W hH hf).mono fun e W' ⟨he, hN⟩ => ?_
  subst he
  have hargs : ∀ sp : Nat → Bool, (∀ x ∈ p, sp x.block = true) → DataW.TrodAll enc Tryz.prog W' 0 sp true [22] [v0] [d0] p := fun sp hsp => by
    have t0 := WideElems.Trod_stays (sp' := sp) (W' := W') laidOut (by kernel_rfl) (of_decide_eq_true (by kernel_rfl)) h0 (fun x hx => Below.same hN (hW'.lt x hx)) (fun x hx => hsp x hx)
    exact trodAll_mk1 t0
  exact ⟨_, rfl, post_new (pa := p) (pv := []) hW' (fun _ _ _ => trodAll_mk1 (shut_bool Tryz.underlying4 _)) hargs (fun _ _ => rfl) (List.append_nil p).symm hN (ok_one (by kernel_rfl) rfl (okWide_bool_mk Tryz.underlying4 _))⟩

set_option maxRecDepth 100000 in
theorem lifted (os : Os) (started : os.Started) (H : Type) (enc : TypeId × Value → H) :
    ReturnsInHanded {} Tryz.checked os 3 .any (Rows.fnTopSpec.pre6 enc Tryz.prog Tryz.f3 Rows.fnTopRow.domain false) (Rows.fnTopSpec.post enc Tryz.prog Tryz.f3 false true false false) := by
  refine returnsInHanded_of_change (C := Tryz.checked) own started (by kernel_rfl) Tryz.func3
    (ChangeSpec.witness6 (enc := enc) (C := Tryz.checked) false ⟨#[], #[.slice none 0 0], []⟩ 8 (by kernel_rfl) (by kernel_rfl) (by kernel_rfl) (by kernel_rfl)) ?_
  intro W base args ds gs before hval hW _ _
  exact contract H enc W base args ds gs before hval hW

theorem proved : Rows.FnTopSaid :=
  OpenClaim.holds_of_wide 3 Tryz.f3 rfl rfl rfl rfl rfl rfl rfl ⟨rfl, rfl, rfl, rfl, rfl⟩ rfl rfl rfl rfl rfl (by kernel_rfl) Tryz.func3 (by kernel_rfl)
    (of_decide_eq_true (by kernel_rfl)) (by unfold Func.isWrapper; first | (rw [if_pos (by decide +kernel)]; kernel_rfl) | (rw [if_neg (by decide +kernel)]; exact ⟨rfl, rfl⟩))
    (fun os started H enc _ => lifted os started H enc)
end Go.Proofs.YtmbjomjpnfnbkaaGreat
