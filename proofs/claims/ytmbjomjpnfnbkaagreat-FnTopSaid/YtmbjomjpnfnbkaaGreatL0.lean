/-
  Opening the statements' arguments of floats; what the heads of the lifts share.
-/
import Derived.Test.YtmbjomjpnfnbkaaGreatRows
import Derived.Test.YtmbjomjpnfnbkaaGreatK0
import Derived.ProofKit
import Derived.OpenShut
set_option linter.unusedSimpArgs false
set_option linter.unusedVariables false
namespace Go.Proofs.YtmbjomjpnfnbkaaGreat
open Go.RowKit Go.ChangeShapes Go.WideShapes Flt

theorem own : ownKnob Tryz.prog.godebug = none := by kernel_rfl
theorem laidOut : laidOutB Tryz.prog = true := by kernel_rfl

section
variable {H : Type} {enc : TypeId × Value → H} {P : Program} {w : World} {base : Nat} {spare : Nat → Bool} {held : Bool}

theorem float_of_trod {E : TypeId} (ht : P.underlying E = some (.float .f32)) {n : Nat} {c : Value} {y : DataW H × List MemPlace} (h : DataW.trod enc P w base spare held n E [c] = some y) : ∃ b, c = .float .f32 b ∧ b < 2 ^ 32 ∧ y.2 = [] := by
  cases n with
  | zero => simp [DataW.trod] at h
  | succ m =>
    unfold DataW.trod at h
    rw [ht] at h
    cases c with
    | float k b =>
      simp only at h
      split at h
      · rename_i hk
        obtain ⟨rfl, hw⟩ := hk
        simp only [Option.some.injEq] at h
        subst h
        exact ⟨b, rfl, by simpa [Lit.wf] using hw, rfl⟩
      · cases h
    | _ => simp at h

theorem open_v3' {E T : TypeId} (he : P.underlying E = some (.float .f32)) (ht : P.underlying T = some (.array 3 E)) (hc : P.cellsOf T = 3) (hc1 : P.cellsOf E = 1)
    {b0 : Nat} {v : Value} {d : DataW H} {p : List MemPlace} (hval : Value.okWide P w .any b0 T v) (h : DataW.Trod enc P w base spare held T v d p) :
    ∃ x y z, v = V3 x y z ∧ p = [] ∧ x < 2 ^ 32 ∧ y < 2 ^ 32 ∧ z < 2 ^ 32 := by
  unfold Value.okWide at hval
  rw [ht] at hval
  obtain ⟨cs, rfl, hs, _⟩ := hval
  obtain ⟨fuel, hf⟩ := h
  obtain ⟨xs, m, rfl, hx, hl, hn, hi⟩ := DataW.trod_array ht hf
  rw [hc] at hs
  rw [hc1] at hi
  obtain ⟨l⟩ := cs
  match l, hs with
  | [c0, c1, c2], _ =>
    have i0 := hi 0 (by decide)
    have i1 := hi 1 (by decide)
    have i2 := hi 2 (by decide)
    match xs, hn with
    | [y0, y1, y2], _ =>
      simp [Value.cells] at i0 i1 i2
      obtain ⟨x, rfl, hx1, e0⟩ := float_of_trod he i0
      obtain ⟨y, rfl, hy1, e1⟩ := float_of_trod he i1
      obtain ⟨z, rfl, hz1, e2⟩ := float_of_trod he i2
      refine ⟨x, y, z, rfl, ?_, hx1, hy1, hz1⟩
      have : p = (d, p).2 := rfl
      rw [this, hx]
      simp [e0, e1, e2]
end

theorem hu32 : Tryz.prog.underlying 38 = some (.float .f32) := Tryz.underlying38
theorem hu3 : Tryz.prog.underlying 40 = some (.array 3 38) := Tryz.underlying40
theorem hc3 : Tryz.prog.cellsOf 40 = 3 := by kernel_rfl
theorem hc1 : Tryz.prog.cellsOf 38 = 1 := by kernel_rfl

/-- 'post' of a law that answers true and makes new blocks alone. -/
theorem post_new {H : Type} {enc : TypeId × Value → H} {P : Program} {f : Func} {s : ChangeSpec} {apart fresh handsOn again : Bool} {W W' : World} {args : Array Value} {v : Value} {ds gs : List (DataW H)} {before pa pv : List MemPlace}
    (hW : DataW.Whole enc P f.params.toList s.vars apart W args.toList ds gs before)
    (hres : ∀ (b : Nat) (sp : Nat → Bool) (hd : Bool), DataW.TrodAll enc P W' b sp hd f.resultTypes.toList (v.resultList f.resultTypes.size) (s.fn H (ds ++ gs)).results [])
    (hargs : ∀ sp : Nat → Bool, (∀ p ∈ before, sp p.block = true) → DataW.TrodAll enc P W' 0 sp true f.params.toList args.toList (s.fn H (ds ++ gs)).args pa)
    (hvars : ∀ sp : Nat → Bool, (∀ p ∈ before, sp p.block = true) → DataW.TrodVars enc P W' sp s.vars (s.fn H (ds ++ gs)).vars pv)
    (hps : before = pa ++ pv) (hN : New W W')
    (hok : ∀ (j : Nat) (t : TypeId) (r : Value), f.resultTypes[j]? = some t → (v.resultList f.resultTypes.size)[j]? = some r → Value.okWide P W' .any 0 t r) :
    s.post enc P f apart fresh handsOn again W args v W' := by
  have hold : ∀ p ∈ before, (fun b => decide (b < W.heap.size)) p.block = true := fun p hp => by simpa using hW.lt p hp
  have hlt : ∀ p ∈ before, p.block < W.heap.size := fun p hp => hW.lt p hp
  refine ⟨ds, gs, before, [], pa, pv, hW, hres _ _ _, hargs _ hold, hvars _ hold, World.keptBut_mono (fun p hp => ⟨hp, ?_⟩) (Below.frame hN (· ∈ before)), fun _ => ?_⟩
  · rw [hps, List.mem_append] at hp
    exact Or.inr hp
  · obtain ⟨_, _, _, _, _, hz, hn⟩ := hW
    refine ⟨hok, _, _, ([] ++ pa) ++ pv, ⟨[] ++ pa, pv, trodAll_append (hargs _ (fun _ _ => rfl)) (hres _ _ _), hvars _ (fun _ _ => rfl), rfl, ?_, ?_⟩, ?_⟩
    · intro b off hp
      have hb : MemPlace.cell b off ∈ before := by rw [hps]; simpa using hp
      rw [Below.frozen hN (hlt _ hb)]
      exact hz b off hb
    · intro ha
      have := hn ha
      rw [hps] at this
      simpa using this
    · intro p hp _
      rw [hps]
      simpa using hp
end Go.Proofs.YtmbjomjpnfnbkaaGreat
