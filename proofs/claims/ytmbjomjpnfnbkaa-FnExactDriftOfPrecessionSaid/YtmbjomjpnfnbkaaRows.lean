/-
  No cell of these rows narrows 'for every input' (looked for: loops, veiled, ifaces, maps, wideKeys, modest, calm, conditions, laid).
  DERIVED. THE GIVEN ROWS OF THIS SEAT. 11 by the template 'for every input the law returns true; each argument reads behind the call as it read before'; 0 by the template 'total and deterministic' (their statements: YtmbjomjpnfnbkaaTotals.lean).
  GIVEN WITH THE SEED: the statements are not yours to turn. If you find one false, say at which input.
  Laid BY PROGRAM, IN A SANDBOX (cutbox-rows.mjs): the forced cells as the released guide's own fill.sh prints them over the translation 7f402d100bc238ce… (all of the seat's roots in one cut). By AI agents, Wed Nov 11 2026. No macro, syntax, notation, axiom, sorry.
-/
import Derived.Test.YtmbjomjpnfnbkaaChecked
import GoSem.Claim
import GoSem.ClaimJoined
import GoSem.ClaimMapViews
import Derived.JoinedTies
import Derived.KernelRfl
namespace Go.Proofs.Ytmbjomjpnfnbkaa
/- THE CELL 'sum', in the pinned program and in every row, IS THE sha256 OF THE DUMP (.gsa) THAT YtmbjomjpnfnbkaaProg.lean LOADS. Nothing in Lean hashes anything: it is a label: what it is worth is what the hold of that sum in a sandbox is worth. -/
noncomputable def Try.pinned : Pinned := { name := "ytmbjomjpnfnbkaa", sum := "7f402d100bc238ce5fadb538e2d46a6eb0b77dcabf5e711369664d178b0d6d4e", checked := Try.checked }
namespace Rows
def none {H : Type} : Left H := { results := [], args := [] }

/-- 'laws.FnExactNewDesk': WHATEVER THE INPUT: true; the input reads as it did. -/
def fnExactNewDeskSpec : ChangeSpec := { name := "fnExactNewDesk", fn := fun _ => fun
  | [] => { results := [.lit (.bool true)], args := [] }
  | _ => none }
def fnExactNewDeskRow : OpenClaim := { program := "ytmbjomjpnfnbkaa", sum := "7f402d100bc238ce5fadb538e2d46a6eb0b77dcabf5e711369664d178b0d6d4e", func := "loop.example/g01214/laws.FnExactNewDesk", spec := "fnExactNewDesk", apart := false }
def FnExactNewDeskSaid : Prop := fnExactNewDeskRow.holds Try.pinned (OpenSpec.ofChange fnExactNewDeskSpec)

/-- ITS FALSE NEIGHBOUR: 'it returns false'. Refute it at one input. -/
def fnExactNewDeskWrong : ChangeSpec := { name := "fnExactNewDesk", fn := fun _ => fun
  | [] => { results := [.lit (.bool false)], args := [] }
  | _ => none }
def FnExactNewDeskWrongFalsely : Prop := fnExactNewDeskRow.holds Try.pinned (OpenSpec.ofChange fnExactNewDeskWrong)

/-- 'laws.FnExactMixtureOfVector': WHATEVER THE INPUT: true; the input reads as it did. -/
def fnExactMixtureOfVectorSpec : ChangeSpec := { name := "fnExactMixtureOfVector", fn := fun _ => fun
  | [d] => { results := [.lit (.bool true)], args := [d] }
  | _ => none }
def fnExactMixtureOfVectorRow : OpenClaim := { program := "ytmbjomjpnfnbkaa", sum := "7f402d100bc238ce5fadb538e2d46a6eb0b77dcabf5e711369664d178b0d6d4e", func := "loop.example/g01214/laws.FnExactMixtureOfVector", spec := "fnExactMixtureOfVector", inPlace := ["math.Float64bits", "math.Float64frombits"], unfollowed := true, recurses := true, apart := false }
def FnExactMixtureOfVectorSaid : Prop := fnExactMixtureOfVectorRow.holds Try.pinned (OpenSpec.ofChange fnExactMixtureOfVectorSpec)

/-- ITS FALSE NEIGHBOUR: 'it returns false'. Refute it at one input. -/
def fnExactMixtureOfVectorWrong : ChangeSpec := { name := "fnExactMixtureOfVector", fn := fun _ => fun
  | [d] => { results := [.lit (.bool false)], args := [d] }
  | _ => none }
def FnExactMixtureOfVectorWrongFalsely : Prop := fnExactMixtureOfVectorRow.holds Try.pinned (OpenSpec.ofChange fnExactMixtureOfVectorWrong)

/-- 'laws.FnExactCompensatedSum': WHATEVER THE INPUT: true; the input reads as it did. -/
def fnExactCompensatedSumSpec : ChangeSpec := { name := "fnExactCompensatedSum", fn := fun _ => fun
  | [d] => { results := [.lit (.bool true)], args := [d] }
  | _ => none }
def fnExactCompensatedSumRow : OpenClaim := { program := "ytmbjomjpnfnbkaa", sum := "7f402d100bc238ce5fadb538e2d46a6eb0b77dcabf5e711369664d178b0d6d4e", func := "loop.example/g01214/laws.FnExactCompensatedSum", spec := "fnExactCompensatedSum", inPlace := ["math.Float64bits", "math.Float64frombits"], unfollowed := true, recurses := true, apart := false }
def FnExactCompensatedSumSaid : Prop := fnExactCompensatedSumRow.holds Try.pinned (OpenSpec.ofChange fnExactCompensatedSumSpec)

/-- ITS FALSE NEIGHBOUR: 'it returns false'. Refute it at one input. -/
def fnExactCompensatedSumWrong : ChangeSpec := { name := "fnExactCompensatedSum", fn := fun _ => fun
  | [d] => { results := [.lit (.bool false)], args := [d] }
  | _ => none }
def FnExactCompensatedSumWrongFalsely : Prop := fnExactCompensatedSumRow.holds Try.pinned (OpenSpec.ofChange fnExactCompensatedSumWrong)

/-- 'laws.FnExactStepOfField': WHATEVER THE INPUT: true; the input reads as it did. -/
def fnExactStepOfFieldSpec : ChangeSpec := { name := "fnExactStepOfField", fn := fun _ => fun
  | [d1, d2] => { results := [.lit (.bool true)], args := [d1, d2] }
  | _ => none }
def fnExactStepOfFieldRow : OpenClaim := { program := "ytmbjomjpnfnbkaa", sum := "7f402d100bc238ce5fadb538e2d46a6eb0b77dcabf5e711369664d178b0d6d4e", func := "loop.example/g01214/laws.FnExactStepOfField", spec := "fnExactStepOfField", inPlace := ["math.Float64bits", "math.Float64frombits"], unfollowed := true, recurses := true, apart := false }
def FnExactStepOfFieldSaid : Prop := fnExactStepOfFieldRow.holds Try.pinned (OpenSpec.ofChange fnExactStepOfFieldSpec)

/-- ITS FALSE NEIGHBOUR: 'it returns false'. Refute it at one input. -/
def fnExactStepOfFieldWrong : ChangeSpec := { name := "fnExactStepOfField", fn := fun _ => fun
  | [d1, d2] => { results := [.lit (.bool false)], args := [d1, d2] }
  | _ => none }
def FnExactStepOfFieldWrongFalsely : Prop := fnExactStepOfFieldRow.holds Try.pinned (OpenSpec.ofChange fnExactStepOfFieldWrong)

/-- 'laws.FnExactRampFields': WHATEVER THE INPUT: true; the input reads as it did. -/
def fnExactRampFieldsSpec : ChangeSpec := { name := "fnExactRampFields", fn := fun _ => fun
  | [d1, d2, d3] => { results := [.lit (.bool true)], args := [d1, d2, d3] }
  | _ => none }
def fnExactRampFieldsRow : OpenClaim := { program := "ytmbjomjpnfnbkaa", sum := "7f402d100bc238ce5fadb538e2d46a6eb0b77dcabf5e711369664d178b0d6d4e", func := "loop.example/g01214/laws.FnExactRampFields", spec := "fnExactRampFields", inPlace := ["math.Float64bits", "math.Float64frombits"], unfollowed := true, recurses := true, apart := false }
def FnExactRampFieldsSaid : Prop := fnExactRampFieldsRow.holds Try.pinned (OpenSpec.ofChange fnExactRampFieldsSpec)

/-- ITS FALSE NEIGHBOUR: 'it returns false'. Refute it at one input. -/
def fnExactRampFieldsWrong : ChangeSpec := { name := "fnExactRampFields", fn := fun _ => fun
  | [d1, d2, d3] => { results := [.lit (.bool false)], args := [d1, d2, d3] }
  | _ => none }
def FnExactRampFieldsWrongFalsely : Prop := fnExactRampFieldsRow.holds Try.pinned (OpenSpec.ofChange fnExactRampFieldsWrong)

/-- 'laws.FnExactSplitStep': WHATEVER THE INPUT: true; the input reads as it did. -/
def fnExactSplitStepSpec : ChangeSpec := { name := "fnExactSplitStep", fn := fun _ => fun
  | [d1, d2] => { results := [.lit (.bool true)], args := [d1, d2] }
  | _ => none }
def fnExactSplitStepRow : OpenClaim := { program := "ytmbjomjpnfnbkaa", sum := "7f402d100bc238ce5fadb538e2d46a6eb0b77dcabf5e711369664d178b0d6d4e", func := "loop.example/g01214/laws.FnExactSplitStep", spec := "fnExactSplitStep", inPlace := ["math.Float64bits", "math.Float64frombits"], unfollowed := true, recurses := true, apart := false }
def FnExactSplitStepSaid : Prop := fnExactSplitStepRow.holds Try.pinned (OpenSpec.ofChange fnExactSplitStepSpec)

/-- ITS FALSE NEIGHBOUR: 'it returns false'. Refute it at one input. -/
def fnExactSplitStepWrong : ChangeSpec := { name := "fnExactSplitStep", fn := fun _ => fun
  | [d1, d2] => { results := [.lit (.bool false)], args := [d1, d2] }
  | _ => none }
def FnExactSplitStepWrongFalsely : Prop := fnExactSplitStepRow.holds Try.pinned (OpenSpec.ofChange fnExactSplitStepWrong)

/-- 'laws.FnExactErrorOfStep': WHATEVER THE INPUT: true; the input reads as it did. -/
def fnExactErrorOfStepSpec : ChangeSpec := { name := "fnExactErrorOfStep", fn := fun _ => fun
  | [d1, d2] => { results := [.lit (.bool true)], args := [d1, d2] }
  | _ => none }
def fnExactErrorOfStepRow : OpenClaim := { program := "ytmbjomjpnfnbkaa", sum := "7f402d100bc238ce5fadb538e2d46a6eb0b77dcabf5e711369664d178b0d6d4e", func := "loop.example/g01214/laws.FnExactErrorOfStep", spec := "fnExactErrorOfStep", inPlace := ["math.Float64bits", "math.Float64frombits"], unfollowed := true, recurses := true, apart := false }
def FnExactErrorOfStepSaid : Prop := fnExactErrorOfStepRow.holds Try.pinned (OpenSpec.ofChange fnExactErrorOfStepSpec)

/-- ITS FALSE NEIGHBOUR: 'it returns false'. Refute it at one input. -/
def fnExactErrorOfStepWrong : ChangeSpec := { name := "fnExactErrorOfStep", fn := fun _ => fun
  | [d1, d2] => { results := [.lit (.bool false)], args := [d1, d2] }
  | _ => none }
def FnExactErrorOfStepWrongFalsely : Prop := fnExactErrorOfStepRow.holds Try.pinned (OpenSpec.ofChange fnExactErrorOfStepWrong)

/-- 'laws.FnExactSpinorAlong': WHATEVER THE INPUT: true; the input reads as it did. -/
def fnExactSpinorAlongSpec : ChangeSpec := { name := "fnExactSpinorAlong", fn := fun _ => fun
  | [d] => { results := [.lit (.bool true)], args := [d] }
  | _ => none }
def fnExactSpinorAlongRow : OpenClaim := { program := "ytmbjomjpnfnbkaa", sum := "7f402d100bc238ce5fadb538e2d46a6eb0b77dcabf5e711369664d178b0d6d4e", func := "loop.example/g01214/laws.FnExactSpinorAlong", spec := "fnExactSpinorAlong", inPlace := ["math.Float64bits", "math.Float64frombits", "math.sqrt"], unfollowed := true, recurses := true, apart := false }
def FnExactSpinorAlongSaid : Prop := fnExactSpinorAlongRow.holds Try.pinned (OpenSpec.ofChange fnExactSpinorAlongSpec)

/-- ITS FALSE NEIGHBOUR: 'it returns false'. Refute it at one input. -/
def fnExactSpinorAlongWrong : ChangeSpec := { name := "fnExactSpinorAlong", fn := fun _ => fun
  | [d] => { results := [.lit (.bool false)], args := [d] }
  | _ => none }
def FnExactSpinorAlongWrongFalsely : Prop := fnExactSpinorAlongRow.holds Try.pinned (OpenSpec.ofChange fnExactSpinorAlongWrong)

/-- 'laws.FnExactChooseStep': WHATEVER THE INPUT: true; the input reads as it did. -/
def fnExactChooseStepSpec : ChangeSpec := { name := "fnExactChooseStep", fn := fun _ => fun
  | [d1, d2, d3] => { results := [.lit (.bool true)], args := [d1, d2, d3] }
  | _ => none }
def fnExactChooseStepRow : OpenClaim := { program := "ytmbjomjpnfnbkaa", sum := "7f402d100bc238ce5fadb538e2d46a6eb0b77dcabf5e711369664d178b0d6d4e", func := "loop.example/g01214/laws.FnExactChooseStep", spec := "fnExactChooseStep", inPlace := ["math.Float64bits", "math.Float64frombits"], unfollowed := true, recurses := true, apart := false }
def FnExactChooseStepSaid : Prop := fnExactChooseStepRow.holds Try.pinned (OpenSpec.ofChange fnExactChooseStepSpec)

/-- ITS FALSE NEIGHBOUR: 'it returns false'. Refute it at one input. -/
def fnExactChooseStepWrong : ChangeSpec := { name := "fnExactChooseStep", fn := fun _ => fun
  | [d1, d2, d3] => { results := [.lit (.bool false)], args := [d1, d2, d3] }
  | _ => none }
def FnExactChooseStepWrongFalsely : Prop := fnExactChooseStepRow.holds Try.pinned (OpenSpec.ofChange fnExactChooseStepWrong)

/-- 'laws.FnExactDriftOfPrecession': WHATEVER THE INPUT: true; the input reads as it did. -/
def fnExactDriftOfPrecessionSpec : ChangeSpec := { name := "fnExactDriftOfPrecession", fn := fun _ => fun
  | [d1, d2, d3] => { results := [.lit (.bool true)], args := [d1, d2, d3] }
  | _ => none }
def fnExactDriftOfPrecessionRow : OpenClaim := { program := "ytmbjomjpnfnbkaa", sum := "7f402d100bc238ce5fadb538e2d46a6eb0b77dcabf5e711369664d178b0d6d4e", func := "loop.example/g01214/laws.FnExactDriftOfPrecession", spec := "fnExactDriftOfPrecession", inPlace := ["math.Float64bits", "math.Float64frombits"], unfollowed := true, recurses := true, apart := false }
def FnExactDriftOfPrecessionSaid : Prop := fnExactDriftOfPrecessionRow.holds Try.pinned (OpenSpec.ofChange fnExactDriftOfPrecessionSpec)

/-- ITS FALSE NEIGHBOUR: 'it returns false'. Refute it at one input. -/
def fnExactDriftOfPrecessionWrong : ChangeSpec := { name := "fnExactDriftOfPrecession", fn := fun _ => fun
  | [d1, d2, d3] => { results := [.lit (.bool false)], args := [d1, d2, d3] }
  | _ => none }
def FnExactDriftOfPrecessionWrongFalsely : Prop := fnExactDriftOfPrecessionRow.holds Try.pinned (OpenSpec.ofChange fnExactDriftOfPrecessionWrong)

/-- 'laws.FnExactTableOfSequence': WHATEVER THE INPUT: true; the input reads as it did. -/
def fnExactTableOfSequenceSpec : ChangeSpec := { name := "fnExactTableOfSequence", fn := fun _ => fun
  | [d] => { results := [.lit (.bool true)], args := [d] }
  | _ => none }
def fnExactTableOfSequenceRow : OpenClaim := { program := "ytmbjomjpnfnbkaa", sum := "7f402d100bc238ce5fadb538e2d46a6eb0b77dcabf5e711369664d178b0d6d4e", func := "loop.example/g01214/laws.FnExactTableOfSequence", spec := "fnExactTableOfSequence", inPlace := ["math.Float64bits", "math.Float64frombits", "math.sqrt"], unfollowed := true, recurses := true, apart := false }
def FnExactTableOfSequenceSaid : Prop := fnExactTableOfSequenceRow.holds Try.pinned (OpenSpec.ofChange fnExactTableOfSequenceSpec)

/-- ITS FALSE NEIGHBOUR: 'it returns false'. Refute it at one input. -/
def fnExactTableOfSequenceWrong : ChangeSpec := { name := "fnExactTableOfSequence", fn := fun _ => fun
  | [d] => { results := [.lit (.bool false)], args := [d] }
  | _ => none }
def FnExactTableOfSequenceWrongFalsely : Prop := fnExactTableOfSequenceRow.holds Try.pinned (OpenSpec.ofChange fnExactTableOfSequenceWrong)

/- THE SECOND FORM. 'bulk': how many values and letters a reading holds, each counted each time it is reached (what is shared counts as often as it is met; a slice's spare places count too). A statement '..UptoSaid' is the law's where the arguments, and the package variables that the reading takes, are together of bulk at most 1048576: NARROWER than '..Said'. Prove '..Said' where nothing that the law and all that it calls make is longer than what came in: it says more and counts as full. Else prove '..UptoSaid'. A law counts once. -/
mutual
def uptoBulk {H : Type} : DataW H → Nat
  | .lit (.string bytes) => bytes.length + 1
  | .lit _ => 1
  | .nil => 1
  | .ptr d => uptoBulk d + 1
  | .slice elems spare => uptoBulkAll elems + uptoBulkAll spare + 1
  | .agg parts => uptoBulkAll parts + 1
  | .iface _ d => uptoBulk d + 1
  | .map entries => uptoBulkEntries entries + 1
  | .held _ => 1
def uptoBulkAll {H : Type} : List (DataW H) → Nat
  | [] => 0
  | d :: r => uptoBulk d + uptoBulkAll r
def uptoBulkEntries {H : Type} : List (Lit × DataW H) → Nat
  | [] => 0
  | x :: r => uptoBulkEntry x + uptoBulkEntries r
def uptoBulkEntry {H : Type} : Lit × DataW H → Nat
  | (.string bytes, d) => bytes.length + uptoBulk d + 1
  | (_, d) => uptoBulk d + 1
 end
def uptoSmall : (H : Type) → List (DataW H) → Bool := fun _ ds => decide (uptoBulkAll ds ≤ 1048576)
def OpenSpec.upto (s : _root_.Go.ChangeSpec) : _root_.Go.OpenSpec := { _root_.Go.OpenSpec.ofChange s with cond := some uptoSmall }

/-- 'laws.FnExactNewDesk', WHERE WHAT IT READS IS OF BULK AT MOST 1048576: true; the input reads as it did. -/
def fnExactNewDeskUptoRow : OpenClaim := { program := "ytmbjomjpnfnbkaa", sum := "7f402d100bc238ce5fadb538e2d46a6eb0b77dcabf5e711369664d178b0d6d4e", func := "loop.example/g01214/laws.FnExactNewDesk", spec := "fnExactNewDesk", apart := false, narrowed := true }
def FnExactNewDeskUptoSaid : Prop := fnExactNewDeskUptoRow.holds Try.pinned (OpenSpec.upto fnExactNewDeskSpec)

/-- 'laws.FnExactMixtureOfVector', WHERE WHAT IT READS IS OF BULK AT MOST 1048576: true; the input reads as it did. -/
def fnExactMixtureOfVectorUptoRow : OpenClaim := { program := "ytmbjomjpnfnbkaa", sum := "7f402d100bc238ce5fadb538e2d46a6eb0b77dcabf5e711369664d178b0d6d4e", func := "loop.example/g01214/laws.FnExactMixtureOfVector", spec := "fnExactMixtureOfVector", inPlace := ["math.Float64bits", "math.Float64frombits"], unfollowed := true, recurses := true, apart := false, narrowed := true }
def FnExactMixtureOfVectorUptoSaid : Prop := fnExactMixtureOfVectorUptoRow.holds Try.pinned (OpenSpec.upto fnExactMixtureOfVectorSpec)

/-- 'laws.FnExactCompensatedSum', WHERE WHAT IT READS IS OF BULK AT MOST 1048576: true; the input reads as it did. -/
def fnExactCompensatedSumUptoRow : OpenClaim := { program := "ytmbjomjpnfnbkaa", sum := "7f402d100bc238ce5fadb538e2d46a6eb0b77dcabf5e711369664d178b0d6d4e", func := "loop.example/g01214/laws.FnExactCompensatedSum", spec := "fnExactCompensatedSum", inPlace := ["math.Float64bits", "math.Float64frombits"], unfollowed := true, recurses := true, apart := false, narrowed := true }
def FnExactCompensatedSumUptoSaid : Prop := fnExactCompensatedSumUptoRow.holds Try.pinned (OpenSpec.upto fnExactCompensatedSumSpec)

/-- 'laws.FnExactStepOfField', WHERE WHAT IT READS IS OF BULK AT MOST 1048576: true; the input reads as it did. -/
def fnExactStepOfFieldUptoRow : OpenClaim := { program := "ytmbjomjpnfnbkaa", sum := "7f402d100bc238ce5fadb538e2d46a6eb0b77dcabf5e711369664d178b0d6d4e", func := "loop.example/g01214/laws.FnExactStepOfField", spec := "fnExactStepOfField", inPlace := ["math.Float64bits", "math.Float64frombits"], unfollowed := true, recurses := true, apart := false, narrowed := true }
def FnExactStepOfFieldUptoSaid : Prop := fnExactStepOfFieldUptoRow.holds Try.pinned (OpenSpec.upto fnExactStepOfFieldSpec)

/-- 'laws.FnExactRampFields', WHERE WHAT IT READS IS OF BULK AT MOST 1048576: true; the input reads as it did. -/
def fnExactRampFieldsUptoRow : OpenClaim := { program := "ytmbjomjpnfnbkaa", sum := "7f402d100bc238ce5fadb538e2d46a6eb0b77dcabf5e711369664d178b0d6d4e", func := "loop.example/g01214/laws.FnExactRampFields", spec := "fnExactRampFields", inPlace := ["math.Float64bits", "math.Float64frombits"], unfollowed := true, recurses := true, apart := false, narrowed := true }
def FnExactRampFieldsUptoSaid : Prop := fnExactRampFieldsUptoRow.holds Try.pinned (OpenSpec.upto fnExactRampFieldsSpec)

/-- 'laws.FnExactSplitStep', WHERE WHAT IT READS IS OF BULK AT MOST 1048576: true; the input reads as it did. -/
def fnExactSplitStepUptoRow : OpenClaim := { program := "ytmbjomjpnfnbkaa", sum := "7f402d100bc238ce5fadb538e2d46a6eb0b77dcabf5e711369664d178b0d6d4e", func := "loop.example/g01214/laws.FnExactSplitStep", spec := "fnExactSplitStep", inPlace := ["math.Float64bits", "math.Float64frombits"], unfollowed := true, recurses := true, apart := false, narrowed := true }
def FnExactSplitStepUptoSaid : Prop := fnExactSplitStepUptoRow.holds Try.pinned (OpenSpec.upto fnExactSplitStepSpec)

/-- 'laws.FnExactErrorOfStep', WHERE WHAT IT READS IS OF BULK AT MOST 1048576: true; the input reads as it did. -/
def fnExactErrorOfStepUptoRow : OpenClaim := { program := "ytmbjomjpnfnbkaa", sum := "7f402d100bc238ce5fadb538e2d46a6eb0b77dcabf5e711369664d178b0d6d4e", func := "loop.example/g01214/laws.FnExactErrorOfStep", spec := "fnExactErrorOfStep", inPlace := ["math.Float64bits", "math.Float64frombits"], unfollowed := true, recurses := true, apart := false, narrowed := true }
def FnExactErrorOfStepUptoSaid : Prop := fnExactErrorOfStepUptoRow.holds Try.pinned (OpenSpec.upto fnExactErrorOfStepSpec)

/-- 'laws.FnExactSpinorAlong', WHERE WHAT IT READS IS OF BULK AT MOST 1048576: true; the input reads as it did. -/
def fnExactSpinorAlongUptoRow : OpenClaim := { program := "ytmbjomjpnfnbkaa", sum := "7f402d100bc238ce5fadb538e2d46a6eb0b77dcabf5e711369664d178b0d6d4e", func := "loop.example/g01214/laws.FnExactSpinorAlong", spec := "fnExactSpinorAlong", inPlace := ["math.Float64bits", "math.Float64frombits", "math.sqrt"], unfollowed := true, recurses := true, apart := false, narrowed := true }
def FnExactSpinorAlongUptoSaid : Prop := fnExactSpinorAlongUptoRow.holds Try.pinned (OpenSpec.upto fnExactSpinorAlongSpec)

/-- 'laws.FnExactChooseStep', WHERE WHAT IT READS IS OF BULK AT MOST 1048576: true; the input reads as it did. -/
def fnExactChooseStepUptoRow : OpenClaim := { program := "ytmbjomjpnfnbkaa", sum := "7f402d100bc238ce5fadb538e2d46a6eb0b77dcabf5e711369664d178b0d6d4e", func := "loop.example/g01214/laws.FnExactChooseStep", spec := "fnExactChooseStep", inPlace := ["math.Float64bits", "math.Float64frombits"], unfollowed := true, recurses := true, apart := false, narrowed := true }
def FnExactChooseStepUptoSaid : Prop := fnExactChooseStepUptoRow.holds Try.pinned (OpenSpec.upto fnExactChooseStepSpec)

/-- 'laws.FnExactDriftOfPrecession', WHERE WHAT IT READS IS OF BULK AT MOST 1048576: true; the input reads as it did. -/
def fnExactDriftOfPrecessionUptoRow : OpenClaim := { program := "ytmbjomjpnfnbkaa", sum := "7f402d100bc238ce5fadb538e2d46a6eb0b77dcabf5e711369664d178b0d6d4e", func := "loop.example/g01214/laws.FnExactDriftOfPrecession", spec := "fnExactDriftOfPrecession", inPlace := ["math.Float64bits", "math.Float64frombits"], unfollowed := true, recurses := true, apart := false, narrowed := true }
def FnExactDriftOfPrecessionUptoSaid : Prop := fnExactDriftOfPrecessionUptoRow.holds Try.pinned (OpenSpec.upto fnExactDriftOfPrecessionSpec)

/-- 'laws.FnExactTableOfSequence', WHERE WHAT IT READS IS OF BULK AT MOST 1048576: true; the input reads as it did. -/
def fnExactTableOfSequenceUptoRow : OpenClaim := { program := "ytmbjomjpnfnbkaa", sum := "7f402d100bc238ce5fadb538e2d46a6eb0b77dcabf5e711369664d178b0d6d4e", func := "loop.example/g01214/laws.FnExactTableOfSequence", spec := "fnExactTableOfSequence", inPlace := ["math.Float64bits", "math.Float64frombits", "math.sqrt"], unfollowed := true, recurses := true, apart := false, narrowed := true }
def FnExactTableOfSequenceUptoSaid : Prop := fnExactTableOfSequenceUptoRow.holds Try.pinned (OpenSpec.upto fnExactTableOfSequenceSpec)

end Rows
end Go.Proofs.Ytmbjomjpnfnbkaa
