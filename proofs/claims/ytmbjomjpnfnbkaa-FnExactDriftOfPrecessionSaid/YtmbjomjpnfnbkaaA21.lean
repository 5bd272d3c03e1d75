/-
  Walks of the numbers of steps, of what is told of a list of vectors and its code, and of the program's RampFields.
-/
import Derived.Test.YtmbjomjpnfnbkaaA20
import Derived.Test.YtmbjomjpnfnbkaaK2
import Derived.Test.YtmbjomjpnfnbkaaA8
set_option linter.unusedSimpArgs false
set_option linter.unusedVariables false
namespace Go.Proofs.Ytmbjomjpnfnbkaa
open Go.RowKit Flt

theorem isSteps_c (n l : Int) (w : World) :
    Calls Try.prog 82 #[.int .i64 n, .int .i64 l] w fun e w' => e = .returned (.bool (inB n l 300)) ∧ w = w' := by
  go_enter Try.func82, Try.ntmps82
  go_wp2_with fail
  refine (within_c _ _ _ _).mono ?_; rintro e w' ⟨rfl, rfl⟩
  go_wp2
  go_ret; exact ⟨rfl, rfl⟩

/-- What is told of a list and its code. -/
def toldV (u : Value) (c : Int) : Value := if c = 0 then u else .slice none 0 0
theorem toldL_c (b : Nat) (c : Int) (u : Value) (w : World) (hA : At b c w) :
    Calls Try.prog 83 #[.pointer (some ⟨b, 0, none⟩), u] w fun e w' => e = .returned (.tuple #[toldV u c, .int .i64 c]) ∧ New w w' := by
  have hlt := hA.lt
  have hc := hA.1
  unfold toldV
  by_cases h0 : c = 0
  · subst h0
    rw [if_pos rfl]
    go_enter Try.func83, Try.ntmps83
    go_wp2
    refine bodyPost_ret (v := .tuple #[u, .int .i64 0]) (by simp [results, Try.results83, go_sem]) rfl ⟨rfl, New.refl w⟩
  · rw [if_neg h0]
    have h1 : (c != 0) = true := by simpa using h0
    have e3 : w.cell? ⟨b, 0, none⟩ = some (.int .i64 c) := hc
    clear h0 hc
    go_enter Try.func83, Try.ntmps83
    go_wp2
    go_region
    all_goals
      go_wp2
      refine bodyPost_ret (v := .tuple #[.slice none 0 0, .int .i64 c]) (by simp [results, Try.results83, go_sem]) rfl ⟨rfl, ?_⟩
      exact (New.refl w).drew
end Go.Proofs.Ytmbjomjpnfnbkaa
