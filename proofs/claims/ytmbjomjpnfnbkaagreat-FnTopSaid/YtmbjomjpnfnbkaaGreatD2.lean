/-
  Walks of the reference's step of a field.
-/
import Derived.Test.YtmbjomjpnfnbkaaGreatD1
set_option linter.unusedSimpArgs false
set_option linter.unusedVariables false
namespace Go.Proofs.YtmbjomjpnfnbkaaGreat
open Go.RowKit Flt





/-- The table of parts, bare. -/
def tabS (p x y z : Nat) : C8 := ⟨0, p, ng z, ng y, ng x, y, ng x, p, z⟩
theorem l03Table_c (p x y z : Nat) (w : World) :
    Calls Tryz.prog 85 #[.float .f32 p, .float .f32 x, .float .f32 y, .float .f32 z] w fun e w' => e = .returned (tabS p x y z).val ∧ New w w' := by
  go_enter Tryz.func85, Tryz.ntmps85
  go_wp2
  go_returns
  exact ⟨rfl, (New.refl w).alloc _⟩
end Go.Proofs.YtmbjomjpnfnbkaaGreat
