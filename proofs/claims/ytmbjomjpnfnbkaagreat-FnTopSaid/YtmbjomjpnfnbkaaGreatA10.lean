/-
  Walks of the program's greatest of the parts of numbers, of the distance of tables, and of a step's error.
-/
import Derived.Test.YtmbjomjpnfnbkaaGreatA9
set_option linter.unusedSimpArgs false
set_option linter.unusedVariables false
namespace Go.Proofs.YtmbjomjpnfnbkaaGreat
open Go.RowKit Flt

/-- 'max' of two numbers. -/
def mx (x y : Nat) : Nat := match FloatKind.f32.format.order x y with
  | some .lt => y
  | some .gt => x
  | _ => if (FloatKind.f32.decode x).neg then y else x
theorem mx_cases {x y : Nat} (hx : fin S x = true) (hy : fin S y = true) : (mx x y = x ∧ val S y ≤ val S x) ∨ (mx x y = y ∧ val S x ≤ val S y) := by
  have e : FloatKind.f32.format.order x y = S.order x y := rfl
  unfold mx
  rw [e, order_fin S hx hy]
  by_cases h1 : val S x < val S y
  · rw [if_pos h1]; right; exact ⟨rfl, by grind⟩
  · rw [if_neg h1]
    by_cases h2 : val S x = val S y
    · rw [if_pos h2]; simp only
      split
      · right; exact ⟨rfl, by grind⟩
      · left; exact ⟨rfl, by grind⟩
    · rw [if_neg h2]; left; exact ⟨rfl, by grind⟩
theorem max2_run {P : Program} {x y : Nat} (hx : fin S x = true) (hy : fin S y = true) (w : World) : (Builtin.max2 (.float .f32 x) (.float .f32 y)).run P w = .ok (.float .f32 (mx x y)) w := by
  have e : FloatKind.f32.format.order x y = S.order x y := rfl
  unfold Builtin.max2 mx
  simp only [e, order_fin S hx hy]
  by_cases h1 : val S x < val S y
  · simp only [if_pos h1]; rfl
  · by_cases h2 : val S x = val S y
    · simp only [if_neg h1, if_pos h2]; rfl
    · simp only [if_neg h1, if_neg h2]; rfl
theorem mx_fin {x y : Nat} (hx : fin S x = true) (hy : fin S y = true) : fin S (mx x y) = true := by
  rcases mx_cases hx hy with h | h <;> rw [h.1] <;> assumption
theorem max_run2 {P : Program} (ats : Array TypeId) (ty : TypeId) {x y : Nat} (hx : fin S x = true) (hy : fin S y = true) (w : World) : (Builtin.max_ ats ty #[.float .f32 x, .float .f32 y]).run P w = .ok (.float .f32 (mx x y)) w := by
  simp [Builtin.max_, go_sem, max2_run hx hy]
theorem max_run3 {P : Program} (ats : Array TypeId) (ty : TypeId) {x y z : Nat} (hx : fin S x = true) (hy : fin S y = true) (hz : fin S z = true) (w : World) : (Builtin.max_ ats ty #[.float .f32 x, .float .f32 y, .float .f32 z]).run P w = .ok (.float .f32 (mx (mx x y) z)) w := by
  simp [Builtin.max_, go_sem, max2_run hx hy, max2_run (mx_fin hx hy) hz]



/-- 'size'. -/
def sizeM (x : Nat) : Nat := mx (zn x) (zn (ng x))
theorem sizeM_fin {x : Nat} (h : FW x) : fin S (sizeM x) = true := mx_fin (zn_fin h.2) (zn_fin (ng_fin h.1 h.2).1)



/-- 'greatest' of one complex number. -/
def greatM (x y : Nat) : Nat := mx (mx 0 (sizeM x)) (sizeM y)
theorem greatM_fin {x y : Nat} (hx : FW x) (hy : FW y) : fin S (greatM x y) = true := mx_fin (mx_fin fin0 (sizeM_fin hx)) (sizeM_fin hy)


end Go.Proofs.YtmbjomjpnfnbkaaGreat
