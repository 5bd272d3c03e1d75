/-
  Walks of the program's greatest of the parts of numbers, of the distance of tables, and of a step's error.
-/
import Derived.Test.YtmbjomjpnfnbkaaA9
set_option linter.unusedSimpArgs false
set_option linter.unusedVariables false
namespace Go.Proofs.Ytmbjomjpnfnbkaa
open Go.RowKit Flt

/-- 'max' of two numbers. -/
def mx (x y : Nat) : Nat := match FloatKind.f32.format.order x y with
  | some .lt => y
  | some .gt => x
  | _ => if (FloatKind.f32.decode x).neg then y else x
theorem mx_cases {x y : Nat} (hx : fin S x = true) (hy : fin S y = true) : (mx x y = x ∧ val S y ≤ val S x) ∨ (mx x y = y ∧ val S x ≤ val S y) := by
  have e : FloatKind.f32.format.order x y = S.order x y := rfl
  unfold mx
  rw [e, order_fin S hx hy]
  by_cases h1 : val S x < val S y
  · rw [if_pos h1]; right; exact ⟨rfl, by grind⟩
  · rw [if_neg h1]
    by_cases h2 : val S x = val S y
    · rw [if_pos h2]; simp only
      split
      · right; exact ⟨rfl, by grind⟩
      · left; exact ⟨rfl, by grind⟩
    · rw [if_neg h2]; left; exact ⟨rfl, by grind⟩
theorem max2_run {P : Program} {x y : Nat} (hx : fin S x = true) (hy : fin S y = true) (w : World) : (Builtin.max2 (.float .f32 x) (.float .f32 y)).run P w = .ok (.float .f32 (mx x y)) w := by
  have e : FloatKind.f32.format.order x y = S.order x y := rfl
  unfold Builtin.max2 mx
  simp only [e, order_fin S hx hy]
  by_cases h1 : val S x < val S y
  · simp only [if_pos h1]; rfl
  · by_cases h2 : val S x = val S y
    · simp only [if_neg h1, if_pos h2]; rfl
    · simp only [if_neg h1, if_neg h2]; rfl
theorem mx_fin {x y : Nat} (hx : fin S x = true) (hy : fin S y = true) : fin S (mx x y) = true := by
  rcases mx_cases hx hy with h | h <;> rw [h.1] <;> assumption
theorem max_run2 {P : Program} (ats : Array TypeId) (ty : TypeId) {x y : Nat} (hx : fin S x = true) (hy : fin S y = true) (w : World) : (Builtin.max_ ats ty #[.float .f32 x, .float .f32 y]).run P w = .ok (.float .f32 (mx x y)) w := by
  simp [Builtin.max_, go_sem, max2_run hx hy]
theorem max_run3 {P : Program} (ats : Array TypeId) (ty : TypeId) {x y z : Nat} (hx : fin S x = true) (hy : fin S y = true) (hz : fin S z = true) (w : World) : (Builtin.max_ ats ty #[.float .f32 x, .float .f32 y, .float .f32 z]).run P w = .ok (.float .f32 (mx (mx x y) z)) w := by
  simp [Builtin.max_, go_sem, max2_run hx hy, max2_run (mx_fin hx hy) hz]

theorem clean_c (x : Nat) (w : World) :
    Calls Try.prog 96 #[.float .f32 x] w fun e w' => e = .returned (.float .f32 (zn x)) ∧ w = w' := by
  cases hz : isZ x with
  | true =>
    have hzn : zn x = 0 := if_pos hz
    rw [hzn]
    have hc : (FloatKind.f32.format.order x 0 == some .eq) = true := hz
    clear hz hzn
    go_enter Try.func96, Try.ntmps96
    go_wp2
    go_ret; exact ⟨rfl, rfl⟩
  | false =>
    have hzn : zn x = x := if_neg (by simp [hz])
    rw [hzn]
    have hc : (FloatKind.f32.format.order x 0 == some .eq) = false := hz
    clear hz hzn
    go_enter Try.func96, Try.ntmps96
    go_wp2
    go_ret; exact ⟨rfl, rfl⟩

/-- 'size'. -/
def sizeM (x : Nat) : Nat := mx (zn x) (zn (ng x))
theorem sizeM_fin {x : Nat} (h : FW x) : fin S (sizeM x) = true := mx_fin (zn_fin h.2) (zn_fin (ng_fin h.1 h.2).1)

theorem size_c (x : Nat) (w : World) (h : FW x) :
    Calls Try.prog 120 #[.float .f32 x] w fun e w' => e = .returned (.float .f32 (sizeM x)) ∧ w = w' := by
  have hm := fun ats ty w => max_run2 (P := Try.prog) ats ty (zn_fin h.2) (zn_fin (ng_fin h.1 h.2).1) w
  unfold sizeM
  go_enter Try.func120, Try.ntmps120
  go_wp2_with fail
  refine (clean_c x _).mono ?_; rintro e w' ⟨rfl, rfl⟩
  go_wp2_with fail
  refine (clean_c _ _).mono ?_; rintro e w' ⟨rfl, rfl⟩
  go_wp2
  go_ret; exact ⟨rfl, rfl⟩

/-- 'greatest' of one complex number. -/
def greatM (x y : Nat) : Nat := mx (mx 0 (sizeM x)) (sizeM y)
theorem greatM_fin {x y : Nat} (hx : FW x) (hy : FW y) : fin S (greatM x y) = true := mx_fin (mx_fin fin0 (sizeM_fin hx)) (sizeM_fin hy)

theorem greatest_c (x y : Nat) (B : Nat) (cp : Nat) (w : World) (hx : FW x) (hy : FW y) (hc : w.cell? ⟨B, 0, none⟩ = some (.complex .f32 x y)) :
    Calls Try.prog 143 #[.slice (some ⟨B, 0, none⟩) 1 cp] w fun e w' => e = .returned (.float .f32 (greatM x y)) ∧ w = w' := by
  have hm := fun ats ty w => max_run3 (P := Try.prog) ats ty fin0 (sizeM_fin hx) (sizeM_fin hy) w
  unfold greatM
  go_enter Try.func143, Try.ntmps143
  go_wp2_with fail
  refine wp_loop_rounds 2 ?_; rw [rounds_succ]
  go_wp2_with fail
  refine (size_c x _ hx).mono ?_; rintro e w' ⟨rfl, rfl⟩
  go_wp2_with fail
  refine (size_c y _ hy).mono ?_; rintro e w' ⟨rfl, rfl⟩
  go_wp2_with fail
  rw [rounds_succ]
  go_wp2
  go_ret; exact ⟨rfl, rfl⟩
end Go.Proofs.Ytmbjomjpnfnbkaa
