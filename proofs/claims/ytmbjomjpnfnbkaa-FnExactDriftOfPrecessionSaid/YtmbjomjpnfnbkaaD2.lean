/-
  Walks of the reference's step of a field.
-/
import Derived.Test.YtmbjomjpnfnbkaaD1
set_option linter.unusedSimpArgs false
set_option linter.unusedVariables false
namespace Go.Proofs.Ytmbjomjpnfnbkaa
open Go.RowKit Flt

theorem l09Is_c (x y z : Nat) (w : World) :
    Calls Try.prog 121 #[V3 x y z] w fun e w' => e = .returned (.bool (fin S x && fin S y && fin S z)) ∧ New w w' := by
  cases hx : fin S x with
  | false =>
    have Hx := hid hx
    clear hx
    go_enter Try.func121, Try.ntmps121
    go_wp2_with fail
    refine (fine_any x _).mono ?_; rintro e w' ⟨rfl, n, rfl⟩; rw [Hx.out]
    go_wp2
    go_ret
    exact ⟨rfl, ((New.refl w).alloc _).drewN n⟩
  | true =>
    cases hy : fin S y with
    | false =>
      have Hx := hid hx
      have Hy := hid hy
      clear hx hy
      go_enter Try.func121, Try.ntmps121
      go_wp2_with fail
      refine (fine_any x _).mono ?_; rintro e w' ⟨rfl, n, rfl⟩; rw [Hx.out]
      go_wp2_with fail
      refine (fine_any y _).mono ?_; rintro e w' ⟨rfl, m, rfl⟩; rw [Hy.out]
      go_wp2
      go_ret
      exact ⟨rfl, ((New.refl w).alloc _).drewN _⟩
    | true =>
      have Hx := hid hx
      have Hy := hid hy
      clear hx hy
      go_enter Try.func121, Try.ntmps121
      go_wp2_with fail
      refine (fine_any x _).mono ?_; rintro e w' ⟨rfl, n, rfl⟩; rw [Hx.out]
      go_wp2_with fail
      refine (fine_any y _).mono ?_; rintro e w' ⟨rfl, m, rfl⟩; rw [Hy.out]
      go_wp2_with fail
      refine (fine_any z _).mono ?_; rintro e w' ⟨rfl, k, rfl⟩
      go_wp2
      go_ret
      exact ⟨ret_bool (by simp), ((New.refl w).alloc _).drewN _⟩

theorem l09Inner_c (x y z : Nat) (w : World) (hx : fin S x = true) (hy : fin S y = true) (hz : fin S z = true) :
    Calls Try.prog 157 #[V3 x y z, V3 x y z] w fun e w' => e = .returned (.float .f32 (sqS x y z)) ∧ New w w' := by
  have m0 := fun (t : TypeId) (w : World) => run_float_arith (P := Try.prog) w .mul t .f32 x x (muls x x) (muls_eq hx hx).1
  have m1 := fun (t : TypeId) (w : World) => run_float_arith (P := Try.prog) w .mul t .f32 y y (muls y y) (muls_eq hy hy).1
  have m2 := fun (t : TypeId) (w : World) => run_float_arith (P := Try.prog) w .mul t .f32 z z (muls z z) (muls_eq hz hz).1
  have a1 := fun (t : TypeId) (w : World) => run_float_arith (P := Try.prog) w .add t .f32 _ _ _ (adds_pos (muls_pos hx) (muls_pos hy)).1
  have a2 := fun (t : TypeId) (w : World) => run_float_arith (P := Try.prog) w .add t .f32 _ _ _ (adds_pos (adds_pos (muls_pos hx) (muls_pos hy)).2.1 (muls_pos hz)).1
  go_enter Try.func157, Try.ntmps157
  go_wp2
  go_ret
  exact ⟨rfl, ((New.refl w).alloc _).alloc _⟩

/-- The table of parts, bare. -/
def tabS (p x y z : Nat) : C8 := ⟨0, p, ng z, ng y, ng x, y, ng x, p, z⟩
theorem l03Table_c (p x y z : Nat) (w : World) :
    Calls Try.prog 158 #[.float .f32 p, .float .f32 x, .float .f32 y, .float .f32 z] w fun e w' => e = .returned (tabS p x y z).val ∧ New w w' := by
  go_enter Try.func158, Try.ntmps158
  go_wp2
  go_returns
  exact ⟨rfl, (New.refl w).alloc _⟩
end Go.Proofs.Ytmbjomjpnfnbkaa
