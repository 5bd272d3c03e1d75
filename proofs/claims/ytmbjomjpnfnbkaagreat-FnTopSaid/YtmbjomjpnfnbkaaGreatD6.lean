/-
  Walks of the reference's distance of tables and of its questions on numbers and tables.
-/
import Derived.Test.YtmbjomjpnfnbkaaGreatD5
import Derived.Test.YtmbjomjpnfnbkaaGreatA11
set_option linter.unusedSimpArgs false
set_option linter.unusedVariables false
namespace Go.Proofs.YtmbjomjpnfnbkaaGreat
open Go.RowKit Flt

theorem Drw.trans {w w' w'' : World} (h : Drw w w') (k : Drw w' w'') : Drw w w'' := by
  obtain ⟨n, rfl⟩ := h; obtain ⟨m, rfl⟩ := k; exact ⟨n + m, by rw [World.drewN_drewN]⟩

theorem l01Whole_c (x y : Nat) (w : World) :
    Calls Tryz.prog 91 #[.complex .f32 x y] w fun e w' => e = .returned (.bool (fin S x && fin S y)) ∧ Drw w w' := by
  cases hx : fin S x with
  | false =>
    have Hx := hid hx
    clear hx
    go_enter Tryz.func91, Tryz.ntmps91
    go_wp2_with fail
    refine (fine_any x _).mono ?_; rintro e w' ⟨rfl, m, rfl⟩; rw [Hx.out]
    go_wp2
    go_ret; exact ⟨rfl, ⟨_, rfl⟩⟩
  | true =>
    have Hx := hid hx
    clear hx
    generalize hy : fin S y = v
    have Hy := hid hy
    clear hy
    go_enter Tryz.func91, Tryz.ntmps91
    go_wp2_with fail
    refine (fine_any x _).mono ?_; rintro e w' ⟨rfl, m, rfl⟩; rw [Hx.out]
    go_wp2_with fail
    refine (fine_any y _).mono ?_; rintro e w' ⟨rfl, k, rfl⟩; rw [Hy.out]
    go_wp2
    go_ret; exact ⟨by simp, ⟨_, rfl⟩⟩

/-- A table of numbers. -/
theorem l03Is_c (t : C8) (w : World) (h : Fw8 t) :
    Calls Tryz.prog 67 #[t.val] w fun e w' => e = .returned (.bool true) ∧ New w w' := by
  have W0 := fun w => l01Whole_c t.a0 t.a1 w
  have W1 := fun w => l01Whole_c t.b0 t.b1 w
  have W2 := fun w => l01Whole_c t.c0 t.c1 w
  have W3 := fun w => l01Whole_c t.d0 t.d1 w
  rw [h.a0.2, h.a1.2] at W0
  rw [h.b0.2, h.b1.2] at W1
  rw [h.c0.2, h.c1.2] at W2
  rw [h.d0.2, h.d1.2] at W3
  clear h
  obtain ⟨c, a0, a1, b0, b1, c0, c1, d0, d1⟩ := t
  simp only [Bool.and_true] at W0 W1 W2 W3
  go_enter Tryz.func67, Tryz.ntmps67
  go_wp2_with fail
  refine (W0 _).mono ?_; rintro e w' ⟨rfl, m, rfl⟩
  go_wp2_with fail
  refine (W1 _).mono ?_; rintro e w' ⟨rfl, m1, rfl⟩
  go_wp2_with fail
  refine (W2 _).mono ?_; rintro e w' ⟨rfl, m2, rfl⟩
  go_wp2_with fail
  refine (W3 _).mono ?_; rintro e w' ⟨rfl, m3, rfl⟩
  go_wp2
  go_ret
  refine ⟨rfl, ?_⟩
  exact ((New.refl w).alloc _).drewN _



/-- The absolute value, bare. -/
def szS (x : Nat) : Nat := if (FloatKind.f32.format.order x 0 == some .lt) = true then ng x else x



/-- The greater of two numbers, the first where neither is. -/
def upS (out x : Nat) : Nat := if (FloatKind.f32.format.order x out == some .gt) = true then x else out
end Go.Proofs.YtmbjomjpnfnbkaaGreat
