/-
  Walks of the code of a field's arguments, of what is told of a result and its code, and of the program's StepOfField.
-/
import Derived.Test.YtmbjomjpnfnbkaaGreatA5
import Derived.Test.YtmbjomjpnfnbkaaGreatA7
set_option linter.unusedSimpArgs false
set_option linter.unusedVariables false
namespace Go.Proofs.YtmbjomjpnfnbkaaGreat
open Go.RowKit Flt

def fcode (v n s i : Bool) : Int := if (v && n && s) = true then (if i = true then 0 else 2) else 1
theorem ret_int {k : IntKind} {a b : Int} (h : a = b) : Ending.returned (.int k a) = .returned (.int k b) := by rw [h]



/-- What is told of a table and its code. -/
def toldC (t : C8) : C8 := if t.c = 0 then t else ⟨t.c, 0, 0, 0, 0, 0, 0, 0, 0⟩
abbrev C8.told (t : C8) : Value := .tuple #[t.val, .int .i64 t.c]

set_option maxHeartbeats 400000 in
theorem toldT_c (b : Nat) (t : C8) (w : World) (hA : At b t.c w) :
    Calls Tryz.prog 18 #[.pointer (some ⟨b, 0, none⟩), t.val] w fun e w' => e = .returned (toldC t).told ∧ New w w' := by
  have hlt := hA.lt
  obtain ⟨c, a0, a1, b0, b1, c0, c1, d0, d1⟩ := t
  have hc := hA.1
  simp only at hc
  by_cases h0 : c = 0
  · subst h0
    have hR : (toldC ⟨0, a0, a1, b0, b1, c0, c1, d0, d1⟩).told = .tuple #[T4 a0 a1 b0 b1 c0 c1 d0 d1, .int .i64 0] := rfl
    have HR := hid hR
    clear hR
    go_enter Tryz.func18, Tryz.ntmps18
    go_wp2
    refine bodyPost_ret (v := .tuple #[T4 a0 a1 b0 b1 c0 c1 d0 d1, .int .i64 0]) (by simp [results, Tryz.results18, go_sem]) rfl ⟨by rw [HR.out], ?_⟩
    exact ((New.refl w).alloc _).alloc _
  · have hR : (toldC ⟨c, a0, a1, b0, b1, c0, c1, d0, d1⟩).told = .tuple #[T4 0 0 0 0 0 0 0 0, .int .i64 c] := by unfold toldC; rw [if_neg h0]
    have HR := hid hR
    have h1 : (c != 0) = true := by simpa using h0
    have e3 : ∀ o1 o2 o3, (((w.alloc o1).alloc o2).alloc o3).cell? ⟨b, 0, none⟩ = some (.int .i64 c) := fun o1 o2 o3 => (((hA.alloc o1).alloc o2).alloc o3).1
    clear hR h0
    go_enter Tryz.func18, Tryz.ntmps18
    go_wp2
    go_region
    all_goals
      go_wp2
      refine bodyPost_ret (v := .tuple #[T4 0 0 0 0 0 0 0 0, .int .i64 c]) (by simp [results, Tryz.results18, go_sem]) rfl ⟨by rw [HR.out], ?_⟩
      exact ((((New.refl w).alloc _).alloc _).alloc _).drew

theorem cell_alloc {w : World} {k o : Nat} {v : Value} (hv : w.cell? ⟨k, o, none⟩ = some v) (b : Obj) : (w.alloc b).cell? ⟨k, o, none⟩ = some v := by
  rw [World.cell?_alloc_lt _ _ _ (cell_lt hv)]; exact hv
theorem frozen_alloc {w : World} {k o : Nat} (hl : k < w.heap.size) (hf : w.frozen? ⟨k, o, none⟩ = false) (b : Obj) : (w.alloc b).frozen? ⟨k, o, none⟩ = false := by
  rw [World.frozen?_alloc_old _ _ _ (by show k ≠ w.heap.size; omega)]; exact hf
/-- A call that turned a cell of the call's own alone. -/
theorem New.ext {b : Nat} {c : Int} {w w' w'' : World} {o : Obj} (h : New w w') (k : Ext b c (w'.alloc o) w'') (hb : w.heap.size ≤ b) : New w w'' :=
  ⟨k.os.trans h.os, k.tape.trans h.tape, k.output.trans h.output, by have := k.size; have := h.size; simp at *; omega, fun i hi => by
    have h1 := h.size
    rw [k.block i (by simp; omega) (by omega), Below.heap_alloc _ _ _ (by omega)]; exact h.block i hi⟩
theorem At.new (w : World) (c : Int) (T : TypeId) : At w.heap.size c (w.alloc (.cells #[.int .i64 c] T)) := ⟨by go_simp, by go_simp⟩

def bad8 (c : Int) : C8 := ⟨c, 0, 0, 0, 0, 0, 0, 0, 0⟩

end Go.Proofs.YtmbjomjpnfnbkaaGreat
