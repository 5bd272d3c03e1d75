/-
  Walks of the reference's adjoints and tables of pulses.
-/
import Derived.Test.YtmbjomjpnfnbkaaGreatD20
set_option linter.unusedSimpArgs false
set_option linter.unusedVariables false
namespace Go.Proofs.YtmbjomjpnfnbkaaGreat
open Go.RowKit Flt

set_option maxHeartbeats 1000000 in
theorem l03Adjoint_c (t : C8) (w : World) :
    Calls Tryz.prog 90 #[t.val] w fun e w' => e = .returned (adjS t).val ∧ New w w' := by
  obtain ⟨c, a0, a1, b0, b1, c0, c1, d0, d1⟩ := t
  go_enter Tryz.func90, Tryz.ntmps90
  go_wp2
  go_region_held3 (fun w' => w'.cell? ⟨w.heap.size, 0, none⟩ = some (.complex .f32 a0 a1) ∧ w'.cell? ⟨w.heap.size, 1, none⟩ = some (.complex .f32 b0 b1) ∧ w'.cell? ⟨w.heap.size, 2, none⟩ = some (.complex .f32 c0 c1) ∧ w'.cell? ⟨w.heap.size, 3, none⟩ = some (.complex .f32 d0 d1)) ((refine ⟨?_, ?_, ?_, ?_⟩ <;> go_simp))
    (first | (go_at_call 97; (with_reducible refine (conjS_c _ _ _).mono ?_); rintro e w' ⟨rfl, rfl⟩))
  all_goals
    rename_i hh; clear hh
    go_wp2
    refine bodyPost_ret (v := T4 a0 (ng a1) c0 (ng c1) b0 (ng b1) d0 (ng d1)) (by simp [results, Tryz.results90, go_sem]) rfl ⟨rfl, ?_⟩
    exact (((New.refl w).alloc _).alloc _).drew

/-- A pulse: its axis, its halvings, whether it goes back. -/
structure PuN where
  a : Nat
  k : Nat
  back : Bool
def PuN.ok (p : PuN) : Prop := p.a ≤ 2 ∧ p.k ≤ 24
/-- The table of a pulse, bare. -/
def pulS (p : PuN) : C8 := if p.back = true then adjS (aboutS p.a (hC p.k) (hS p.k)) else aboutS p.a (hC p.k) (hS p.k)
abbrev PuN.val (p : PuN) : Value := .agg #[.int .i64 p.a, .int .i64 p.k, .bool p.back]

set_option maxHeartbeats 1000000 in
theorem l05Pulse_c (p : PuN) (w : World) (hp : p.ok) :
    Calls Tryz.prog 66 #[p.val] w fun e w' => e = .returned (pulS p).val ∧ New w w' := by
  obtain ⟨a, k, b⟩ := p
  have K1 := hid (fun w => l03Halved_c k w hp.2)
  have K2 := hid (fun w => l03About_c a (hC k) (hS k) w hp.1)
  cases b with
  | false =>
    show Calls Tryz.prog 66 #[.agg #[.int .i64 a, .int .i64 k, .bool false]] w fun e w' => e = .returned (aboutS a (hC k) (hS k)).val ∧ New w w'
    generalize aboutS a (hC k) (hS k) = t at *
    clear hp
    go_enter Tryz.func66, Tryz.ntmps66
    go_wp2_with fail
    with_reducible refine (K1.out _).mono ?_; rintro e w' ⟨rfl, rfl⟩
    go_wp2_with fail
    with_reducible refine (K2.out _).mono ?_; rintro e w1 ⟨rfl, hN⟩
    obtain ⟨l1, l2, l3⟩ := hN.laws
    have s1 := hN.size
    simp at s1
    have na1 : w.heap.size ≠ w1.heap.size := by omega
    have na2 : w.heap.size + 1 ≠ w1.heap.size := by omega
    have nl1 : w.heap.size < w1.heap.size := by omega
    have nl2 : w.heap.size + 1 < w1.heap.size := by omega
    go_wp2
    refine bodyPost_ret (v := t.val) (by simp [results, Tryz.results66, go_sem, l1, l2, l3]) rfl ⟨rfl, ?_⟩
    exact (New.set4 ((((New.refl w).alloc _).alloc _).trans hN) (Nat.le_succ _) _ _ _ _).alloc _
  | true =>
    show Calls Tryz.prog 66 #[.agg #[.int .i64 a, .int .i64 k, .bool true]] w fun e w' => e = .returned (adjS (aboutS a (hC k) (hS k))).val ∧ New w w'
    generalize aboutS a (hC k) (hS k) = t at *
    have K3 := hid (fun w => l03Adjoint_c t w)
    generalize adjS t = r at *
    clear hp
    go_enter Tryz.func66, Tryz.ntmps66
    go_wp2_with fail
    with_reducible refine (K1.out _).mono ?_; rintro e w' ⟨rfl, rfl⟩
    go_wp2_with fail
    with_reducible refine (K2.out _).mono ?_; rintro e w1 ⟨rfl, hN⟩
    obtain ⟨l1, l2, l3⟩ := hN.laws
    have s1 := hN.size
    simp at s1
    have na1 : w.heap.size ≠ w1.heap.size := by omega
    have na2 : w.heap.size + 1 ≠ w1.heap.size := by omega
    have nl1 : w.heap.size < w1.heap.size := by omega
    have nl2 : w.heap.size + 1 < w1.heap.size := by omega
    have i0 := hid (hN.cell_at (k := w.heap.size + 1) (o := 0) (v := .complex .f32 0 0) (by go_simp))
    have i1 := hid (hN.cell_at (k := w.heap.size + 1) (o := 1) (v := .complex .f32 0 0) (by go_simp))
    have i2 := hid (hN.cell_at (k := w.heap.size + 1) (o := 2) (v := .complex .f32 0 0) (by go_simp))
    have i3 := hid (hN.cell_at (k := w.heap.size + 1) (o := 3) (v := .complex .f32 0 0) (by go_simp))
    have q0 := hid (hN.frozen_at (k := w.heap.size + 1) (o := 0) (by simp) (by go_simp))
    have q1 := hid (hN.frozen_at (k := w.heap.size + 1) (o := 1) (by simp) (by go_simp))
    have q2 := hid (hN.frozen_at (k := w.heap.size + 1) (o := 2) (by simp) (by go_simp))
    have q3 := hid (hN.frozen_at (k := w.heap.size + 1) (o := 3) (by simp) (by go_simp))
    go_wp2_with fail
    with_reducible refine (K3.out _).mono ?_; rintro e w2 ⟨rfl, hN2⟩
    clear l1 l2 l3
    have hl : w.heap.size + 1 < (w1.alloc (.cells #[.complex .f32 t.a0 t.a1, .complex .f32 t.b0 t.b1, .complex .f32 t.c0 t.c1, .complex .f32 t.d0 t.d1] 29)).heap.size := by simp; omega
    have j0 := hN2.cell_at (cell_alloc i0.out _)
    have j1 := hN2.cell_at (cell_alloc i1.out _)
    have j2 := hN2.cell_at (cell_alloc i2.out _)
    have j3 := hN2.cell_at (cell_alloc i3.out _)
    have z0 := hN2.frozen_at (k := w.heap.size + 1) (o := 0) hl (frozen_alloc nl2 q0.out _)
    have z1 := hN2.frozen_at (k := w.heap.size + 1) (o := 1) hl (frozen_alloc nl2 q1.out _)
    have z2 := hN2.frozen_at (k := w.heap.size + 1) (o := 2) hl (frozen_alloc nl2 q2.out _)
    have z3 := hN2.frozen_at (k := w.heap.size + 1) (o := 3) hl (frozen_alloc nl2 q3.out _)
    clear hl
    go_wp2
    refine bodyPost_ret (v := r.val) (by simp [results, Tryz.results66, go_sem, j0, j1, j2, j3]) rfl ⟨rfl, ?_⟩
    exact New.set4 ((((((New.refl w).alloc _).alloc _).trans hN).alloc _).trans hN2) (Nat.le_succ _) _ _ _ _
end Go.Proofs.YtmbjomjpnfnbkaaGreat
