/-
  Walk of the reference's SplitStep.
-/
import Derived.Test.YtmbjomjpnfnbkaaD8
import Derived.Test.YtmbjomjpnfnbkaaP6
import Derived.Deep.CutRange
set_option linter.unusedSimpArgs false
set_option linter.unusedVariables false
namespace Go.Proofs.Ytmbjomjpnfnbkaa
open Go.RowKit Flt

set_option maxHeartbeats 1000000 in
theorem l03Told_c (t : C8) (w : World) (h : Fw8 t) :
    Calls Try.prog 132 #[t.val] w fun e w' => e = .returned (.tuple #[t.val, .int .i64 0]) ∧ New w w' := by
  have g1 : w.heap.size ≤ w.heap.size + 1 := Nat.le_succ _
  have C := fun w => l03Is_c t w h
  obtain ⟨c, t0, t1, t2, t3, t4, t5, t6, t7⟩ := t
  clear h
  go_enter Try.func132, Try.ntmps132
  go_wp2_with fail
  refine (C _).mono ?_; rintro e w1 ⟨rfl, hN⟩
  obtain ⟨l1, l2, l3⟩ := hN.laws
  go_wp2
  refine bodyPost_ret (v := .tuple #[T4 t0 t1 t2 t3 t4 t5 t6 t7, .int .i64 0]) (by simp [results, Try.results132, go_sem, l1, l2, l3]) rfl ⟨rfl, ?_⟩
  exact New.set4 ((((New.refl w).alloc _).alloc _).trans hN) g1 _ _ _ _

/-- The reference's answer. -/
def splitW (x y z h : Nat) : C8 := if isFin4 x y z h = true then splitS x y z h else bad8 1
theorem productS_lw {s t : C8} {k j : Int} (hs : Lw8 k s) (ht : Lw8 j t) (h3 : -149 ≤ k + j) (h4 : k + j ≤ 125) : Lw8 (k + j + 2) (productS s t) := (product_law hs ht h3 h4).2

set_option maxHeartbeats 1000000 in
theorem l00Split_b (x y z h : Nat) (w : World) (hx : fin S x = true) (hy : fin S y = true) (hz : fin S z = true) (hh : fin S h = true) (hv : (fin S x && fin S y && fin S z) = true)
    (hb : (stepS x 0 0 (divs h 1073741824)).c ≠ 0 ∨ (stepS 0 y 0 (divs h 1073741824)).c ≠ 0 ∨ (stepS 0 0 z h).c ≠ 0) :
    Calls Try.prog 86 #[V3 x y z, .float .f32 h] w fun e w' => e = .returned (bad8 3).told ∧ New w w' := by
  have fk := half_fin hh
  have k0 := fun (t : TypeId) (w : World) => run_float_arith (P := Try.prog) w .quo t .f32 h 1073741824 _ (divs_eq hh fin_2 (by rw [val2]; decide)).1
  have Hv := hid hv
  have Hh := hid hh
  have C1 := fun w => l09Step_c x 0 0 _ w hx fin0 fin0 fk
  have C2 := fun w => l09Step_c 0 y 0 _ w fin0 hy fin0 fk
  have C3 := fun w => l09Step_c 0 0 z h w fin0 fin0 hz hh
  generalize divs h 1073741824 = k at *
  generalize stepS x 0 0 k = f at *
  generalize stepS 0 y 0 k = s at *
  generalize stepS 0 0 z h = t at *
  obtain ⟨fc, f0, f1, f2, f3, f4, f5, f6, f7⟩ := f
  obtain ⟨sc, s0, s1, s2, s3, s4, s5, s6, s7⟩ := s
  obtain ⟨tc, t0, t1, t2, t3, t4, t5, t6, t7⟩ := t
  simp only at hb
  have G1 := hid C1
  have G2 := hid C2
  have G3 := hid C3
  have hb' : ((fc != 0) = true) ∨ ((fc != 0) = false ∧ (sc != 0) = true) ∨ ((fc != 0) = false ∧ (sc != 0) = false ∧ (tc != 0) = true) := by
    by_cases h1 : fc = 0
    · by_cases h2 : sc = 0
      · have h3 : tc ≠ 0 := by rcases hb with h | h | h <;> first | exact absurd h1 h | exact absurd h2 h | exact h
        exact .inr (.inr ⟨by simpa using h1, by simpa using h2, by simpa using h3⟩)
      · exact .inr (.inl ⟨by simpa using h1, by simpa using h2⟩)
    · exact .inl (by simpa using h1)
  clear C1 C2 C3 hb fk hx hy hz hh hv
  have g1 : w.heap.size ≤ w.heap.size + 1 := Nat.le_succ _
  go_enter Try.func86, Try.ntmps86
  go_wp2_with fail
  refine (l09Is_c x y z _).mono ?_; rintro e w1 ⟨rfl, hN⟩; rw [Hv.out]
  obtain ⟨l1, l2, l3⟩ := hN.laws
  go_wp2_with fail
  refine (fine_any h _).mono ?_; rintro e w' ⟨rfl, m, rfl⟩; rw [Hh.out]
  go_wp2_with fail
  refine (G1.out _).mono ?_; rintro e w2 ⟨rfl, hN2⟩
  have v1 := hN2.cell_at (k := w.heap.size) (o := 1) (v := .float .f32 y) (by go_simp)
  have v2 := hN2.cell_at (k := w.heap.size) (o := 2) (v := .float .f32 z) (by go_simp)
  have r0 := hN2.cell_at (k := w.heap.size + 1) (o := 0) (v := .complex .f32 0 0) (by go_simp)
  have q0 := hN2.frozen_at (k := w.heap.size + 1) (o := 0) (by simp; first | exact l3 _ (by simp) | (have := hN.size; simp at this; omega)) (by go_simp)
  have r1 := hN2.cell_at (k := w.heap.size + 1) (o := 1) (v := .complex .f32 0 0) (by go_simp)
  have q1 := hN2.frozen_at (k := w.heap.size + 1) (o := 1) (by simp; first | exact l3 _ (by simp) | (have := hN.size; simp at this; omega)) (by go_simp)
  have r2 := hN2.cell_at (k := w.heap.size + 1) (o := 2) (v := .complex .f32 0 0) (by go_simp)
  have q2 := hN2.frozen_at (k := w.heap.size + 1) (o := 2) (by simp; first | exact l3 _ (by simp) | (have := hN.size; simp at this; omega)) (by go_simp)
  have r3 := hN2.cell_at (k := w.heap.size + 1) (o := 3) (v := .complex .f32 0 0) (by go_simp)
  have q3 := hN2.frozen_at (k := w.heap.size + 1) (o := 3) (by simp; first | exact l3 _ (by simp) | (have := hN.size; simp at this; omega)) (by go_simp)
  have hW2 := (((New.refl w).alloc _).alloc _).trans (hN.trans ((Drw.new ⟨_, rfl⟩).trans hN2))
  have hz2 : w.heap.size + 1 < w2.heap.size := cell_lt r0
  clear l1 l2 l3 hN hN2
  have v1' := cell_alloc v1
  go_wp2_with fail
  refine (G2.out _).mono ?_; rintro e w3 ⟨rfl, hN3⟩
  replace v2 := hN3.cell_at (cell_alloc v2 _)
  replace r0 := hN3.cell_at (cell_alloc r0 _)
  replace q0 := hN3.frozen_at (by simp; omega) (frozen_alloc hz2 q0 _)
  replace r1 := hN3.cell_at (cell_alloc r1 _)
  replace q1 := hN3.frozen_at (by simp; omega) (frozen_alloc hz2 q1 _)
  replace r2 := hN3.cell_at (cell_alloc r2 _)
  replace q2 := hN3.frozen_at (by simp; omega) (frozen_alloc hz2 q2 _)
  replace r3 := hN3.cell_at (cell_alloc r3 _)
  replace q3 := hN3.frozen_at (by simp; omega) (frozen_alloc hz2 q3 _)
  have a0 := hN3.cell_at (k := w2.heap.size) (o := 0) (v := .complex .f32 f0 f1) (by go_simp)
  have a1 := hN3.cell_at (k := w2.heap.size) (o := 1) (v := .complex .f32 f2 f3) (by go_simp)
  have a2 := hN3.cell_at (k := w2.heap.size) (o := 2) (v := .complex .f32 f4 f5) (by go_simp)
  have a3 := hN3.cell_at (k := w2.heap.size) (o := 3) (v := .complex .f32 f6 f7) (by go_simp)
  have hW3 := (hW2.alloc _).trans hN3
  have hz3 : w.heap.size + 1 < w3.heap.size := cell_lt r0
  clear hN3 v1 v1'
  have v2' := cell_alloc v2
  go_wp2_with fail
  refine (G3.out _).mono ?_; rintro e w4 ⟨rfl, hN4⟩
  replace r0 := hN4.cell_at (cell_alloc r0 _)
  replace q0 := hN4.frozen_at (by simp; omega) (frozen_alloc hz3 q0 _)
  replace r1 := hN4.cell_at (cell_alloc r1 _)
  replace q1 := hN4.frozen_at (by simp; omega) (frozen_alloc hz3 q1 _)
  replace r2 := hN4.cell_at (cell_alloc r2 _)
  replace q2 := hN4.frozen_at (by simp; omega) (frozen_alloc hz3 q2 _)
  replace r3 := hN4.cell_at (cell_alloc r3 _)
  replace q3 := hN4.frozen_at (by simp; omega) (frozen_alloc hz3 q3 _)
  replace a0 := hN4.cell_at (cell_alloc a0 _)
  replace a1 := hN4.cell_at (cell_alloc a1 _)
  replace a2 := hN4.cell_at (cell_alloc a2 _)
  replace a3 := hN4.cell_at (cell_alloc a3 _)
  have b0 := hN4.cell_at (k := w3.heap.size) (o := 0) (v := .complex .f32 s0 s1) (by go_simp)
  have b1 := hN4.cell_at (k := w3.heap.size) (o := 1) (v := .complex .f32 s2 s3) (by go_simp)
  have b2 := hN4.cell_at (k := w3.heap.size) (o := 2) (v := .complex .f32 s4 s5) (by go_simp)
  have b3 := hN4.cell_at (k := w3.heap.size) (o := 3) (v := .complex .f32 s6 s7) (by go_simp)
  have hW4 := (hW3.alloc _).trans hN4
  have hz4 : w.heap.size + 1 < w4.heap.size := cell_lt r0
  clear hN4 v2 v2'
  rcases hb' with h1 | ⟨h1, h2⟩ | ⟨h1, h2, h3⟩
  all_goals
    go_wp2
    refine bodyPost_ret (v := (bad8 3).told) (by simp [results, Try.results86, go_sem, bad8, World.cell?_alloc_lt, hz4, r0, r1, r2, r3]) rfl ⟨rfl, ?_⟩
    exact (New.set4 hW4 g1 _ _ _ _).alloc _

set_option maxHeartbeats 8000000 in
theorem l00Split_g (x y z h : Nat) (w : World) (hx : fin S x = true) (hy : fin S y = true) (hz : fin S z = true) (hh : fin S h = true) (hv : (fin S x && fin S y && fin S z) = true)
    (e1 : (stepS x 0 0 (divs h 1073741824)).c = 0) (e2 : (stepS 0 y 0 (divs h 1073741824)).c = 0) (e3 : (stepS 0 0 z h).c = 0) (R : C8)
    (hR : productS (productS (productS (productS (stepS x 0 0 (divs h 1073741824)) (stepS 0 y 0 (divs h 1073741824))) (stepS 0 0 z h)) (stepS 0 y 0 (divs h 1073741824))) (stepS x 0 0 (divs h 1073741824)) = R) :
    Calls Try.prog 86 #[V3 x y z, .float .f32 h] w fun e w' => e = .returned R.told ∧ New w w' := by
  have fk := half_fin hh
  have k0 := fun (t : TypeId) (w : World) => run_float_arith (P := Try.prog) w .quo t .f32 h 1073741824 _ (divs_eq hh fin_2 (by rw [val2]; decide)).1
  have Hv := hid hv
  have Hh := hid hh
  have C1 := fun w => l09Step_c x 0 0 _ w hx fin0 fin0 fk
  have C2 := fun w => l09Step_c 0 y 0 _ w fin0 hy fin0 fk
  have C3 := fun w => l09Step_c 0 0 z h w fin0 fin0 hz hh
  have Lf := (stepS_lw hx fin0 fin0 fk).1
  have Ls := (stepS_lw fin0 hy fin0 fk).1
  have Lt := (stepS_lw fin0 fin0 hz hh).1
  generalize divs h 1073741824 = k at *
  generalize stepS x 0 0 k = f at *
  generalize stepS 0 y 0 k = s at *
  generalize stepS 0 0 z h = t at *
  have C4 := fun w => l03Times_c f s 3 3 w Lf Ls (by decide) (by decide)
  have L1 := productS_lw Lf Ls (by decide) (by decide)
  generalize productS f s = p1 at *
  have C5 := fun w => l03Times_c p1 t _ 3 w L1 Lt (by decide) (by decide)
  have L2 := productS_lw L1 Lt (by decide) (by decide)
  generalize productS p1 t = p2 at *
  have C6 := fun w => l03Times_c p2 s _ 3 w L2 Ls (by decide) (by decide)
  have L3 := productS_lw L2 Ls (by decide) (by decide)
  generalize productS p2 s = p3 at *
  have C7 := fun w => l03Times_c p3 f _ 3 w L3 Lf (by decide) (by decide)
  have L4 := productS_lw L3 Lf (by decide) (by decide)
  have hc0 : (productS p3 f).c = 0 := rfl
  generalize productS p3 f = p4 at *
  subst hR
  have C8' := fun w => l03Told_c p4 w L4.fw
  obtain ⟨fc, f0, f1, f2, f3, f4, f5, f6, f7⟩ := f
  obtain ⟨sc, s0, s1, s2, s3, s4, s5, s6, s7⟩ := s
  obtain ⟨tc, t0, t1, t2, t3, t4, t5, t6, t7⟩ := t
  obtain ⟨c1, ga0, ga1, ga2, ga3, ga4, ga5, ga6, ga7⟩ := p1
  obtain ⟨c2, gb0, gb1, gb2, gb3, gb4, gb5, gb6, gb7⟩ := p2
  obtain ⟨c3, gc0, gc1, gc2, gc3, gc4, gc5, gc6, gc7⟩ := p3
  obtain ⟨c4, gd0, gd1, gd2, gd3, gd4, gd5, gd6, gd7⟩ := p4
  simp only at e1 e2 e3 hc0
  subst e1 e2 e3 hc0
  have G1 := hid C1
  have G2 := hid C2
  have G3 := hid C3
  have G4 := hid C4
  have G5 := hid C5
  have G6 := hid C6
  have G7 := hid C7
  have G8 := hid C8'
  clear C1 C2 C3 C4 C5 C6 C7 C8' L1 L2 L3 L4 Lf Ls Lt fk hx hy hz hh hv
  have g1 : w.heap.size ≤ w.heap.size + 1 := Nat.le_succ _
  go_enter Try.func86, Try.ntmps86
  go_wp2_with fail
  refine (l09Is_c x y z _).mono ?_; rintro e w1 ⟨rfl, hN⟩; rw [Hv.out]
  obtain ⟨l1, l2, l3⟩ := hN.laws
  go_wp2_with fail
  refine (fine_any h _).mono ?_; rintro e w' ⟨rfl, m, rfl⟩; rw [Hh.out]
  go_wp2_with fail
  refine (G1.out _).mono ?_; rintro e w2 ⟨rfl, hN2⟩
  have v1 := hN2.cell_at (k := w.heap.size) (o := 1) (v := .float .f32 y) (by go_simp)
  have v2 := hN2.cell_at (k := w.heap.size) (o := 2) (v := .float .f32 z) (by go_simp)
  have r0 := hN2.cell_at (k := w.heap.size + 1) (o := 0) (v := .complex .f32 0 0) (by go_simp)
  have q0 := hN2.frozen_at (k := w.heap.size + 1) (o := 0) (by simp; first | exact l3 _ (by simp) | (have := hN.size; simp at this; omega)) (by go_simp)
  have r1 := hN2.cell_at (k := w.heap.size + 1) (o := 1) (v := .complex .f32 0 0) (by go_simp)
  have q1 := hN2.frozen_at (k := w.heap.size + 1) (o := 1) (by simp; first | exact l3 _ (by simp) | (have := hN.size; simp at this; omega)) (by go_simp)
  have r2 := hN2.cell_at (k := w.heap.size + 1) (o := 2) (v := .complex .f32 0 0) (by go_simp)
  have q2 := hN2.frozen_at (k := w.heap.size + 1) (o := 2) (by simp; first | exact l3 _ (by simp) | (have := hN.size; simp at this; omega)) (by go_simp)
  have r3 := hN2.cell_at (k := w.heap.size + 1) (o := 3) (v := .complex .f32 0 0) (by go_simp)
  have q3 := hN2.frozen_at (k := w.heap.size + 1) (o := 3) (by simp; first | exact l3 _ (by simp) | (have := hN.size; simp at this; omega)) (by go_simp)
  have hW2 := (((New.refl w).alloc _).alloc _).trans (hN.trans ((Drw.new ⟨_, rfl⟩).trans hN2))
  have hz2 : w.heap.size + 1 < w2.heap.size := cell_lt r0
  clear l1 l2 l3 hN hN2
  have v1' := cell_alloc v1
  go_wp2_with fail
  refine (G2.out _).mono ?_; rintro e w3 ⟨rfl, hN3⟩
  replace v2 := hN3.cell_at (cell_alloc v2 _)
  replace r0 := hN3.cell_at (cell_alloc r0 _)
  replace q0 := hN3.frozen_at (by simp; omega) (frozen_alloc hz2 q0 _)
  replace r1 := hN3.cell_at (cell_alloc r1 _)
  replace q1 := hN3.frozen_at (by simp; omega) (frozen_alloc hz2 q1 _)
  replace r2 := hN3.cell_at (cell_alloc r2 _)
  replace q2 := hN3.frozen_at (by simp; omega) (frozen_alloc hz2 q2 _)
  replace r3 := hN3.cell_at (cell_alloc r3 _)
  replace q3 := hN3.frozen_at (by simp; omega) (frozen_alloc hz2 q3 _)
  have a0 := hN3.cell_at (k := w2.heap.size) (o := 0) (v := .complex .f32 f0 f1) (by go_simp)
  have a1 := hN3.cell_at (k := w2.heap.size) (o := 1) (v := .complex .f32 f2 f3) (by go_simp)
  have a2 := hN3.cell_at (k := w2.heap.size) (o := 2) (v := .complex .f32 f4 f5) (by go_simp)
  have a3 := hN3.cell_at (k := w2.heap.size) (o := 3) (v := .complex .f32 f6 f7) (by go_simp)
  have hW3 := (hW2.alloc _).trans hN3
  have hz3 : w.heap.size + 1 < w3.heap.size := cell_lt r0
  clear hN3 v1 v1'
  have v2' := cell_alloc v2
  go_wp2_with fail
  refine (G3.out _).mono ?_; rintro e w4 ⟨rfl, hN4⟩
  replace r0 := hN4.cell_at (cell_alloc r0 _)
  replace q0 := hN4.frozen_at (by simp; omega) (frozen_alloc hz3 q0 _)
  replace r1 := hN4.cell_at (cell_alloc r1 _)
  replace q1 := hN4.frozen_at (by simp; omega) (frozen_alloc hz3 q1 _)
  replace r2 := hN4.cell_at (cell_alloc r2 _)
  replace q2 := hN4.frozen_at (by simp; omega) (frozen_alloc hz3 q2 _)
  replace r3 := hN4.cell_at (cell_alloc r3 _)
  replace q3 := hN4.frozen_at (by simp; omega) (frozen_alloc hz3 q3 _)
  replace a0 := hN4.cell_at (cell_alloc a0 _)
  replace a1 := hN4.cell_at (cell_alloc a1 _)
  replace a2 := hN4.cell_at (cell_alloc a2 _)
  replace a3 := hN4.cell_at (cell_alloc a3 _)
  have b0 := hN4.cell_at (k := w3.heap.size) (o := 0) (v := .complex .f32 s0 s1) (by go_simp)
  have b1 := hN4.cell_at (k := w3.heap.size) (o := 1) (v := .complex .f32 s2 s3) (by go_simp)
  have b2 := hN4.cell_at (k := w3.heap.size) (o := 2) (v := .complex .f32 s4 s5) (by go_simp)
  have b3 := hN4.cell_at (k := w3.heap.size) (o := 3) (v := .complex .f32 s6 s7) (by go_simp)
  have hW4 := (hW3.alloc _).trans hN4
  have hz4 : w.heap.size + 1 < w4.heap.size := cell_lt r0
  clear hN4 v2 v2'
  go_wp2_with fail
  have hW := hW4.alloc (.cells #[.complex .f32 t0 t1, .complex .f32 t2 t3, .complex .f32 t4 t5, .complex .f32 t6 t7] 26)
  replace r0 := cell_alloc r0 (.cells #[.complex .f32 t0 t1, .complex .f32 t2 t3, .complex .f32 t4 t5, .complex .f32 t6 t7] 26)
  replace q0 := frozen_alloc hz4 q0 (.cells #[.complex .f32 t0 t1, .complex .f32 t2 t3, .complex .f32 t4 t5, .complex .f32 t6 t7] 26)
  replace a0 := cell_alloc a0 (.cells #[.complex .f32 t0 t1, .complex .f32 t2 t3, .complex .f32 t4 t5, .complex .f32 t6 t7] 26)
  replace b0 := cell_alloc b0 (.cells #[.complex .f32 t0 t1, .complex .f32 t2 t3, .complex .f32 t4 t5, .complex .f32 t6 t7] 26)
  replace r1 := cell_alloc r1 (.cells #[.complex .f32 t0 t1, .complex .f32 t2 t3, .complex .f32 t4 t5, .complex .f32 t6 t7] 26)
  replace q1 := frozen_alloc hz4 q1 (.cells #[.complex .f32 t0 t1, .complex .f32 t2 t3, .complex .f32 t4 t5, .complex .f32 t6 t7] 26)
  replace a1 := cell_alloc a1 (.cells #[.complex .f32 t0 t1, .complex .f32 t2 t3, .complex .f32 t4 t5, .complex .f32 t6 t7] 26)
  replace b1 := cell_alloc b1 (.cells #[.complex .f32 t0 t1, .complex .f32 t2 t3, .complex .f32 t4 t5, .complex .f32 t6 t7] 26)
  replace r2 := cell_alloc r2 (.cells #[.complex .f32 t0 t1, .complex .f32 t2 t3, .complex .f32 t4 t5, .complex .f32 t6 t7] 26)
  replace q2 := frozen_alloc hz4 q2 (.cells #[.complex .f32 t0 t1, .complex .f32 t2 t3, .complex .f32 t4 t5, .complex .f32 t6 t7] 26)
  replace a2 := cell_alloc a2 (.cells #[.complex .f32 t0 t1, .complex .f32 t2 t3, .complex .f32 t4 t5, .complex .f32 t6 t7] 26)
  replace b2 := cell_alloc b2 (.cells #[.complex .f32 t0 t1, .complex .f32 t2 t3, .complex .f32 t4 t5, .complex .f32 t6 t7] 26)
  replace r3 := cell_alloc r3 (.cells #[.complex .f32 t0 t1, .complex .f32 t2 t3, .complex .f32 t4 t5, .complex .f32 t6 t7] 26)
  replace q3 := frozen_alloc hz4 q3 (.cells #[.complex .f32 t0 t1, .complex .f32 t2 t3, .complex .f32 t4 t5, .complex .f32 t6 t7] 26)
  replace a3 := cell_alloc a3 (.cells #[.complex .f32 t0 t1, .complex .f32 t2 t3, .complex .f32 t4 t5, .complex .f32 t6 t7] 26)
  replace b3 := cell_alloc b3 (.cells #[.complex .f32 t0 t1, .complex .f32 t2 t3, .complex .f32 t4 t5, .complex .f32 t6 t7] 26)
  have d0 : (w4.alloc (.cells #[.complex .f32 t0 t1, .complex .f32 t2 t3, .complex .f32 t4 t5, .complex .f32 t6 t7] 26)).cell? ⟨w4.heap.size, 0, none⟩ = some (.complex .f32 t0 t1) := by go_simp
  have d1 : (w4.alloc (.cells #[.complex .f32 t0 t1, .complex .f32 t2 t3, .complex .f32 t4 t5, .complex .f32 t6 t7] 26)).cell? ⟨w4.heap.size, 1, none⟩ = some (.complex .f32 t2 t3) := by go_simp
  have d2 : (w4.alloc (.cells #[.complex .f32 t0 t1, .complex .f32 t2 t3, .complex .f32 t4 t5, .complex .f32 t6 t7] 26)).cell? ⟨w4.heap.size, 2, none⟩ = some (.complex .f32 t4 t5) := by go_simp
  have d3 : (w4.alloc (.cells #[.complex .f32 t0 t1, .complex .f32 t2 t3, .complex .f32 t4 t5, .complex .f32 t6 t7] 26)).cell? ⟨w4.heap.size, 3, none⟩ = some (.complex .f32 t6 t7) := by go_simp
  clear hW2 hW3 hW4 hz2 hz3 hz4
  generalize w4.alloc (.cells #[.complex .f32 t0 t1, .complex .f32 t2 t3, .complex .f32 t4 t5, .complex .f32 t6 t7] 26) = w5 at *
  have hz5 : w.heap.size + 1 < w5.heap.size := cell_lt r0
  have y2 := cell_lt a0
  have y3 := cell_lt b0
  have y4 := cell_lt d0
  go_cut [13, 14] from 62 to 67 (fun u v wx => ∃ p q, u = .pointer (some ⟨p, 0, none⟩) ∧ v = .slice (some ⟨q, 0, none⟩) 4 4 ∧ wx.cell? ⟨p, 0, none⟩ = some (.complex .f32 f0 f1) ∧ wx.cell? ⟨p, 1, none⟩ = some (.complex .f32 f2 f3) ∧ wx.cell? ⟨p, 2, none⟩ = some (.complex .f32 f4 f5) ∧ wx.cell? ⟨p, 3, none⟩ = some (.complex .f32 f6 f7) ∧ wx.cell? ⟨q, 0, none⟩ = some (.complex .f32 s0 s1) ∧ wx.cell? ⟨q, 1, none⟩ = some (.complex .f32 s2 s3) ∧ wx.cell? ⟨q, 2, none⟩ = some (.complex .f32 s4 s5) ∧ wx.cell? ⟨q, 3, none⟩ = some (.complex .f32 s6 s7) ∧ wx.cell? ⟨q, 4, none⟩ = some (.complex .f32 t0 t1) ∧ wx.cell? ⟨q, 5, none⟩ = some (.complex .f32 t2 t3) ∧ wx.cell? ⟨q, 6, none⟩ = some (.complex .f32 t4 t5) ∧ wx.cell? ⟨q, 7, none⟩ = some (.complex .f32 t6 t7) ∧ wx.cell? ⟨q, 8, none⟩ = some (.complex .f32 s0 s1) ∧ wx.cell? ⟨q, 9, none⟩ = some (.complex .f32 s2 s3) ∧ wx.cell? ⟨q, 10, none⟩ = some (.complex .f32 s4 s5) ∧ wx.cell? ⟨q, 11, none⟩ = some (.complex .f32 s6 s7) ∧ wx.cell? ⟨q, 12, none⟩ = some (.complex .f32 f0 f1) ∧ wx.cell? ⟨q, 13, none⟩ = some (.complex .f32 f2 f3) ∧ wx.cell? ⟨q, 14, none⟩ = some (.complex .f32 f4 f5) ∧ wx.cell? ⟨q, 15, none⟩ = some (.complex .f32 f6 f7) ∧ wx.frozen? ⟨p, 0, none⟩ = false ∧ wx.frozen? ⟨p, 1, none⟩ = false ∧ wx.frozen? ⟨p, 2, none⟩ = false ∧ wx.frozen? ⟨p, 3, none⟩ = false ∧ wx.cell? ⟨w.heap.size + 1, 0, none⟩ = some (.complex .f32 0 0) ∧ wx.cell? ⟨w.heap.size + 1, 1, none⟩ = some (.complex .f32 0 0) ∧ wx.cell? ⟨w.heap.size + 1, 2, none⟩ = some (.complex .f32 0 0) ∧ wx.cell? ⟨w.heap.size + 1, 3, none⟩ = some (.complex .f32 0 0) ∧ wx.frozen? ⟨w.heap.size + 1, 0, none⟩ = false ∧ wx.frozen? ⟨w.heap.size + 1, 1, none⟩ = false ∧ wx.frozen? ⟨w.heap.size + 1, 2, none⟩ = false ∧ wx.frozen? ⟨w.heap.size + 1, 3, none⟩ = false ∧ w.heap.size + 1 < p ∧ p ≠ q ∧ New w wx)
  case first =>
    go_region_held3 (fun wx => wx.cell? ⟨w2.heap.size, 0, none⟩ = some (.complex .f32 f0 f1) ∧ wx.cell? ⟨w2.heap.size, 1, none⟩ = some (.complex .f32 f2 f3) ∧ wx.cell? ⟨w2.heap.size, 2, none⟩ = some (.complex .f32 f4 f5) ∧ wx.cell? ⟨w2.heap.size, 3, none⟩ = some (.complex .f32 f6 f7) ∧ wx.cell? ⟨w3.heap.size, 0, none⟩ = some (.complex .f32 s0 s1) ∧ wx.cell? ⟨w3.heap.size, 1, none⟩ = some (.complex .f32 s2 s3) ∧ wx.cell? ⟨w3.heap.size, 2, none⟩ = some (.complex .f32 s4 s5) ∧ wx.cell? ⟨w3.heap.size, 3, none⟩ = some (.complex .f32 s6 s7) ∧ wx.cell? ⟨w4.heap.size, 0, none⟩ = some (.complex .f32 t0 t1) ∧ wx.cell? ⟨w4.heap.size, 1, none⟩ = some (.complex .f32 t2 t3) ∧ wx.cell? ⟨w4.heap.size, 2, none⟩ = some (.complex .f32 t4 t5) ∧ wx.cell? ⟨w4.heap.size, 3, none⟩ = some (.complex .f32 t6 t7)) (((repeat' apply And.intro) <;> (first | (with_reducible assumption) | (apply cell_alloc; with_reducible assumption) | (go_simp; done)))) (fail)
    all_goals
      rename_i hh; clear hh
      go_wp2_with fail
      go_meet
      refine ⟨_, _, rfl, rfl, ?_⟩
      repeat' apply And.intro
    all_goals first | (exact cell_alloc (cell_alloc (by with_reducible assumption) _) _) | (exact frozen_alloc (by simp; omega) (frozen_alloc hz5 (by with_reducible assumption) _) _) | (go_simp; done) | omega | skip
    all_goals repeat' (with_reducible first | exact hW | apply New.drew | apply New.alloc | apply New.set (p := ⟨_, _, none⟩) | (dsimp only; omega))
  case rest =>
    obtain ⟨p, q, rfl, rfl, a0, a1, a2, a3, Q0, Q1, Q2, Q3, Q4, Q5, Q6, Q7, Q8, Q9, Q10, Q11, Q12, Q13, Q14, Q15, y0, y1, y2, y3, r0, r1, r2, r3, q0, q1, q2, q3, np, npq, hW⟩ := hcut
    have pl := cell_lt a0
    have rl := cell_lt r0
    have zp : w.heap.size ≤ p := by omega
    have np' : p ≠ w.heap.size + 1 := by omega
    have np'' : w.heap.size + 1 ≠ p := by omega
    have npq' : q ≠ p := fun h => npq h.symm
    have gw : w.heap.size ≤ w.heap.size + 1 := Nat.le_succ _
    go_wp2_with fail
    refine wp_loop_rounds 5 ?_
    rw [rounds_succ]
    go_wp2_with fail
    refine wp_region_held_drew (S := fun wx => wx.cell? ⟨q, 0, none⟩ = some (.complex .f32 s0 s1) ∧ wx.cell? ⟨q, 1, none⟩ = some (.complex .f32 s2 s3) ∧ wx.cell? ⟨q, 2, none⟩ = some (.complex .f32 s4 s5) ∧ wx.cell? ⟨q, 3, none⟩ = some (.complex .f32 s6 s7)) (by kernel_rfl) (by refine ⟨?_, ?_, ?_, ?_⟩ <;> (go_simp; done)) (fun hHeld => ?_)
    refine wpAnyH_take (i := 1) (oi := { dst := some 73, op := Op.move (Operand.tmp 14), type := 135, pos := "l09_fields.go:94", after := #[], guard := none }) (v := ?_) rfl (by kernel_rfl) (by kernel_rfl) (by kernel_rfl) (fun _ _ _ h => h) (Or.inl ⟨by rfl, ?_⟩) (by assumption) ?_
    rotate_left
    · intro wq hSw; (try dsimp only at hSw); go_simp; try (with_reducible rfl)
    try simp only [Act.put, List.setIfInBounds_toArray, List.set_cons_zero, List.set_cons_succ]
    refine wpAnyH_take (i := 2) (oi := { dst := some 74, op := Op.move (Operand.tmp 15), type := 3, pos := "l09_fields.go:94", after := #[], guard := none }) (v := ?_) rfl (by kernel_rfl) (by kernel_rfl) (by kernel_rfl) (fun _ _ _ h => h) (Or.inl ⟨by rfl, ?_⟩) (by assumption) ?_
    rotate_left
    · intro wq hSw; (try dsimp only at hSw); go_simp; try (with_reducible rfl)
    try simp only [Act.put, List.setIfInBounds_toArray, List.set_cons_zero, List.set_cons_succ]
    refine wpAnyH_take (i := 3) (oi := { dst := some 75, op := Op.indexAddr 135 (Operand.tmp 73) (Operand.tmp 74), type := 0, pos := "l09_fields.go:94", after := #[{ on := 1, ground := Ground.data }, { on := 2, ground := Ground.data }], guard := none }) (v := ?_) rfl (by kernel_rfl) (by kernel_rfl) (by kernel_rfl) (fun _ _ _ h => h) (Or.inl ⟨by rfl, ?_⟩) (by assumption) ?_
    rotate_left
    · intro wq hSw; (try dsimp only at hSw); go_simp; try (with_reducible rfl)
    try simp only [Act.put, List.setIfInBounds_toArray, List.set_cons_zero, List.set_cons_succ]
    refine wpAnyH_take (i := 4) (oi := { dst := some 76, op := Op.load 26 (Operand.tmp 75), type := 26, pos := "l09_fields.go:94", after := #[{ on := 3, ground := Ground.data }], guard := none }) (v := ?_) rfl (by kernel_rfl) (by kernel_rfl) (by kernel_rfl) (fun _ _ _ h => h) (Or.inl ⟨by rfl, ?_⟩) (by assumption) ?_
    rotate_left
    · intro wq hSw; (try dsimp only at hSw); go_simp; try (with_reducible rfl)
    try simp only [Act.put, List.setIfInBounds_toArray, List.set_cons_zero, List.set_cons_succ]
    refine wpAnyH_ready (rs := [0]) (by kernel_rfl) (by simp) ?_
    refine AllReadyH.cons (o := { dst := some 72, op := Op.load 26 (Operand.tmp 13), type := 26, pos := "l09_fields.go:94", after := #[], guard := none }) rfl (fun K hK => ?_) AllReadyH.nil
    go_simp
    refine hK.out _ _ hHeld (fun hHeld' => ?_)
    clear hK K hHeld'
    try simp only [Act.put, List.setIfInBounds_toArray, List.set_cons_zero, List.set_cons_succ]
    refine wpAnyH_ready (rs := [5]) (by kernel_rfl) (by simp) ?_
    refine AllReadyH.cons (o := { dst := some 77, op := Op.call { callee := Callee.value (Operand.func 131), args := #[Operand.tmp 72, Operand.tmp 76], argTypes := #[26, 26] }, type := 26, pos := "l09_fields.go:94", after := #[{ on := 0, ground := Ground.data }, { on := 4, ground := Ground.data }], guard := none }) rfl (fun K hK => ?_) AllReadyH.nil
    go_simp
    go_at_call 131
    with_reducible refine (G4.out _).mono ?_; rintro e wr0 ⟨rfl, hR0⟩
    clear hHeld
    have pc0 := hR0.cell_at (k := p) (o := 0) (v := .complex .f32 f0 f1) (by go_simp)
    have pc1 := hR0.cell_at (k := p) (o := 1) (v := .complex .f32 f2 f3) (by go_simp)
    have pc2 := hR0.cell_at (k := p) (o := 2) (v := .complex .f32 f4 f5) (by go_simp)
    have pc3 := hR0.cell_at (k := p) (o := 3) (v := .complex .f32 f6 f7) (by go_simp)
    have pq0 := hR0.cell_at (k := q) (o := 0) (v := .complex .f32 s0 s1) (by go_simp)
    have pq1 := hR0.cell_at (k := q) (o := 1) (v := .complex .f32 s2 s3) (by go_simp)
    have pq2 := hR0.cell_at (k := q) (o := 2) (v := .complex .f32 s4 s5) (by go_simp)
    have pq3 := hR0.cell_at (k := q) (o := 3) (v := .complex .f32 s6 s7) (by go_simp)
    have pf0 := hR0.frozen_at (k := p) (o := 0) (by simpa using pl) (by go_simp)
    have pf1 := hR0.frozen_at (k := p) (o := 1) (by simpa using pl) (by go_simp)
    have pf2 := hR0.frozen_at (k := p) (o := 2) (by simpa using pl) (by go_simp)
    have pf3 := hR0.frozen_at (k := p) (o := 3) (by simpa using pl) (by go_simp)
    refine hK.out _ _ (by refine ⟨?_, ?_, ?_, ?_⟩ <;> (with_reducible assumption)) (fun hHeld' => ?_)
    clear hK K
    try simp only [Act.put, List.setIfInBounds_toArray, List.set_cons_zero, List.set_cons_succ]
    refine wpAnyH_ready (rs := [6]) (by kernel_rfl) (by simp) ?_
    refine AllReadyH.cons (o := { dst := none, op := Op.store 26 (Operand.tmp 13) (Operand.tmp 77), type := 0, pos := "l09_fields.go:94", after := #[{ on := 5, ground := Ground.data }, { on := 5, ground := Ground.chain }, { on := 0, ground := Ground.phase }, { on := 1, ground := Ground.phase }, { on := 2, ground := Ground.phase }, { on := 3, ground := Ground.phase }, { on := 4, ground := Ground.phase }, { on := 5, ground := Ground.phase }], guard := none }) rfl (fun K hK => ?_) AllReadyH.nil
    go_simp
    refine hK.out _ _ (by refine ⟨?_, ?_, ?_, ?_⟩ <;> (go_simp; done)) (fun hHeld' => ?_)
    clear hK K hHeld'
    try simp only [Act.put, List.setIfInBounds_toArray, List.set_cons_zero, List.set_cons_succ]
    refine wpAnyH_done (by kernel_rfl) ?_ _
    have z0 := hR0.cell_at (k := q) (o := 4) (v := .complex .f32 t0 t1) (by go_simp)
    have z1 := hR0.cell_at (k := q) (o := 5) (v := .complex .f32 t2 t3) (by go_simp)
    have z2 := hR0.cell_at (k := q) (o := 6) (v := .complex .f32 t4 t5) (by go_simp)
    have z3 := hR0.cell_at (k := q) (o := 7) (v := .complex .f32 t6 t7) (by go_simp)
    have z4 := hR0.cell_at (k := q) (o := 8) (v := .complex .f32 s0 s1) (by go_simp)
    have z5 := hR0.cell_at (k := q) (o := 9) (v := .complex .f32 s2 s3) (by go_simp)
    have z6 := hR0.cell_at (k := q) (o := 10) (v := .complex .f32 s4 s5) (by go_simp)
    have z7 := hR0.cell_at (k := q) (o := 11) (v := .complex .f32 s6 s7) (by go_simp)
    have z8 := hR0.cell_at (k := q) (o := 12) (v := .complex .f32 f0 f1) (by go_simp)
    have z9 := hR0.cell_at (k := q) (o := 13) (v := .complex .f32 f2 f3) (by go_simp)
    have z10 := hR0.cell_at (k := q) (o := 14) (v := .complex .f32 f4 f5) (by go_simp)
    have z11 := hR0.cell_at (k := q) (o := 15) (v := .complex .f32 f6 f7) (by go_simp)
    have zr0 := hR0.cell_at (k := w.heap.size + 1) (o := 0) (v := .complex .f32 0 0) (by go_simp)
    have zq0 := hR0.frozen_at (k := w.heap.size + 1) (o := 0) (by simpa using rl) (by go_simp)
    have zr1 := hR0.cell_at (k := w.heap.size + 1) (o := 1) (v := .complex .f32 0 0) (by go_simp)
    have zq1 := hR0.frozen_at (k := w.heap.size + 1) (o := 1) (by simpa using rl) (by go_simp)
    have zr2 := hR0.cell_at (k := w.heap.size + 1) (o := 2) (v := .complex .f32 0 0) (by go_simp)
    have zq2 := hR0.frozen_at (k := w.heap.size + 1) (o := 2) (by simpa using rl) (by go_simp)
    have zr3 := hR0.cell_at (k := w.heap.size + 1) (o := 3) (v := .complex .f32 0 0) (by go_simp)
    have zq3 := hR0.frozen_at (k := w.heap.size + 1) (o := 3) (by simpa using rl) (by go_simp)
    replace hW : New w ((((wr0.setCell ⟨p, 0, none⟩ (.complex .f32 ga0 ga1)).setCell ⟨p, 1, none⟩ (.complex .f32 ga2 ga3)).setCell ⟨p, 2, none⟩ (.complex .f32 ga4 ga5)).setCell ⟨p, 3, none⟩ (.complex .f32 ga6 ga7)) := by
      refine New.set (p := ⟨p, 3, none⟩) (New.set (p := ⟨p, 2, none⟩) (New.set (p := ⟨p, 1, none⟩) (New.set (p := ⟨p, 0, none⟩) ?_ zp _) zp _) zp _) zp _
      exact hW.drew.trans hR0
    replace a0 : ((((wr0.setCell ⟨p, 0, none⟩ (.complex .f32 ga0 ga1)).setCell ⟨p, 1, none⟩ (.complex .f32 ga2 ga3)).setCell ⟨p, 2, none⟩ (.complex .f32 ga4 ga5)).setCell ⟨p, 3, none⟩ (.complex .f32 ga6 ga7)).cell? ⟨p, 0, none⟩ = some (.complex .f32 ga0 ga1) := by go_simp
    replace a1 : ((((wr0.setCell ⟨p, 0, none⟩ (.complex .f32 ga0 ga1)).setCell ⟨p, 1, none⟩ (.complex .f32 ga2 ga3)).setCell ⟨p, 2, none⟩ (.complex .f32 ga4 ga5)).setCell ⟨p, 3, none⟩ (.complex .f32 ga6 ga7)).cell? ⟨p, 1, none⟩ = some (.complex .f32 ga2 ga3) := by go_simp
    replace a2 : ((((wr0.setCell ⟨p, 0, none⟩ (.complex .f32 ga0 ga1)).setCell ⟨p, 1, none⟩ (.complex .f32 ga2 ga3)).setCell ⟨p, 2, none⟩ (.complex .f32 ga4 ga5)).setCell ⟨p, 3, none⟩ (.complex .f32 ga6 ga7)).cell? ⟨p, 2, none⟩ = some (.complex .f32 ga4 ga5) := by go_simp
    replace a3 : ((((wr0.setCell ⟨p, 0, none⟩ (.complex .f32 ga0 ga1)).setCell ⟨p, 1, none⟩ (.complex .f32 ga2 ga3)).setCell ⟨p, 2, none⟩ (.complex .f32 ga4 ga5)).setCell ⟨p, 3, none⟩ (.complex .f32 ga6 ga7)).cell? ⟨p, 3, none⟩ = some (.complex .f32 ga6 ga7) := by go_simp
    replace Q4 : ((((wr0.setCell ⟨p, 0, none⟩ (.complex .f32 ga0 ga1)).setCell ⟨p, 1, none⟩ (.complex .f32 ga2 ga3)).setCell ⟨p, 2, none⟩ (.complex .f32 ga4 ga5)).setCell ⟨p, 3, none⟩ (.complex .f32 ga6 ga7)).cell? ⟨q, 4, none⟩ = some (.complex .f32 t0 t1) := by go_simp
    replace Q5 : ((((wr0.setCell ⟨p, 0, none⟩ (.complex .f32 ga0 ga1)).setCell ⟨p, 1, none⟩ (.complex .f32 ga2 ga3)).setCell ⟨p, 2, none⟩ (.complex .f32 ga4 ga5)).setCell ⟨p, 3, none⟩ (.complex .f32 ga6 ga7)).cell? ⟨q, 5, none⟩ = some (.complex .f32 t2 t3) := by go_simp
    replace Q6 : ((((wr0.setCell ⟨p, 0, none⟩ (.complex .f32 ga0 ga1)).setCell ⟨p, 1, none⟩ (.complex .f32 ga2 ga3)).setCell ⟨p, 2, none⟩ (.complex .f32 ga4 ga5)).setCell ⟨p, 3, none⟩ (.complex .f32 ga6 ga7)).cell? ⟨q, 6, none⟩ = some (.complex .f32 t4 t5) := by go_simp
    replace Q7 : ((((wr0.setCell ⟨p, 0, none⟩ (.complex .f32 ga0 ga1)).setCell ⟨p, 1, none⟩ (.complex .f32 ga2 ga3)).setCell ⟨p, 2, none⟩ (.complex .f32 ga4 ga5)).setCell ⟨p, 3, none⟩ (.complex .f32 ga6 ga7)).cell? ⟨q, 7, none⟩ = some (.complex .f32 t6 t7) := by go_simp
    replace Q8 : ((((wr0.setCell ⟨p, 0, none⟩ (.complex .f32 ga0 ga1)).setCell ⟨p, 1, none⟩ (.complex .f32 ga2 ga3)).setCell ⟨p, 2, none⟩ (.complex .f32 ga4 ga5)).setCell ⟨p, 3, none⟩ (.complex .f32 ga6 ga7)).cell? ⟨q, 8, none⟩ = some (.complex .f32 s0 s1) := by go_simp
    replace Q9 : ((((wr0.setCell ⟨p, 0, none⟩ (.complex .f32 ga0 ga1)).setCell ⟨p, 1, none⟩ (.complex .f32 ga2 ga3)).setCell ⟨p, 2, none⟩ (.complex .f32 ga4 ga5)).setCell ⟨p, 3, none⟩ (.complex .f32 ga6 ga7)).cell? ⟨q, 9, none⟩ = some (.complex .f32 s2 s3) := by go_simp
    replace Q10 : ((((wr0.setCell ⟨p, 0, none⟩ (.complex .f32 ga0 ga1)).setCell ⟨p, 1, none⟩ (.complex .f32 ga2 ga3)).setCell ⟨p, 2, none⟩ (.complex .f32 ga4 ga5)).setCell ⟨p, 3, none⟩ (.complex .f32 ga6 ga7)).cell? ⟨q, 10, none⟩ = some (.complex .f32 s4 s5) := by go_simp
    replace Q11 : ((((wr0.setCell ⟨p, 0, none⟩ (.complex .f32 ga0 ga1)).setCell ⟨p, 1, none⟩ (.complex .f32 ga2 ga3)).setCell ⟨p, 2, none⟩ (.complex .f32 ga4 ga5)).setCell ⟨p, 3, none⟩ (.complex .f32 ga6 ga7)).cell? ⟨q, 11, none⟩ = some (.complex .f32 s6 s7) := by go_simp
    replace Q12 : ((((wr0.setCell ⟨p, 0, none⟩ (.complex .f32 ga0 ga1)).setCell ⟨p, 1, none⟩ (.complex .f32 ga2 ga3)).setCell ⟨p, 2, none⟩ (.complex .f32 ga4 ga5)).setCell ⟨p, 3, none⟩ (.complex .f32 ga6 ga7)).cell? ⟨q, 12, none⟩ = some (.complex .f32 f0 f1) := by go_simp
    replace Q13 : ((((wr0.setCell ⟨p, 0, none⟩ (.complex .f32 ga0 ga1)).setCell ⟨p, 1, none⟩ (.complex .f32 ga2 ga3)).setCell ⟨p, 2, none⟩ (.complex .f32 ga4 ga5)).setCell ⟨p, 3, none⟩ (.complex .f32 ga6 ga7)).cell? ⟨q, 13, none⟩ = some (.complex .f32 f2 f3) := by go_simp
    replace Q14 : ((((wr0.setCell ⟨p, 0, none⟩ (.complex .f32 ga0 ga1)).setCell ⟨p, 1, none⟩ (.complex .f32 ga2 ga3)).setCell ⟨p, 2, none⟩ (.complex .f32 ga4 ga5)).setCell ⟨p, 3, none⟩ (.complex .f32 ga6 ga7)).cell? ⟨q, 14, none⟩ = some (.complex .f32 f4 f5) := by go_simp
    replace Q15 : ((((wr0.setCell ⟨p, 0, none⟩ (.complex .f32 ga0 ga1)).setCell ⟨p, 1, none⟩ (.complex .f32 ga2 ga3)).setCell ⟨p, 2, none⟩ (.complex .f32 ga4 ga5)).setCell ⟨p, 3, none⟩ (.complex .f32 ga6 ga7)).cell? ⟨q, 15, none⟩ = some (.complex .f32 f6 f7) := by go_simp
    replace r0 : ((((wr0.setCell ⟨p, 0, none⟩ (.complex .f32 ga0 ga1)).setCell ⟨p, 1, none⟩ (.complex .f32 ga2 ga3)).setCell ⟨p, 2, none⟩ (.complex .f32 ga4 ga5)).setCell ⟨p, 3, none⟩ (.complex .f32 ga6 ga7)).cell? ⟨w.heap.size + 1, 0, none⟩ = some (.complex .f32 0 0) := by go_simp
    replace q0 : ((((wr0.setCell ⟨p, 0, none⟩ (.complex .f32 ga0 ga1)).setCell ⟨p, 1, none⟩ (.complex .f32 ga2 ga3)).setCell ⟨p, 2, none⟩ (.complex .f32 ga4 ga5)).setCell ⟨p, 3, none⟩ (.complex .f32 ga6 ga7)).frozen? ⟨w.heap.size + 1, 0, none⟩ = false := by go_simp
    replace y0 : ((((wr0.setCell ⟨p, 0, none⟩ (.complex .f32 ga0 ga1)).setCell ⟨p, 1, none⟩ (.complex .f32 ga2 ga3)).setCell ⟨p, 2, none⟩ (.complex .f32 ga4 ga5)).setCell ⟨p, 3, none⟩ (.complex .f32 ga6 ga7)).frozen? ⟨p, 0, none⟩ = false := by go_simp
    replace r1 : ((((wr0.setCell ⟨p, 0, none⟩ (.complex .f32 ga0 ga1)).setCell ⟨p, 1, none⟩ (.complex .f32 ga2 ga3)).setCell ⟨p, 2, none⟩ (.complex .f32 ga4 ga5)).setCell ⟨p, 3, none⟩ (.complex .f32 ga6 ga7)).cell? ⟨w.heap.size + 1, 1, none⟩ = some (.complex .f32 0 0) := by go_simp
    replace q1 : ((((wr0.setCell ⟨p, 0, none⟩ (.complex .f32 ga0 ga1)).setCell ⟨p, 1, none⟩ (.complex .f32 ga2 ga3)).setCell ⟨p, 2, none⟩ (.complex .f32 ga4 ga5)).setCell ⟨p, 3, none⟩ (.complex .f32 ga6 ga7)).frozen? ⟨w.heap.size + 1, 1, none⟩ = false := by go_simp
    replace y1 : ((((wr0.setCell ⟨p, 0, none⟩ (.complex .f32 ga0 ga1)).setCell ⟨p, 1, none⟩ (.complex .f32 ga2 ga3)).setCell ⟨p, 2, none⟩ (.complex .f32 ga4 ga5)).setCell ⟨p, 3, none⟩ (.complex .f32 ga6 ga7)).frozen? ⟨p, 1, none⟩ = false := by go_simp
    replace r2 : ((((wr0.setCell ⟨p, 0, none⟩ (.complex .f32 ga0 ga1)).setCell ⟨p, 1, none⟩ (.complex .f32 ga2 ga3)).setCell ⟨p, 2, none⟩ (.complex .f32 ga4 ga5)).setCell ⟨p, 3, none⟩ (.complex .f32 ga6 ga7)).cell? ⟨w.heap.size + 1, 2, none⟩ = some (.complex .f32 0 0) := by go_simp
    replace q2 : ((((wr0.setCell ⟨p, 0, none⟩ (.complex .f32 ga0 ga1)).setCell ⟨p, 1, none⟩ (.complex .f32 ga2 ga3)).setCell ⟨p, 2, none⟩ (.complex .f32 ga4 ga5)).setCell ⟨p, 3, none⟩ (.complex .f32 ga6 ga7)).frozen? ⟨w.heap.size + 1, 2, none⟩ = false := by go_simp
    replace y2 : ((((wr0.setCell ⟨p, 0, none⟩ (.complex .f32 ga0 ga1)).setCell ⟨p, 1, none⟩ (.complex .f32 ga2 ga3)).setCell ⟨p, 2, none⟩ (.complex .f32 ga4 ga5)).setCell ⟨p, 3, none⟩ (.complex .f32 ga6 ga7)).frozen? ⟨p, 2, none⟩ = false := by go_simp
    replace r3 : ((((wr0.setCell ⟨p, 0, none⟩ (.complex .f32 ga0 ga1)).setCell ⟨p, 1, none⟩ (.complex .f32 ga2 ga3)).setCell ⟨p, 2, none⟩ (.complex .f32 ga4 ga5)).setCell ⟨p, 3, none⟩ (.complex .f32 ga6 ga7)).cell? ⟨w.heap.size + 1, 3, none⟩ = some (.complex .f32 0 0) := by go_simp
    replace q3 : ((((wr0.setCell ⟨p, 0, none⟩ (.complex .f32 ga0 ga1)).setCell ⟨p, 1, none⟩ (.complex .f32 ga2 ga3)).setCell ⟨p, 2, none⟩ (.complex .f32 ga4 ga5)).setCell ⟨p, 3, none⟩ (.complex .f32 ga6 ga7)).frozen? ⟨w.heap.size + 1, 3, none⟩ = false := by go_simp
    replace y3 : ((((wr0.setCell ⟨p, 0, none⟩ (.complex .f32 ga0 ga1)).setCell ⟨p, 1, none⟩ (.complex .f32 ga2 ga3)).setCell ⟨p, 2, none⟩ (.complex .f32 ga4 ga5)).setCell ⟨p, 3, none⟩ (.complex .f32 ga6 ga7)).frozen? ⟨p, 3, none⟩ = false := by go_simp
    clear z0 z1 z2 z3 z4 z5 z6 z7 z8 z9 z10 z11 zr0 zq0 pc0 pq0 pf0 zr1 zq1 pc1 pq1 pf1 zr2 zq2 pc2 pq2 pf2 zr3 zq3 pc3 pq3 pf3 Q0 Q1 Q2 Q3 hR0
    go_wp2_with fail
    generalize ((((wr0.setCell ⟨p, 0, none⟩ (.complex .f32 ga0 ga1)).setCell ⟨p, 1, none⟩ (.complex .f32 ga2 ga3)).setCell ⟨p, 2, none⟩ (.complex .f32 ga4 ga5)).setCell ⟨p, 3, none⟩ (.complex .f32 ga6 ga7)) = wk0 at *
    replace rl : w.heap.size + 1 < wk0.heap.size := cell_lt r0
    replace pl : p < wk0.heap.size := cell_lt a0
    rw [rounds_succ]
    go_wp2_with fail
    refine wp_region_held_drew (S := fun wx => wx.cell? ⟨q, 4, none⟩ = some (.complex .f32 t0 t1) ∧ wx.cell? ⟨q, 5, none⟩ = some (.complex .f32 t2 t3) ∧ wx.cell? ⟨q, 6, none⟩ = some (.complex .f32 t4 t5) ∧ wx.cell? ⟨q, 7, none⟩ = some (.complex .f32 t6 t7)) (by kernel_rfl) (by refine ⟨?_, ?_, ?_, ?_⟩ <;> (go_simp; done)) (fun hHeld => ?_)
    refine wpAnyH_take (i := 1) (oi := { dst := some 73, op := Op.move (Operand.tmp 14), type := 135, pos := "l09_fields.go:94", after := #[], guard := none }) (v := ?_) rfl (by kernel_rfl) (by kernel_rfl) (by kernel_rfl) (fun _ _ _ h => h) (Or.inl ⟨by rfl, ?_⟩) (by assumption) ?_
    rotate_left
    · intro wq hSw; (try dsimp only at hSw); go_simp; try (with_reducible rfl)
    try simp only [Act.put, List.setIfInBounds_toArray, List.set_cons_zero, List.set_cons_succ]
    refine wpAnyH_take (i := 2) (oi := { dst := some 74, op := Op.move (Operand.tmp 15), type := 3, pos := "l09_fields.go:94", after := #[], guard := none }) (v := ?_) rfl (by kernel_rfl) (by kernel_rfl) (by kernel_rfl) (fun _ _ _ h => h) (Or.inl ⟨by rfl, ?_⟩) (by assumption) ?_
    rotate_left
    · intro wq hSw; (try dsimp only at hSw); go_simp; try (with_reducible rfl)
    try simp only [Act.put, List.setIfInBounds_toArray, List.set_cons_zero, List.set_cons_succ]
    refine wpAnyH_take (i := 3) (oi := { dst := some 75, op := Op.indexAddr 135 (Operand.tmp 73) (Operand.tmp 74), type := 0, pos := "l09_fields.go:94", after := #[{ on := 1, ground := Ground.data }, { on := 2, ground := Ground.data }], guard := none }) (v := ?_) rfl (by kernel_rfl) (by kernel_rfl) (by kernel_rfl) (fun _ _ _ h => h) (Or.inl ⟨by rfl, ?_⟩) (by assumption) ?_
    rotate_left
    · intro wq hSw; (try dsimp only at hSw); go_simp; try (with_reducible rfl)
    try simp only [Act.put, List.setIfInBounds_toArray, List.set_cons_zero, List.set_cons_succ]
    refine wpAnyH_take (i := 4) (oi := { dst := some 76, op := Op.load 26 (Operand.tmp 75), type := 26, pos := "l09_fields.go:94", after := #[{ on := 3, ground := Ground.data }], guard := none }) (v := ?_) rfl (by kernel_rfl) (by kernel_rfl) (by kernel_rfl) (fun _ _ _ h => h) (Or.inl ⟨by rfl, ?_⟩) (by assumption) ?_
    rotate_left
    · intro wq hSw; (try dsimp only at hSw); go_simp; try (with_reducible rfl)
    try simp only [Act.put, List.setIfInBounds_toArray, List.set_cons_zero, List.set_cons_succ]
    refine wpAnyH_ready (rs := [0]) (by kernel_rfl) (by simp) ?_
    refine AllReadyH.cons (o := { dst := some 72, op := Op.load 26 (Operand.tmp 13), type := 26, pos := "l09_fields.go:94", after := #[], guard := none }) rfl (fun K hK => ?_) AllReadyH.nil
    go_simp
    refine hK.out _ _ hHeld (fun hHeld' => ?_)
    clear hK K hHeld'
    try simp only [Act.put, List.setIfInBounds_toArray, List.set_cons_zero, List.set_cons_succ]
    refine wpAnyH_ready (rs := [5]) (by kernel_rfl) (by simp) ?_
    refine AllReadyH.cons (o := { dst := some 77, op := Op.call { callee := Callee.value (Operand.func 131), args := #[Operand.tmp 72, Operand.tmp 76], argTypes := #[26, 26] }, type := 26, pos := "l09_fields.go:94", after := #[{ on := 0, ground := Ground.data }, { on := 4, ground := Ground.data }], guard := none }) rfl (fun K hK => ?_) AllReadyH.nil
    go_simp
    go_at_call 131
    with_reducible refine (G5.out _).mono ?_; rintro e wr1 ⟨rfl, hR1⟩
    clear hHeld
    have pc0 := hR1.cell_at (k := p) (o := 0) (v := .complex .f32 ga0 ga1) (by go_simp)
    have pc1 := hR1.cell_at (k := p) (o := 1) (v := .complex .f32 ga2 ga3) (by go_simp)
    have pc2 := hR1.cell_at (k := p) (o := 2) (v := .complex .f32 ga4 ga5) (by go_simp)
    have pc3 := hR1.cell_at (k := p) (o := 3) (v := .complex .f32 ga6 ga7) (by go_simp)
    have pq0 := hR1.cell_at (k := q) (o := 4) (v := .complex .f32 t0 t1) (by go_simp)
    have pq1 := hR1.cell_at (k := q) (o := 5) (v := .complex .f32 t2 t3) (by go_simp)
    have pq2 := hR1.cell_at (k := q) (o := 6) (v := .complex .f32 t4 t5) (by go_simp)
    have pq3 := hR1.cell_at (k := q) (o := 7) (v := .complex .f32 t6 t7) (by go_simp)
    have pf0 := hR1.frozen_at (k := p) (o := 0) (by simpa using pl) (by go_simp)
    have pf1 := hR1.frozen_at (k := p) (o := 1) (by simpa using pl) (by go_simp)
    have pf2 := hR1.frozen_at (k := p) (o := 2) (by simpa using pl) (by go_simp)
    have pf3 := hR1.frozen_at (k := p) (o := 3) (by simpa using pl) (by go_simp)
    refine hK.out _ _ (by refine ⟨?_, ?_, ?_, ?_⟩ <;> (with_reducible assumption)) (fun hHeld' => ?_)
    clear hK K
    try simp only [Act.put, List.setIfInBounds_toArray, List.set_cons_zero, List.set_cons_succ]
    refine wpAnyH_ready (rs := [6]) (by kernel_rfl) (by simp) ?_
    refine AllReadyH.cons (o := { dst := none, op := Op.store 26 (Operand.tmp 13) (Operand.tmp 77), type := 0, pos := "l09_fields.go:94", after := #[{ on := 5, ground := Ground.data }, { on := 5, ground := Ground.chain }, { on := 0, ground := Ground.phase }, { on := 1, ground := Ground.phase }, { on := 2, ground := Ground.phase }, { on := 3, ground := Ground.phase }, { on := 4, ground := Ground.phase }, { on := 5, ground := Ground.phase }], guard := none }) rfl (fun K hK => ?_) AllReadyH.nil
    go_simp
    refine hK.out _ _ (by refine ⟨?_, ?_, ?_, ?_⟩ <;> (go_simp; done)) (fun hHeld' => ?_)
    clear hK K hHeld'
    try simp only [Act.put, List.setIfInBounds_toArray, List.set_cons_zero, List.set_cons_succ]
    refine wpAnyH_done (by kernel_rfl) ?_ _
    have z0 := hR1.cell_at (k := q) (o := 8) (v := .complex .f32 s0 s1) (by go_simp)
    have z1 := hR1.cell_at (k := q) (o := 9) (v := .complex .f32 s2 s3) (by go_simp)
    have z2 := hR1.cell_at (k := q) (o := 10) (v := .complex .f32 s4 s5) (by go_simp)
    have z3 := hR1.cell_at (k := q) (o := 11) (v := .complex .f32 s6 s7) (by go_simp)
    have z4 := hR1.cell_at (k := q) (o := 12) (v := .complex .f32 f0 f1) (by go_simp)
    have z5 := hR1.cell_at (k := q) (o := 13) (v := .complex .f32 f2 f3) (by go_simp)
    have z6 := hR1.cell_at (k := q) (o := 14) (v := .complex .f32 f4 f5) (by go_simp)
    have z7 := hR1.cell_at (k := q) (o := 15) (v := .complex .f32 f6 f7) (by go_simp)
    have zr0 := hR1.cell_at (k := w.heap.size + 1) (o := 0) (v := .complex .f32 0 0) (by go_simp)
    have zq0 := hR1.frozen_at (k := w.heap.size + 1) (o := 0) (by simpa using rl) (by go_simp)
    have zr1 := hR1.cell_at (k := w.heap.size + 1) (o := 1) (v := .complex .f32 0 0) (by go_simp)
    have zq1 := hR1.frozen_at (k := w.heap.size + 1) (o := 1) (by simpa using rl) (by go_simp)
    have zr2 := hR1.cell_at (k := w.heap.size + 1) (o := 2) (v := .complex .f32 0 0) (by go_simp)
    have zq2 := hR1.frozen_at (k := w.heap.size + 1) (o := 2) (by simpa using rl) (by go_simp)
    have zr3 := hR1.cell_at (k := w.heap.size + 1) (o := 3) (v := .complex .f32 0 0) (by go_simp)
    have zq3 := hR1.frozen_at (k := w.heap.size + 1) (o := 3) (by simpa using rl) (by go_simp)
    replace hW : New w ((((wr1.setCell ⟨p, 0, none⟩ (.complex .f32 gb0 gb1)).setCell ⟨p, 1, none⟩ (.complex .f32 gb2 gb3)).setCell ⟨p, 2, none⟩ (.complex .f32 gb4 gb5)).setCell ⟨p, 3, none⟩ (.complex .f32 gb6 gb7)) := by
      refine New.set (p := ⟨p, 3, none⟩) (New.set (p := ⟨p, 2, none⟩) (New.set (p := ⟨p, 1, none⟩) (New.set (p := ⟨p, 0, none⟩) ?_ zp _) zp _) zp _) zp _
      exact hW.drew.trans hR1
    replace a0 : ((((wr1.setCell ⟨p, 0, none⟩ (.complex .f32 gb0 gb1)).setCell ⟨p, 1, none⟩ (.complex .f32 gb2 gb3)).setCell ⟨p, 2, none⟩ (.complex .f32 gb4 gb5)).setCell ⟨p, 3, none⟩ (.complex .f32 gb6 gb7)).cell? ⟨p, 0, none⟩ = some (.complex .f32 gb0 gb1) := by go_simp
    replace a1 : ((((wr1.setCell ⟨p, 0, none⟩ (.complex .f32 gb0 gb1)).setCell ⟨p, 1, none⟩ (.complex .f32 gb2 gb3)).setCell ⟨p, 2, none⟩ (.complex .f32 gb4 gb5)).setCell ⟨p, 3, none⟩ (.complex .f32 gb6 gb7)).cell? ⟨p, 1, none⟩ = some (.complex .f32 gb2 gb3) := by go_simp
    replace a2 : ((((wr1.setCell ⟨p, 0, none⟩ (.complex .f32 gb0 gb1)).setCell ⟨p, 1, none⟩ (.complex .f32 gb2 gb3)).setCell ⟨p, 2, none⟩ (.complex .f32 gb4 gb5)).setCell ⟨p, 3, none⟩ (.complex .f32 gb6 gb7)).cell? ⟨p, 2, none⟩ = some (.complex .f32 gb4 gb5) := by go_simp
    replace a3 : ((((wr1.setCell ⟨p, 0, none⟩ (.complex .f32 gb0 gb1)).setCell ⟨p, 1, none⟩ (.complex .f32 gb2 gb3)).setCell ⟨p, 2, none⟩ (.complex .f32 gb4 gb5)).setCell ⟨p, 3, none⟩ (.complex .f32 gb6 gb7)).cell? ⟨p, 3, none⟩ = some (.complex .f32 gb6 gb7) := by go_simp
    replace Q8 : ((((wr1.setCell ⟨p, 0, none⟩ (.complex .f32 gb0 gb1)).setCell ⟨p, 1, none⟩ (.complex .f32 gb2 gb3)).setCell ⟨p, 2, none⟩ (.complex .f32 gb4 gb5)).setCell ⟨p, 3, none⟩ (.complex .f32 gb6 gb7)).cell? ⟨q, 8, none⟩ = some (.complex .f32 s0 s1) := by go_simp
    replace Q9 : ((((wr1.setCell ⟨p, 0, none⟩ (.complex .f32 gb0 gb1)).setCell ⟨p, 1, none⟩ (.complex .f32 gb2 gb3)).setCell ⟨p, 2, none⟩ (.complex .f32 gb4 gb5)).setCell ⟨p, 3, none⟩ (.complex .f32 gb6 gb7)).cell? ⟨q, 9, none⟩ = some (.complex .f32 s2 s3) := by go_simp
    replace Q10 : ((((wr1.setCell ⟨p, 0, none⟩ (.complex .f32 gb0 gb1)).setCell ⟨p, 1, none⟩ (.complex .f32 gb2 gb3)).setCell ⟨p, 2, none⟩ (.complex .f32 gb4 gb5)).setCell ⟨p, 3, none⟩ (.complex .f32 gb6 gb7)).cell? ⟨q, 10, none⟩ = some (.complex .f32 s4 s5) := by go_simp
    replace Q11 : ((((wr1.setCell ⟨p, 0, none⟩ (.complex .f32 gb0 gb1)).setCell ⟨p, 1, none⟩ (.complex .f32 gb2 gb3)).setCell ⟨p, 2, none⟩ (.complex .f32 gb4 gb5)).setCell ⟨p, 3, none⟩ (.complex .f32 gb6 gb7)).cell? ⟨q, 11, none⟩ = some (.complex .f32 s6 s7) := by go_simp
    replace Q12 : ((((wr1.setCell ⟨p, 0, none⟩ (.complex .f32 gb0 gb1)).setCell ⟨p, 1, none⟩ (.complex .f32 gb2 gb3)).setCell ⟨p, 2, none⟩ (.complex .f32 gb4 gb5)).setCell ⟨p, 3, none⟩ (.complex .f32 gb6 gb7)).cell? ⟨q, 12, none⟩ = some (.complex .f32 f0 f1) := by go_simp
    replace Q13 : ((((wr1.setCell ⟨p, 0, none⟩ (.complex .f32 gb0 gb1)).setCell ⟨p, 1, none⟩ (.complex .f32 gb2 gb3)).setCell ⟨p, 2, none⟩ (.complex .f32 gb4 gb5)).setCell ⟨p, 3, none⟩ (.complex .f32 gb6 gb7)).cell? ⟨q, 13, none⟩ = some (.complex .f32 f2 f3) := by go_simp
    replace Q14 : ((((wr1.setCell ⟨p, 0, none⟩ (.complex .f32 gb0 gb1)).setCell ⟨p, 1, none⟩ (.complex .f32 gb2 gb3)).setCell ⟨p, 2, none⟩ (.complex .f32 gb4 gb5)).setCell ⟨p, 3, none⟩ (.complex .f32 gb6 gb7)).cell? ⟨q, 14, none⟩ = some (.complex .f32 f4 f5) := by go_simp
    replace Q15 : ((((wr1.setCell ⟨p, 0, none⟩ (.complex .f32 gb0 gb1)).setCell ⟨p, 1, none⟩ (.complex .f32 gb2 gb3)).setCell ⟨p, 2, none⟩ (.complex .f32 gb4 gb5)).setCell ⟨p, 3, none⟩ (.complex .f32 gb6 gb7)).cell? ⟨q, 15, none⟩ = some (.complex .f32 f6 f7) := by go_simp
    replace r0 : ((((wr1.setCell ⟨p, 0, none⟩ (.complex .f32 gb0 gb1)).setCell ⟨p, 1, none⟩ (.complex .f32 gb2 gb3)).setCell ⟨p, 2, none⟩ (.complex .f32 gb4 gb5)).setCell ⟨p, 3, none⟩ (.complex .f32 gb6 gb7)).cell? ⟨w.heap.size + 1, 0, none⟩ = some (.complex .f32 0 0) := by go_simp
    replace q0 : ((((wr1.setCell ⟨p, 0, none⟩ (.complex .f32 gb0 gb1)).setCell ⟨p, 1, none⟩ (.complex .f32 gb2 gb3)).setCell ⟨p, 2, none⟩ (.complex .f32 gb4 gb5)).setCell ⟨p, 3, none⟩ (.complex .f32 gb6 gb7)).frozen? ⟨w.heap.size + 1, 0, none⟩ = false := by go_simp
    replace y0 : ((((wr1.setCell ⟨p, 0, none⟩ (.complex .f32 gb0 gb1)).setCell ⟨p, 1, none⟩ (.complex .f32 gb2 gb3)).setCell ⟨p, 2, none⟩ (.complex .f32 gb4 gb5)).setCell ⟨p, 3, none⟩ (.complex .f32 gb6 gb7)).frozen? ⟨p, 0, none⟩ = false := by go_simp
    replace r1 : ((((wr1.setCell ⟨p, 0, none⟩ (.complex .f32 gb0 gb1)).setCell ⟨p, 1, none⟩ (.complex .f32 gb2 gb3)).setCell ⟨p, 2, none⟩ (.complex .f32 gb4 gb5)).setCell ⟨p, 3, none⟩ (.complex .f32 gb6 gb7)).cell? ⟨w.heap.size + 1, 1, none⟩ = some (.complex .f32 0 0) := by go_simp
    replace q1 : ((((wr1.setCell ⟨p, 0, none⟩ (.complex .f32 gb0 gb1)).setCell ⟨p, 1, none⟩ (.complex .f32 gb2 gb3)).setCell ⟨p, 2, none⟩ (.complex .f32 gb4 gb5)).setCell ⟨p, 3, none⟩ (.complex .f32 gb6 gb7)).frozen? ⟨w.heap.size + 1, 1, none⟩ = false := by go_simp
    replace y1 : ((((wr1.setCell ⟨p, 0, none⟩ (.complex .f32 gb0 gb1)).setCell ⟨p, 1, none⟩ (.complex .f32 gb2 gb3)).setCell ⟨p, 2, none⟩ (.complex .f32 gb4 gb5)).setCell ⟨p, 3, none⟩ (.complex .f32 gb6 gb7)).frozen? ⟨p, 1, none⟩ = false := by go_simp
    replace r2 : ((((wr1.setCell ⟨p, 0, none⟩ (.complex .f32 gb0 gb1)).setCell ⟨p, 1, none⟩ (.complex .f32 gb2 gb3)).setCell ⟨p, 2, none⟩ (.complex .f32 gb4 gb5)).setCell ⟨p, 3, none⟩ (.complex .f32 gb6 gb7)).cell? ⟨w.heap.size + 1, 2, none⟩ = some (.complex .f32 0 0) := by go_simp
    replace q2 : ((((wr1.setCell ⟨p, 0, none⟩ (.complex .f32 gb0 gb1)).setCell ⟨p, 1, none⟩ (.complex .f32 gb2 gb3)).setCell ⟨p, 2, none⟩ (.complex .f32 gb4 gb5)).setCell ⟨p, 3, none⟩ (.complex .f32 gb6 gb7)).frozen? ⟨w.heap.size + 1, 2, none⟩ = false := by go_simp
    replace y2 : ((((wr1.setCell ⟨p, 0, none⟩ (.complex .f32 gb0 gb1)).setCell ⟨p, 1, none⟩ (.complex .f32 gb2 gb3)).setCell ⟨p, 2, none⟩ (.complex .f32 gb4 gb5)).setCell ⟨p, 3, none⟩ (.complex .f32 gb6 gb7)).frozen? ⟨p, 2, none⟩ = false := by go_simp
    replace r3 : ((((wr1.setCell ⟨p, 0, none⟩ (.complex .f32 gb0 gb1)).setCell ⟨p, 1, none⟩ (.complex .f32 gb2 gb3)).setCell ⟨p, 2, none⟩ (.complex .f32 gb4 gb5)).setCell ⟨p, 3, none⟩ (.complex .f32 gb6 gb7)).cell? ⟨w.heap.size + 1, 3, none⟩ = some (.complex .f32 0 0) := by go_simp
    replace q3 : ((((wr1.setCell ⟨p, 0, none⟩ (.complex .f32 gb0 gb1)).setCell ⟨p, 1, none⟩ (.complex .f32 gb2 gb3)).setCell ⟨p, 2, none⟩ (.complex .f32 gb4 gb5)).setCell ⟨p, 3, none⟩ (.complex .f32 gb6 gb7)).frozen? ⟨w.heap.size + 1, 3, none⟩ = false := by go_simp
    replace y3 : ((((wr1.setCell ⟨p, 0, none⟩ (.complex .f32 gb0 gb1)).setCell ⟨p, 1, none⟩ (.complex .f32 gb2 gb3)).setCell ⟨p, 2, none⟩ (.complex .f32 gb4 gb5)).setCell ⟨p, 3, none⟩ (.complex .f32 gb6 gb7)).frozen? ⟨p, 3, none⟩ = false := by go_simp
    clear z0 z1 z2 z3 z4 z5 z6 z7 zr0 zq0 pc0 pq0 pf0 zr1 zq1 pc1 pq1 pf1 zr2 zq2 pc2 pq2 pf2 zr3 zq3 pc3 pq3 pf3 Q4 Q5 Q6 Q7 hR1
    go_wp2_with fail
    generalize ((((wr1.setCell ⟨p, 0, none⟩ (.complex .f32 gb0 gb1)).setCell ⟨p, 1, none⟩ (.complex .f32 gb2 gb3)).setCell ⟨p, 2, none⟩ (.complex .f32 gb4 gb5)).setCell ⟨p, 3, none⟩ (.complex .f32 gb6 gb7)) = wk1 at *
    replace rl : w.heap.size + 1 < wk1.heap.size := cell_lt r0
    replace pl : p < wk1.heap.size := cell_lt a0
    rw [rounds_succ]
    go_wp2_with fail
    refine wp_region_held_drew (S := fun wx => wx.cell? ⟨q, 8, none⟩ = some (.complex .f32 s0 s1) ∧ wx.cell? ⟨q, 9, none⟩ = some (.complex .f32 s2 s3) ∧ wx.cell? ⟨q, 10, none⟩ = some (.complex .f32 s4 s5) ∧ wx.cell? ⟨q, 11, none⟩ = some (.complex .f32 s6 s7)) (by kernel_rfl) (by refine ⟨?_, ?_, ?_, ?_⟩ <;> (go_simp; done)) (fun hHeld => ?_)
    refine wpAnyH_take (i := 1) (oi := { dst := some 73, op := Op.move (Operand.tmp 14), type := 135, pos := "l09_fields.go:94", after := #[], guard := none }) (v := ?_) rfl (by kernel_rfl) (by kernel_rfl) (by kernel_rfl) (fun _ _ _ h => h) (Or.inl ⟨by rfl, ?_⟩) (by assumption) ?_
    rotate_left
    · intro wq hSw; (try dsimp only at hSw); go_simp; try (with_reducible rfl)
    try simp only [Act.put, List.setIfInBounds_toArray, List.set_cons_zero, List.set_cons_succ]
    refine wpAnyH_take (i := 2) (oi := { dst := some 74, op := Op.move (Operand.tmp 15), type := 3, pos := "l09_fields.go:94", after := #[], guard := none }) (v := ?_) rfl (by kernel_rfl) (by kernel_rfl) (by kernel_rfl) (fun _ _ _ h => h) (Or.inl ⟨by rfl, ?_⟩) (by assumption) ?_
    rotate_left
    · intro wq hSw; (try dsimp only at hSw); go_simp; try (with_reducible rfl)
    try simp only [Act.put, List.setIfInBounds_toArray, List.set_cons_zero, List.set_cons_succ]
    refine wpAnyH_take (i := 3) (oi := { dst := some 75, op := Op.indexAddr 135 (Operand.tmp 73) (Operand.tmp 74), type := 0, pos := "l09_fields.go:94", after := #[{ on := 1, ground := Ground.data }, { on := 2, ground := Ground.data }], guard := none }) (v := ?_) rfl (by kernel_rfl) (by kernel_rfl) (by kernel_rfl) (fun _ _ _ h => h) (Or.inl ⟨by rfl, ?_⟩) (by assumption) ?_
    rotate_left
    · intro wq hSw; (try dsimp only at hSw); go_simp; try (with_reducible rfl)
    try simp only [Act.put, List.setIfInBounds_toArray, List.set_cons_zero, List.set_cons_succ]
    refine wpAnyH_take (i := 4) (oi := { dst := some 76, op := Op.load 26 (Operand.tmp 75), type := 26, pos := "l09_fields.go:94", after := #[{ on := 3, ground := Ground.data }], guard := none }) (v := ?_) rfl (by kernel_rfl) (by kernel_rfl) (by kernel_rfl) (fun _ _ _ h => h) (Or.inl ⟨by rfl, ?_⟩) (by assumption) ?_
    rotate_left
    · intro wq hSw; (try dsimp only at hSw); go_simp; try (with_reducible rfl)
    try simp only [Act.put, List.setIfInBounds_toArray, List.set_cons_zero, List.set_cons_succ]
    refine wpAnyH_ready (rs := [0]) (by kernel_rfl) (by simp) ?_
    refine AllReadyH.cons (o := { dst := some 72, op := Op.load 26 (Operand.tmp 13), type := 26, pos := "l09_fields.go:94", after := #[], guard := none }) rfl (fun K hK => ?_) AllReadyH.nil
    go_simp
    refine hK.out _ _ hHeld (fun hHeld' => ?_)
    clear hK K hHeld'
    try simp only [Act.put, List.setIfInBounds_toArray, List.set_cons_zero, List.set_cons_succ]
    refine wpAnyH_ready (rs := [5]) (by kernel_rfl) (by simp) ?_
    refine AllReadyH.cons (o := { dst := some 77, op := Op.call { callee := Callee.value (Operand.func 131), args := #[Operand.tmp 72, Operand.tmp 76], argTypes := #[26, 26] }, type := 26, pos := "l09_fields.go:94", after := #[{ on := 0, ground := Ground.data }, { on := 4, ground := Ground.data }], guard := none }) rfl (fun K hK => ?_) AllReadyH.nil
    go_simp
    go_at_call 131
    with_reducible refine (G6.out _).mono ?_; rintro e wr2 ⟨rfl, hR2⟩
    clear hHeld
    have pc0 := hR2.cell_at (k := p) (o := 0) (v := .complex .f32 gb0 gb1) (by go_simp)
    have pc1 := hR2.cell_at (k := p) (o := 1) (v := .complex .f32 gb2 gb3) (by go_simp)
    have pc2 := hR2.cell_at (k := p) (o := 2) (v := .complex .f32 gb4 gb5) (by go_simp)
    have pc3 := hR2.cell_at (k := p) (o := 3) (v := .complex .f32 gb6 gb7) (by go_simp)
    have pq0 := hR2.cell_at (k := q) (o := 8) (v := .complex .f32 s0 s1) (by go_simp)
    have pq1 := hR2.cell_at (k := q) (o := 9) (v := .complex .f32 s2 s3) (by go_simp)
    have pq2 := hR2.cell_at (k := q) (o := 10) (v := .complex .f32 s4 s5) (by go_simp)
    have pq3 := hR2.cell_at (k := q) (o := 11) (v := .complex .f32 s6 s7) (by go_simp)
    have pf0 := hR2.frozen_at (k := p) (o := 0) (by simpa using pl) (by go_simp)
    have pf1 := hR2.frozen_at (k := p) (o := 1) (by simpa using pl) (by go_simp)
    have pf2 := hR2.frozen_at (k := p) (o := 2) (by simpa using pl) (by go_simp)
    have pf3 := hR2.frozen_at (k := p) (o := 3) (by simpa using pl) (by go_simp)
    refine hK.out _ _ (by refine ⟨?_, ?_, ?_, ?_⟩ <;> (with_reducible assumption)) (fun hHeld' => ?_)
    clear hK K
    try simp only [Act.put, List.setIfInBounds_toArray, List.set_cons_zero, List.set_cons_succ]
    refine wpAnyH_ready (rs := [6]) (by kernel_rfl) (by simp) ?_
    refine AllReadyH.cons (o := { dst := none, op := Op.store 26 (Operand.tmp 13) (Operand.tmp 77), type := 0, pos := "l09_fields.go:94", after := #[{ on := 5, ground := Ground.data }, { on := 5, ground := Ground.chain }, { on := 0, ground := Ground.phase }, { on := 1, ground := Ground.phase }, { on := 2, ground := Ground.phase }, { on := 3, ground := Ground.phase }, { on := 4, ground := Ground.phase }, { on := 5, ground := Ground.phase }], guard := none }) rfl (fun K hK => ?_) AllReadyH.nil
    go_simp
    refine hK.out _ _ (by refine ⟨?_, ?_, ?_, ?_⟩ <;> (go_simp; done)) (fun hHeld' => ?_)
    clear hK K hHeld'
    try simp only [Act.put, List.setIfInBounds_toArray, List.set_cons_zero, List.set_cons_succ]
    refine wpAnyH_done (by kernel_rfl) ?_ _
    have z0 := hR2.cell_at (k := q) (o := 12) (v := .complex .f32 f0 f1) (by go_simp)
    have z1 := hR2.cell_at (k := q) (o := 13) (v := .complex .f32 f2 f3) (by go_simp)
    have z2 := hR2.cell_at (k := q) (o := 14) (v := .complex .f32 f4 f5) (by go_simp)
    have z3 := hR2.cell_at (k := q) (o := 15) (v := .complex .f32 f6 f7) (by go_simp)
    have zr0 := hR2.cell_at (k := w.heap.size + 1) (o := 0) (v := .complex .f32 0 0) (by go_simp)
    have zq0 := hR2.frozen_at (k := w.heap.size + 1) (o := 0) (by simpa using rl) (by go_simp)
    have zr1 := hR2.cell_at (k := w.heap.size + 1) (o := 1) (v := .complex .f32 0 0) (by go_simp)
    have zq1 := hR2.frozen_at (k := w.heap.size + 1) (o := 1) (by simpa using rl) (by go_simp)
    have zr2 := hR2.cell_at (k := w.heap.size + 1) (o := 2) (v := .complex .f32 0 0) (by go_simp)
    have zq2 := hR2.frozen_at (k := w.heap.size + 1) (o := 2) (by simpa using rl) (by go_simp)
    have zr3 := hR2.cell_at (k := w.heap.size + 1) (o := 3) (v := .complex .f32 0 0) (by go_simp)
    have zq3 := hR2.frozen_at (k := w.heap.size + 1) (o := 3) (by simpa using rl) (by go_simp)
    replace hW : New w ((((wr2.setCell ⟨p, 0, none⟩ (.complex .f32 gc0 gc1)).setCell ⟨p, 1, none⟩ (.complex .f32 gc2 gc3)).setCell ⟨p, 2, none⟩ (.complex .f32 gc4 gc5)).setCell ⟨p, 3, none⟩ (.complex .f32 gc6 gc7)) := by
      refine New.set (p := ⟨p, 3, none⟩) (New.set (p := ⟨p, 2, none⟩) (New.set (p := ⟨p, 1, none⟩) (New.set (p := ⟨p, 0, none⟩) ?_ zp _) zp _) zp _) zp _
      exact hW.drew.trans hR2
    replace a0 : ((((wr2.setCell ⟨p, 0, none⟩ (.complex .f32 gc0 gc1)).setCell ⟨p, 1, none⟩ (.complex .f32 gc2 gc3)).setCell ⟨p, 2, none⟩ (.complex .f32 gc4 gc5)).setCell ⟨p, 3, none⟩ (.complex .f32 gc6 gc7)).cell? ⟨p, 0, none⟩ = some (.complex .f32 gc0 gc1) := by go_simp
    replace a1 : ((((wr2.setCell ⟨p, 0, none⟩ (.complex .f32 gc0 gc1)).setCell ⟨p, 1, none⟩ (.complex .f32 gc2 gc3)).setCell ⟨p, 2, none⟩ (.complex .f32 gc4 gc5)).setCell ⟨p, 3, none⟩ (.complex .f32 gc6 gc7)).cell? ⟨p, 1, none⟩ = some (.complex .f32 gc2 gc3) := by go_simp
    replace a2 : ((((wr2.setCell ⟨p, 0, none⟩ (.complex .f32 gc0 gc1)).setCell ⟨p, 1, none⟩ (.complex .f32 gc2 gc3)).setCell ⟨p, 2, none⟩ (.complex .f32 gc4 gc5)).setCell ⟨p, 3, none⟩ (.complex .f32 gc6 gc7)).cell? ⟨p, 2, none⟩ = some (.complex .f32 gc4 gc5) := by go_simp
    replace a3 : ((((wr2.setCell ⟨p, 0, none⟩ (.complex .f32 gc0 gc1)).setCell ⟨p, 1, none⟩ (.complex .f32 gc2 gc3)).setCell ⟨p, 2, none⟩ (.complex .f32 gc4 gc5)).setCell ⟨p, 3, none⟩ (.complex .f32 gc6 gc7)).cell? ⟨p, 3, none⟩ = some (.complex .f32 gc6 gc7) := by go_simp
    replace Q12 : ((((wr2.setCell ⟨p, 0, none⟩ (.complex .f32 gc0 gc1)).setCell ⟨p, 1, none⟩ (.complex .f32 gc2 gc3)).setCell ⟨p, 2, none⟩ (.complex .f32 gc4 gc5)).setCell ⟨p, 3, none⟩ (.complex .f32 gc6 gc7)).cell? ⟨q, 12, none⟩ = some (.complex .f32 f0 f1) := by go_simp
    replace Q13 : ((((wr2.setCell ⟨p, 0, none⟩ (.complex .f32 gc0 gc1)).setCell ⟨p, 1, none⟩ (.complex .f32 gc2 gc3)).setCell ⟨p, 2, none⟩ (.complex .f32 gc4 gc5)).setCell ⟨p, 3, none⟩ (.complex .f32 gc6 gc7)).cell? ⟨q, 13, none⟩ = some (.complex .f32 f2 f3) := by go_simp
    replace Q14 : ((((wr2.setCell ⟨p, 0, none⟩ (.complex .f32 gc0 gc1)).setCell ⟨p, 1, none⟩ (.complex .f32 gc2 gc3)).setCell ⟨p, 2, none⟩ (.complex .f32 gc4 gc5)).setCell ⟨p, 3, none⟩ (.complex .f32 gc6 gc7)).cell? ⟨q, 14, none⟩ = some (.complex .f32 f4 f5) := by go_simp
    replace Q15 : ((((wr2.setCell ⟨p, 0, none⟩ (.complex .f32 gc0 gc1)).setCell ⟨p, 1, none⟩ (.complex .f32 gc2 gc3)).setCell ⟨p, 2, none⟩ (.complex .f32 gc4 gc5)).setCell ⟨p, 3, none⟩ (.complex .f32 gc6 gc7)).cell? ⟨q, 15, none⟩ = some (.complex .f32 f6 f7) := by go_simp
    replace r0 : ((((wr2.setCell ⟨p, 0, none⟩ (.complex .f32 gc0 gc1)).setCell ⟨p, 1, none⟩ (.complex .f32 gc2 gc3)).setCell ⟨p, 2, none⟩ (.complex .f32 gc4 gc5)).setCell ⟨p, 3, none⟩ (.complex .f32 gc6 gc7)).cell? ⟨w.heap.size + 1, 0, none⟩ = some (.complex .f32 0 0) := by go_simp
    replace q0 : ((((wr2.setCell ⟨p, 0, none⟩ (.complex .f32 gc0 gc1)).setCell ⟨p, 1, none⟩ (.complex .f32 gc2 gc3)).setCell ⟨p, 2, none⟩ (.complex .f32 gc4 gc5)).setCell ⟨p, 3, none⟩ (.complex .f32 gc6 gc7)).frozen? ⟨w.heap.size + 1, 0, none⟩ = false := by go_simp
    replace y0 : ((((wr2.setCell ⟨p, 0, none⟩ (.complex .f32 gc0 gc1)).setCell ⟨p, 1, none⟩ (.complex .f32 gc2 gc3)).setCell ⟨p, 2, none⟩ (.complex .f32 gc4 gc5)).setCell ⟨p, 3, none⟩ (.complex .f32 gc6 gc7)).frozen? ⟨p, 0, none⟩ = false := by go_simp
    replace r1 : ((((wr2.setCell ⟨p, 0, none⟩ (.complex .f32 gc0 gc1)).setCell ⟨p, 1, none⟩ (.complex .f32 gc2 gc3)).setCell ⟨p, 2, none⟩ (.complex .f32 gc4 gc5)).setCell ⟨p, 3, none⟩ (.complex .f32 gc6 gc7)).cell? ⟨w.heap.size + 1, 1, none⟩ = some (.complex .f32 0 0) := by go_simp
    replace q1 : ((((wr2.setCell ⟨p, 0, none⟩ (.complex .f32 gc0 gc1)).setCell ⟨p, 1, none⟩ (.complex .f32 gc2 gc3)).setCell ⟨p, 2, none⟩ (.complex .f32 gc4 gc5)).setCell ⟨p, 3, none⟩ (.complex .f32 gc6 gc7)).frozen? ⟨w.heap.size + 1, 1, none⟩ = false := by go_simp
    replace y1 : ((((wr2.setCell ⟨p, 0, none⟩ (.complex .f32 gc0 gc1)).setCell ⟨p, 1, none⟩ (.complex .f32 gc2 gc3)).setCell ⟨p, 2, none⟩ (.complex .f32 gc4 gc5)).setCell ⟨p, 3, none⟩ (.complex .f32 gc6 gc7)).frozen? ⟨p, 1, none⟩ = false := by go_simp
    replace r2 : ((((wr2.setCell ⟨p, 0, none⟩ (.complex .f32 gc0 gc1)).setCell ⟨p, 1, none⟩ (.complex .f32 gc2 gc3)).setCell ⟨p, 2, none⟩ (.complex .f32 gc4 gc5)).setCell ⟨p, 3, none⟩ (.complex .f32 gc6 gc7)).cell? ⟨w.heap.size + 1, 2, none⟩ = some (.complex .f32 0 0) := by go_simp
    replace q2 : ((((wr2.setCell ⟨p, 0, none⟩ (.complex .f32 gc0 gc1)).setCell ⟨p, 1, none⟩ (.complex .f32 gc2 gc3)).setCell ⟨p, 2, none⟩ (.complex .f32 gc4 gc5)).setCell ⟨p, 3, none⟩ (.complex .f32 gc6 gc7)).frozen? ⟨w.heap.size + 1, 2, none⟩ = false := by go_simp
    replace y2 : ((((wr2.setCell ⟨p, 0, none⟩ (.complex .f32 gc0 gc1)).setCell ⟨p, 1, none⟩ (.complex .f32 gc2 gc3)).setCell ⟨p, 2, none⟩ (.complex .f32 gc4 gc5)).setCell ⟨p, 3, none⟩ (.complex .f32 gc6 gc7)).frozen? ⟨p, 2, none⟩ = false := by go_simp
    replace r3 : ((((wr2.setCell ⟨p, 0, none⟩ (.complex .f32 gc0 gc1)).setCell ⟨p, 1, none⟩ (.complex .f32 gc2 gc3)).setCell ⟨p, 2, none⟩ (.complex .f32 gc4 gc5)).setCell ⟨p, 3, none⟩ (.complex .f32 gc6 gc7)).cell? ⟨w.heap.size + 1, 3, none⟩ = some (.complex .f32 0 0) := by go_simp
    replace q3 : ((((wr2.setCell ⟨p, 0, none⟩ (.complex .f32 gc0 gc1)).setCell ⟨p, 1, none⟩ (.complex .f32 gc2 gc3)).setCell ⟨p, 2, none⟩ (.complex .f32 gc4 gc5)).setCell ⟨p, 3, none⟩ (.complex .f32 gc6 gc7)).frozen? ⟨w.heap.size + 1, 3, none⟩ = false := by go_simp
    replace y3 : ((((wr2.setCell ⟨p, 0, none⟩ (.complex .f32 gc0 gc1)).setCell ⟨p, 1, none⟩ (.complex .f32 gc2 gc3)).setCell ⟨p, 2, none⟩ (.complex .f32 gc4 gc5)).setCell ⟨p, 3, none⟩ (.complex .f32 gc6 gc7)).frozen? ⟨p, 3, none⟩ = false := by go_simp
    clear z0 z1 z2 z3 zr0 zq0 pc0 pq0 pf0 zr1 zq1 pc1 pq1 pf1 zr2 zq2 pc2 pq2 pf2 zr3 zq3 pc3 pq3 pf3 Q8 Q9 Q10 Q11 hR2
    go_wp2_with fail
    generalize ((((wr2.setCell ⟨p, 0, none⟩ (.complex .f32 gc0 gc1)).setCell ⟨p, 1, none⟩ (.complex .f32 gc2 gc3)).setCell ⟨p, 2, none⟩ (.complex .f32 gc4 gc5)).setCell ⟨p, 3, none⟩ (.complex .f32 gc6 gc7)) = wk2 at *
    replace rl : w.heap.size + 1 < wk2.heap.size := cell_lt r0
    replace pl : p < wk2.heap.size := cell_lt a0
    rw [rounds_succ]
    go_wp2_with fail
    refine wp_region_held_drew (S := fun wx => wx.cell? ⟨q, 12, none⟩ = some (.complex .f32 f0 f1) ∧ wx.cell? ⟨q, 13, none⟩ = some (.complex .f32 f2 f3) ∧ wx.cell? ⟨q, 14, none⟩ = some (.complex .f32 f4 f5) ∧ wx.cell? ⟨q, 15, none⟩ = some (.complex .f32 f6 f7)) (by kernel_rfl) (by refine ⟨?_, ?_, ?_, ?_⟩ <;> (go_simp; done)) (fun hHeld => ?_)
    refine wpAnyH_take (i := 1) (oi := { dst := some 73, op := Op.move (Operand.tmp 14), type := 135, pos := "l09_fields.go:94", after := #[], guard := none }) (v := ?_) rfl (by kernel_rfl) (by kernel_rfl) (by kernel_rfl) (fun _ _ _ h => h) (Or.inl ⟨by rfl, ?_⟩) (by assumption) ?_
    rotate_left
    · intro wq hSw; (try dsimp only at hSw); go_simp; try (with_reducible rfl)
    try simp only [Act.put, List.setIfInBounds_toArray, List.set_cons_zero, List.set_cons_succ]
    refine wpAnyH_take (i := 2) (oi := { dst := some 74, op := Op.move (Operand.tmp 15), type := 3, pos := "l09_fields.go:94", after := #[], guard := none }) (v := ?_) rfl (by kernel_rfl) (by kernel_rfl) (by kernel_rfl) (fun _ _ _ h => h) (Or.inl ⟨by rfl, ?_⟩) (by assumption) ?_
    rotate_left
    · intro wq hSw; (try dsimp only at hSw); go_simp; try (with_reducible rfl)
    try simp only [Act.put, List.setIfInBounds_toArray, List.set_cons_zero, List.set_cons_succ]
    refine wpAnyH_take (i := 3) (oi := { dst := some 75, op := Op.indexAddr 135 (Operand.tmp 73) (Operand.tmp 74), type := 0, pos := "l09_fields.go:94", after := #[{ on := 1, ground := Ground.data }, { on := 2, ground := Ground.data }], guard := none }) (v := ?_) rfl (by kernel_rfl) (by kernel_rfl) (by kernel_rfl) (fun _ _ _ h => h) (Or.inl ⟨by rfl, ?_⟩) (by assumption) ?_
    rotate_left
    · intro wq hSw; (try dsimp only at hSw); go_simp; try (with_reducible rfl)
    try simp only [Act.put, List.setIfInBounds_toArray, List.set_cons_zero, List.set_cons_succ]
    refine wpAnyH_take (i := 4) (oi := { dst := some 76, op := Op.load 26 (Operand.tmp 75), type := 26, pos := "l09_fields.go:94", after := #[{ on := 3, ground := Ground.data }], guard := none }) (v := ?_) rfl (by kernel_rfl) (by kernel_rfl) (by kernel_rfl) (fun _ _ _ h => h) (Or.inl ⟨by rfl, ?_⟩) (by assumption) ?_
    rotate_left
    · intro wq hSw; (try dsimp only at hSw); go_simp; try (with_reducible rfl)
    try simp only [Act.put, List.setIfInBounds_toArray, List.set_cons_zero, List.set_cons_succ]
    refine wpAnyH_ready (rs := [0]) (by kernel_rfl) (by simp) ?_
    refine AllReadyH.cons (o := { dst := some 72, op := Op.load 26 (Operand.tmp 13), type := 26, pos := "l09_fields.go:94", after := #[], guard := none }) rfl (fun K hK => ?_) AllReadyH.nil
    go_simp
    refine hK.out _ _ hHeld (fun hHeld' => ?_)
    clear hK K hHeld'
    try simp only [Act.put, List.setIfInBounds_toArray, List.set_cons_zero, List.set_cons_succ]
    refine wpAnyH_ready (rs := [5]) (by kernel_rfl) (by simp) ?_
    refine AllReadyH.cons (o := { dst := some 77, op := Op.call { callee := Callee.value (Operand.func 131), args := #[Operand.tmp 72, Operand.tmp 76], argTypes := #[26, 26] }, type := 26, pos := "l09_fields.go:94", after := #[{ on := 0, ground := Ground.data }, { on := 4, ground := Ground.data }], guard := none }) rfl (fun K hK => ?_) AllReadyH.nil
    go_simp
    go_at_call 131
    with_reducible refine (G7.out _).mono ?_; rintro e wr3 ⟨rfl, hR3⟩
    clear hHeld
    have pc0 := hR3.cell_at (k := p) (o := 0) (v := .complex .f32 gc0 gc1) (by go_simp)
    have pc1 := hR3.cell_at (k := p) (o := 1) (v := .complex .f32 gc2 gc3) (by go_simp)
    have pc2 := hR3.cell_at (k := p) (o := 2) (v := .complex .f32 gc4 gc5) (by go_simp)
    have pc3 := hR3.cell_at (k := p) (o := 3) (v := .complex .f32 gc6 gc7) (by go_simp)
    have pq0 := hR3.cell_at (k := q) (o := 12) (v := .complex .f32 f0 f1) (by go_simp)
    have pq1 := hR3.cell_at (k := q) (o := 13) (v := .complex .f32 f2 f3) (by go_simp)
    have pq2 := hR3.cell_at (k := q) (o := 14) (v := .complex .f32 f4 f5) (by go_simp)
    have pq3 := hR3.cell_at (k := q) (o := 15) (v := .complex .f32 f6 f7) (by go_simp)
    have pf0 := hR3.frozen_at (k := p) (o := 0) (by simpa using pl) (by go_simp)
    have pf1 := hR3.frozen_at (k := p) (o := 1) (by simpa using pl) (by go_simp)
    have pf2 := hR3.frozen_at (k := p) (o := 2) (by simpa using pl) (by go_simp)
    have pf3 := hR3.frozen_at (k := p) (o := 3) (by simpa using pl) (by go_simp)
    refine hK.out _ _ (by refine ⟨?_, ?_, ?_, ?_⟩ <;> (with_reducible assumption)) (fun hHeld' => ?_)
    clear hK K
    try simp only [Act.put, List.setIfInBounds_toArray, List.set_cons_zero, List.set_cons_succ]
    refine wpAnyH_ready (rs := [6]) (by kernel_rfl) (by simp) ?_
    refine AllReadyH.cons (o := { dst := none, op := Op.store 26 (Operand.tmp 13) (Operand.tmp 77), type := 0, pos := "l09_fields.go:94", after := #[{ on := 5, ground := Ground.data }, { on := 5, ground := Ground.chain }, { on := 0, ground := Ground.phase }, { on := 1, ground := Ground.phase }, { on := 2, ground := Ground.phase }, { on := 3, ground := Ground.phase }, { on := 4, ground := Ground.phase }, { on := 5, ground := Ground.phase }], guard := none }) rfl (fun K hK => ?_) AllReadyH.nil
    go_simp
    refine hK.out _ _ (by refine ⟨?_, ?_, ?_, ?_⟩ <;> (go_simp; done)) (fun hHeld' => ?_)
    clear hK K hHeld'
    try simp only [Act.put, List.setIfInBounds_toArray, List.set_cons_zero, List.set_cons_succ]
    refine wpAnyH_done (by kernel_rfl) ?_ _
    have zr0 := hR3.cell_at (k := w.heap.size + 1) (o := 0) (v := .complex .f32 0 0) (by go_simp)
    have zq0 := hR3.frozen_at (k := w.heap.size + 1) (o := 0) (by simpa using rl) (by go_simp)
    have zr1 := hR3.cell_at (k := w.heap.size + 1) (o := 1) (v := .complex .f32 0 0) (by go_simp)
    have zq1 := hR3.frozen_at (k := w.heap.size + 1) (o := 1) (by simpa using rl) (by go_simp)
    have zr2 := hR3.cell_at (k := w.heap.size + 1) (o := 2) (v := .complex .f32 0 0) (by go_simp)
    have zq2 := hR3.frozen_at (k := w.heap.size + 1) (o := 2) (by simpa using rl) (by go_simp)
    have zr3 := hR3.cell_at (k := w.heap.size + 1) (o := 3) (v := .complex .f32 0 0) (by go_simp)
    have zq3 := hR3.frozen_at (k := w.heap.size + 1) (o := 3) (by simpa using rl) (by go_simp)
    replace hW : New w ((((wr3.setCell ⟨p, 0, none⟩ (.complex .f32 gd0 gd1)).setCell ⟨p, 1, none⟩ (.complex .f32 gd2 gd3)).setCell ⟨p, 2, none⟩ (.complex .f32 gd4 gd5)).setCell ⟨p, 3, none⟩ (.complex .f32 gd6 gd7)) := by
      refine New.set (p := ⟨p, 3, none⟩) (New.set (p := ⟨p, 2, none⟩) (New.set (p := ⟨p, 1, none⟩) (New.set (p := ⟨p, 0, none⟩) ?_ zp _) zp _) zp _) zp _
      exact hW.drew.trans hR3
    replace a0 : ((((wr3.setCell ⟨p, 0, none⟩ (.complex .f32 gd0 gd1)).setCell ⟨p, 1, none⟩ (.complex .f32 gd2 gd3)).setCell ⟨p, 2, none⟩ (.complex .f32 gd4 gd5)).setCell ⟨p, 3, none⟩ (.complex .f32 gd6 gd7)).cell? ⟨p, 0, none⟩ = some (.complex .f32 gd0 gd1) := by go_simp
    replace a1 : ((((wr3.setCell ⟨p, 0, none⟩ (.complex .f32 gd0 gd1)).setCell ⟨p, 1, none⟩ (.complex .f32 gd2 gd3)).setCell ⟨p, 2, none⟩ (.complex .f32 gd4 gd5)).setCell ⟨p, 3, none⟩ (.complex .f32 gd6 gd7)).cell? ⟨p, 1, none⟩ = some (.complex .f32 gd2 gd3) := by go_simp
    replace a2 : ((((wr3.setCell ⟨p, 0, none⟩ (.complex .f32 gd0 gd1)).setCell ⟨p, 1, none⟩ (.complex .f32 gd2 gd3)).setCell ⟨p, 2, none⟩ (.complex .f32 gd4 gd5)).setCell ⟨p, 3, none⟩ (.complex .f32 gd6 gd7)).cell? ⟨p, 2, none⟩ = some (.complex .f32 gd4 gd5) := by go_simp
    replace a3 : ((((wr3.setCell ⟨p, 0, none⟩ (.complex .f32 gd0 gd1)).setCell ⟨p, 1, none⟩ (.complex .f32 gd2 gd3)).setCell ⟨p, 2, none⟩ (.complex .f32 gd4 gd5)).setCell ⟨p, 3, none⟩ (.complex .f32 gd6 gd7)).cell? ⟨p, 3, none⟩ = some (.complex .f32 gd6 gd7) := by go_simp
    replace r0 : ((((wr3.setCell ⟨p, 0, none⟩ (.complex .f32 gd0 gd1)).setCell ⟨p, 1, none⟩ (.complex .f32 gd2 gd3)).setCell ⟨p, 2, none⟩ (.complex .f32 gd4 gd5)).setCell ⟨p, 3, none⟩ (.complex .f32 gd6 gd7)).cell? ⟨w.heap.size + 1, 0, none⟩ = some (.complex .f32 0 0) := by go_simp
    replace q0 : ((((wr3.setCell ⟨p, 0, none⟩ (.complex .f32 gd0 gd1)).setCell ⟨p, 1, none⟩ (.complex .f32 gd2 gd3)).setCell ⟨p, 2, none⟩ (.complex .f32 gd4 gd5)).setCell ⟨p, 3, none⟩ (.complex .f32 gd6 gd7)).frozen? ⟨w.heap.size + 1, 0, none⟩ = false := by go_simp
    replace y0 : ((((wr3.setCell ⟨p, 0, none⟩ (.complex .f32 gd0 gd1)).setCell ⟨p, 1, none⟩ (.complex .f32 gd2 gd3)).setCell ⟨p, 2, none⟩ (.complex .f32 gd4 gd5)).setCell ⟨p, 3, none⟩ (.complex .f32 gd6 gd7)).frozen? ⟨p, 0, none⟩ = false := by go_simp
    replace r1 : ((((wr3.setCell ⟨p, 0, none⟩ (.complex .f32 gd0 gd1)).setCell ⟨p, 1, none⟩ (.complex .f32 gd2 gd3)).setCell ⟨p, 2, none⟩ (.complex .f32 gd4 gd5)).setCell ⟨p, 3, none⟩ (.complex .f32 gd6 gd7)).cell? ⟨w.heap.size + 1, 1, none⟩ = some (.complex .f32 0 0) := by go_simp
    replace q1 : ((((wr3.setCell ⟨p, 0, none⟩ (.complex .f32 gd0 gd1)).setCell ⟨p, 1, none⟩ (.complex .f32 gd2 gd3)).setCell ⟨p, 2, none⟩ (.complex .f32 gd4 gd5)).setCell ⟨p, 3, none⟩ (.complex .f32 gd6 gd7)).frozen? ⟨w.heap.size + 1, 1, none⟩ = false := by go_simp
    replace y1 : ((((wr3.setCell ⟨p, 0, none⟩ (.complex .f32 gd0 gd1)).setCell ⟨p, 1, none⟩ (.complex .f32 gd2 gd3)).setCell ⟨p, 2, none⟩ (.complex .f32 gd4 gd5)).setCell ⟨p, 3, none⟩ (.complex .f32 gd6 gd7)).frozen? ⟨p, 1, none⟩ = false := by go_simp
    replace r2 : ((((wr3.setCell ⟨p, 0, none⟩ (.complex .f32 gd0 gd1)).setCell ⟨p, 1, none⟩ (.complex .f32 gd2 gd3)).setCell ⟨p, 2, none⟩ (.complex .f32 gd4 gd5)).setCell ⟨p, 3, none⟩ (.complex .f32 gd6 gd7)).cell? ⟨w.heap.size + 1, 2, none⟩ = some (.complex .f32 0 0) := by go_simp
    replace q2 : ((((wr3.setCell ⟨p, 0, none⟩ (.complex .f32 gd0 gd1)).setCell ⟨p, 1, none⟩ (.complex .f32 gd2 gd3)).setCell ⟨p, 2, none⟩ (.complex .f32 gd4 gd5)).setCell ⟨p, 3, none⟩ (.complex .f32 gd6 gd7)).frozen? ⟨w.heap.size + 1, 2, none⟩ = false := by go_simp
    replace y2 : ((((wr3.setCell ⟨p, 0, none⟩ (.complex .f32 gd0 gd1)).setCell ⟨p, 1, none⟩ (.complex .f32 gd2 gd3)).setCell ⟨p, 2, none⟩ (.complex .f32 gd4 gd5)).setCell ⟨p, 3, none⟩ (.complex .f32 gd6 gd7)).frozen? ⟨p, 2, none⟩ = false := by go_simp
    replace r3 : ((((wr3.setCell ⟨p, 0, none⟩ (.complex .f32 gd0 gd1)).setCell ⟨p, 1, none⟩ (.complex .f32 gd2 gd3)).setCell ⟨p, 2, none⟩ (.complex .f32 gd4 gd5)).setCell ⟨p, 3, none⟩ (.complex .f32 gd6 gd7)).cell? ⟨w.heap.size + 1, 3, none⟩ = some (.complex .f32 0 0) := by go_simp
    replace q3 : ((((wr3.setCell ⟨p, 0, none⟩ (.complex .f32 gd0 gd1)).setCell ⟨p, 1, none⟩ (.complex .f32 gd2 gd3)).setCell ⟨p, 2, none⟩ (.complex .f32 gd4 gd5)).setCell ⟨p, 3, none⟩ (.complex .f32 gd6 gd7)).frozen? ⟨w.heap.size + 1, 3, none⟩ = false := by go_simp
    replace y3 : ((((wr3.setCell ⟨p, 0, none⟩ (.complex .f32 gd0 gd1)).setCell ⟨p, 1, none⟩ (.complex .f32 gd2 gd3)).setCell ⟨p, 2, none⟩ (.complex .f32 gd4 gd5)).setCell ⟨p, 3, none⟩ (.complex .f32 gd6 gd7)).frozen? ⟨p, 3, none⟩ = false := by go_simp
    clear zr0 zq0 pc0 pq0 pf0 zr1 zq1 pc1 pq1 pf1 zr2 zq2 pc2 pq2 pf2 zr3 zq3 pc3 pq3 pf3 Q12 Q13 Q14 Q15 hR3
    go_wp2_with fail
    generalize ((((wr3.setCell ⟨p, 0, none⟩ (.complex .f32 gd0 gd1)).setCell ⟨p, 1, none⟩ (.complex .f32 gd2 gd3)).setCell ⟨p, 2, none⟩ (.complex .f32 gd4 gd5)).setCell ⟨p, 3, none⟩ (.complex .f32 gd6 gd7)) = wk3 at *
    replace rl : w.heap.size + 1 < wk3.heap.size := cell_lt r0
    replace pl : p < wk3.heap.size := cell_lt a0
    rw [rounds_succ]
    go_wp2_with fail
    refine (G8.out _).mono ?_; rintro e wz ⟨rfl, hZ⟩
    have zr0 := hZ.cell_at (k := w.heap.size + 1) (o := 0) (v := .complex .f32 0 0) (by go_simp)
    have zq0 := hZ.frozen_at (k := w.heap.size + 1) (o := 0) (by simpa using rl) (by go_simp)
    have zr1 := hZ.cell_at (k := w.heap.size + 1) (o := 1) (v := .complex .f32 0 0) (by go_simp)
    have zq1 := hZ.frozen_at (k := w.heap.size + 1) (o := 1) (by simpa using rl) (by go_simp)
    have zr2 := hZ.cell_at (k := w.heap.size + 1) (o := 2) (v := .complex .f32 0 0) (by go_simp)
    have zq2 := hZ.frozen_at (k := w.heap.size + 1) (o := 2) (by simpa using rl) (by go_simp)
    have zr3 := hZ.cell_at (k := w.heap.size + 1) (o := 3) (v := .complex .f32 0 0) (by go_simp)
    have zq3 := hZ.frozen_at (k := w.heap.size + 1) (o := 3) (by simpa using rl) (by go_simp)
    go_wp2
    refine bodyPost_ret (v := C8.told ⟨0, gd0, gd1, gd2, gd3, gd4, gd5, gd6, gd7⟩) (by simp [results, Try.results86, go_sem, zr0, zr1, zr2, zr3]) rfl ⟨rfl, ?_⟩
    exact New.set4 (hW.trans hZ) gw _ _ _ _
end Go.Proofs.Ytmbjomjpnfnbkaa
