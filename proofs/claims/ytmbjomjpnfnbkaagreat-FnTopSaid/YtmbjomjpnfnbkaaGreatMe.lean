/-
  Walks of the program's pairs.
-/
import Derived.Test.YtmbjomjpnfnbkaaGreatMf
import Derived.Test.YtmbjomjpnfnbkaaGreatK2
import Derived.ChangeKeysEq
set_option linter.unusedSimpArgs false
set_option linter.unusedVariables false
namespace Go.Proofs.YtmbjomjpnfnbkaaGreat
open Go.RowKit Flt

theorem toldP_c (b : Nat) (t : C8) (w : World) (hA : At b 0 w) :
    Calls Tryz.prog 32 #[.pointer (some ⟨b, 0, none⟩), t.val] w fun e w' => e = .returned (.tuple #[t.val, .int .i64 0]) ∧ New w w' := by
  have hlt := hA.lt
  have hc := hA.1
  obtain ⟨c, a0, a1, b0, b1, c0, c1, d0, d1⟩ := t
  go_enter Tryz.func32, Tryz.ntmps32
  go_wp2
  refine bodyPost_ret (v := .tuple #[T4 a0 a1 b0 b1 c0 c1 d0 d1, .int .i64 0]) (by simp [results, Tryz.results32, go_sem]) rfl ⟨rfl, ?_⟩
  exact ((New.refl w).alloc _).alloc _

theorem isPair_c (t : C8) (w : World) (ht : Fw8 t) :
    Calls Tryz.prog 35 #[t.val] w fun e w' => e = .returned (.bool true) ∧ New w w' := by
  have h1 : [(t.a0, t.a1), (t.b0, t.b1), (t.c0, t.c1), (t.d0, t.d1)].all finC = true := by simp [finC, ht.a0.2, ht.a1.2, ht.b0.2, ht.b1.2, ht.c0.2, ht.c1.2, ht.d0.2, ht.d1.2]
  have H1 := hid h1
  clear h1 ht
  obtain ⟨tc, a0, a1, b0, b1, c0, c1, d0, d1⟩ := t
  simp only at H1
  go_enter Tryz.func35, Tryz.ntmps35
  go_wp2_with fail
  refine (areCx_c w.heap.size 0 [(a0, a1), (b0, b1), (c0, c1), (d0, d1)] 4 _ (by simp) (fun j hj => ?_)).mono ?_
  · have : j = 0 ∨ j = 1 ∨ j = 2 ∨ j = 3 := by simp at hj; omega
    rcases this with rfl | rfl | rfl | rfl <;> go_simp
  rintro e w1 ⟨rfl, hN⟩
  rw [H1.out]
  go_wp2
  go_ret
  exact ⟨rfl, ((New.refl w).alloc _).trans hN⟩

theorem isSpin_c (n : Int) (w : World) (hn : n = 0 ∨ n = 1) :
    Calls Tryz.prog 31 #[.int .i64 n] w fun e w' => e = .returned (.bool true) ∧ w = w' := by
  have h := hid (show inB n 0 1 = true by rcases hn with rfl | rfl <;> decide)
  clear hn
  go_enter Tryz.func31, Tryz.ntmps31
  go_wp2_with fail
  refine (within_c n 0 1 _).mono ?_; rintro e w1 ⟨rfl, rfl⟩; rw [h.out]
  go_wp2
  go_ret; exact ⟨rfl, rfl⟩

theorem pairCode_c (p t : C8) (w : World) (hp : Fw8 p) (ht : Fw8 t) :
    Calls Tryz.prog 30 #[p.val, t.val, .bool true] w fun e w' => e = .returned (.int .i64 0) ∧ New w w' := by
  have K1 := hid (fun w => isPair_c p w hp)
  have K2 := hid (fun w => isTable_c t w ht)
  clear hp ht
  obtain ⟨pc, p0, p1, p2, p3, p4, p5, p6, p7⟩ := p
  obtain ⟨tc, t0, t1, t2, t3, t4, t5, t6, t7⟩ := t
  go_enter Tryz.func30, Tryz.ntmps30
  go_wp2_with fail
  with_reducible refine (K1.out _).mono ?_; rintro e w1 ⟨rfl, hN⟩
  have e0 := hN.cell_at (k := w.heap.size + 1) (o := 0) (v := .complex .f32 t0 t1) (by go_simp)
  have e1 := hN.cell_at (k := w.heap.size + 1) (o := 1) (v := .complex .f32 t2 t3) (by go_simp)
  have e2 := hN.cell_at (k := w.heap.size + 1) (o := 2) (v := .complex .f32 t4 t5) (by go_simp)
  have e3 := hN.cell_at (k := w.heap.size + 1) (o := 3) (v := .complex .f32 t6 t7) (by go_simp)
  go_wp2_with fail
  with_reducible refine (K2.out _).mono ?_; rintro e w2 ⟨rfl, hN2⟩
  go_wp2
  go_ret
  exact ⟨rfl, ((((New.refl w).alloc _).alloc _).trans hN).trans hN2⟩

/-- The pair the other way. -/
def swp (p : C8) : C8 := ⟨p.c, p.a0, p.a1, p.c0, p.c1, p.b0, p.b1, p.d0, p.d1⟩
theorem swapped_c (p : C8) (w : World) :
    Calls Tryz.prog 37 #[p.val] w fun e w' => e = .returned (swp p).val ∧ New w w' := by
  obtain ⟨pc, p0, p1, p2, p3, p4, p5, p6, p7⟩ := p
  go_enter Tryz.func37, Tryz.ntmps37
  go_wp2
  refine bodyPost_ret (v := T4 p0 p1 p4 p5 p2 p3 p6 p7) (by simp [results, Tryz.results37, go_sem]) rfl ⟨rfl, ?_⟩
  repeat (with_reducible first | exact New.refl _ | apply New.drew | apply New.drewN | apply New.alloc | (apply New.set (hp := by simp)))

theorem index_pair (vs : Array Value) (i : Nat) (v : Value) (hi : i < 4) (hv : vs[i]? = some v) (w : World) : (Instr.index 45 (.agg vs) (.int .i64 i)).run Tryz.prog w = .ok v w := by
  have hu : Tryz.prog.underlying 45 = some (.array 4 26) := by kernel_rfl
  have hs := run_sizeOf (P := Tryz.prog) (t := 26) (w := w) (i := (Tryz.prog.info? 26).get (by kernel_rfl)) (by kernel_rfl)
  have hc : Tryz.prog.cellsOf 26 = 1 := by kernel_rfl
  rw [hc] at hs
  simp [Instr.index, asIntOf, run_underlying hu, go_sem, hs, hi, hv]
theorem index_pair0 (a b c d : Value) (w : World) : (Instr.index 45 (.agg #[a, b, c, d]) (.int .i64 0)).run Tryz.prog w = .ok a w := index_pair _ 0 _ (by decide) rfl w
theorem index_pair1 (a b c d : Value) (w : World) : (Instr.index 45 (.agg #[a, b, c, d]) (.int .i64 1)).run Tryz.prog w = .ok b w := index_pair _ 1 _ (by decide) rfl w
theorem index_pair2 (a b c d : Value) (w : World) : (Instr.index 45 (.agg #[a, b, c, d]) (.int .i64 2)).run Tryz.prog w = .ok c w := index_pair _ 2 _ (by decide) rfl w
theorem index_pair3 (a b c d : Value) (w : World) : (Instr.index 45 (.agg #[a, b, c, d]) (.int .i64 3)).run Tryz.prog w = .ok d w := index_pair _ 3 _ (by decide) rfl w
attribute [local go_sem] index_pair0
attribute [local go_sem] index_pair1
attribute [local go_sem] index_pair2
attribute [local go_sem] index_pair3
set_option maxHeartbeats 1000000 in
theorem ownPair_c (b : Nat) (p : C8) (w : World) (hp : Fw8 p) (hA : At b 0 w) :
    Calls Tryz.prog 36 #[.pointer (some ⟨b, 0, none⟩), p.val] w fun e w' => e = .returned (nz p).val ∧ New w w' := by
  have hlt := hA.lt
  obtain ⟨pc, p0, p1, p2, p3, p4, p5, p6, p7⟩ := p
  have K0 := hid (fun w hA => z0_c b p0 p1 w hp.a0 hp.a1 hA)
  have K1 := hid (fun w hA => z0_c b p2 p3 w hp.b0 hp.b1 hA)
  have K2 := hid (fun w hA => z0_c b p4 p5 w hp.c0 hp.c1 hA)
  have K3 := hid (fun w hA => z0_c b p6 p7 w hp.d0 hp.d1 hA)
  have HA := hid hA
  clear hA
  clear hp
  have e : (nz ⟨pc, p0, p1, p2, p3, p4, p5, p6, p7⟩).val = T4 (zn p0) (zn p1) (zn p2) (zn p3) (zn p4) (zn p5) (zn p6) (zn p7) := rfl
  rw [e]
  clear e
  generalize zn p0 = q0 at *
  generalize zn p1 = q1 at *
  generalize zn p2 = q2 at *
  generalize zn p3 = q3 at *
  generalize zn p4 = q4 at *
  generalize zn p5 = q5 at *
  generalize zn p6 = q6 at *
  generalize zn p7 = q7 at *
  have hne : w.heap.size ≠ b := by omega
  go_enter Tryz.func36, Tryz.ntmps36
  go_wp2_with fail
  refine wp_loop_rounds 5 ?_; rw [rounds_succ]
  go_wp2_with fail
  with_reducible refine (K0.out _ (by repeat (with_reducible first | exact HA.out | apply At.alloc | apply At.drew | apply At.drewN | (apply At.setNew (hp := hne))))).mono ?_; rintro e w1 ⟨rfl, rfl⟩
  go_wp2_with fail
  rw [rounds_succ]
  go_wp2_with fail
  with_reducible refine (K1.out _ (by repeat (with_reducible first | exact HA.out | apply At.alloc | apply At.drew | apply At.drewN | (apply At.setNew (hp := hne))))).mono ?_; rintro e w1 ⟨rfl, rfl⟩
  go_wp2_with fail
  rw [rounds_succ]
  go_wp2_with fail
  with_reducible refine (K2.out _ (by repeat (with_reducible first | exact HA.out | apply At.alloc | apply At.drew | apply At.drewN | (apply At.setNew (hp := hne))))).mono ?_; rintro e w1 ⟨rfl, rfl⟩
  go_wp2_with fail
  rw [rounds_succ]
  go_wp2_with fail
  with_reducible refine (K3.out _ (by repeat (with_reducible first | exact HA.out | apply At.alloc | apply At.drew | apply At.drewN | (apply At.setNew (hp := hne))))).mono ?_; rintro e w1 ⟨rfl, rfl⟩
  go_wp2_with fail
  rw [rounds_succ]
  go_wp2_with fail
  refine bodyPost_ret (v := T4 q0 q1 q2 q3 q4 q5 q6 q7) (by simp [results, Tryz.results36, go_sem]) rfl ⟨rfl, ?_⟩
  have g0 : w.heap.size ≤ w.heap.size := Nat.le_refl _
  have g1 : w.heap.size ≤ w.heap.size + 1 := Nat.le_succ _
  repeat (with_reducible first | exact New.refl _ | apply New.drew | apply New.drewN | apply New.alloc | apply New.set (hp := g0) | apply New.set (hp := g1))

set_option maxHeartbeats 1000000 in
theorem swapPair_c (p : C8) (w : World) (hp : Fw8 p) :
    Calls Tryz.prog 14 #[p.val] w fun e w' => e = .returned (.tuple #[(nz (swp p)).val, .int .i64 0]) ∧ New w w' := by
  have K1 := hid (fun w => isPair_c p w hp)
  have K2 := hid (fun w => swapped_c p w)
  have K3 := hid (fun b w hA => ownPair_c b (swp p) w ⟨hp.a0, hp.a1, hp.c0, hp.c1, hp.b0, hp.b1, hp.d0, hp.d1⟩ hA)
  clear hp
  generalize nz (swp p) = r at *
  generalize swp p = q at *
  have K4 := hid (fun b w hA => toldP_c b r w hA)
  obtain ⟨pc, p0, p1, p2, p3, p4, p5, p6, p7⟩ := p
  obtain ⟨rc, r0, r1, r2, r3, r4, r5, r6, r7⟩ := r
  obtain ⟨qc, q0, q1, q2, q3, q4, q5, q6, q7⟩ := q
  go_enter Tryz.func14, Tryz.ntmps14
  go_wp2_with fail
  with_reducible refine (K1.out _).mono ?_; rintro e w1 ⟨rfl, hN⟩
  have hs1 := hN.size
  simp at hs1
  have e0 := cell_alloc (hN.cell_at (k := w.heap.size) (o := 0) (v := .complex .f32 p0 p1) (by go_simp))
  have e1 := cell_alloc (hN.cell_at (k := w.heap.size) (o := 1) (v := .complex .f32 p2 p3) (by go_simp))
  have e2 := cell_alloc (hN.cell_at (k := w.heap.size) (o := 2) (v := .complex .f32 p4 p5) (by go_simp))
  have e3 := cell_alloc (hN.cell_at (k := w.heap.size) (o := 3) (v := .complex .f32 p6 p7) (by go_simp))
  have i0 := hid (hN.cell_at (k := w.heap.size + 1) (o := 0) (v := .complex .f32 0 0) (by go_simp))
  have i1 := hid (hN.cell_at (k := w.heap.size + 1) (o := 1) (v := .complex .f32 0 0) (by go_simp))
  have i2 := hid (hN.cell_at (k := w.heap.size + 1) (o := 2) (v := .complex .f32 0 0) (by go_simp))
  have i3 := hid (hN.cell_at (k := w.heap.size + 1) (o := 3) (v := .complex .f32 0 0) (by go_simp))
  have f0 := hid (hN.frozen_at (k := w.heap.size + 1) (o := 0) (by simp) (by go_simp))
  have f1 := hid (hN.frozen_at (k := w.heap.size + 1) (o := 1) (by simp) (by go_simp))
  have f2 := hid (hN.frozen_at (k := w.heap.size + 1) (o := 2) (by simp) (by go_simp))
  have f3 := hid (hN.frozen_at (k := w.heap.size + 1) (o := 3) (by simp) (by go_simp))
  have hN0 := hid ((((New.refl w).alloc _).alloc _).trans hN)
  clear hN
  go_wp2_with fail
  with_reducible refine (K2.out _).mono ?_; rintro e w2 ⟨rfl, hN2⟩
  have hA2 := hN2.at_ (At.new w1 0 55)
  go_wp2_with fail
  with_reducible refine (K3.out w1.heap.size _ hA2).mono ?_; rintro e w3 ⟨rfl, hN3⟩
  have hA3 := hN3.at_ hA2
  go_wp2_with fail
  with_reducible refine (K4.out w1.heap.size _ hA3).mono ?_; rintro e w4 ⟨rfl, hN4⟩
  have hNz := (hN2.trans hN3).trans hN4
  have hsz := hNz.size
  simp at hsz
  have j0 := hNz.cell_at (cell_alloc i0.out _)
  have j1 := hNz.cell_at (cell_alloc i1.out _)
  have j2 := hNz.cell_at (cell_alloc i2.out _)
  have j3 := hNz.cell_at (cell_alloc i3.out _)
  have g0 := hNz.frozen_at (k := w.heap.size + 1) (o := 0) (by simp; omega) (frozen_alloc (by omega) f0.out _)
  have g1 := hNz.frozen_at (k := w.heap.size + 1) (o := 1) (by simp; omega) (frozen_alloc (by omega) f1.out _)
  have g2 := hNz.frozen_at (k := w.heap.size + 1) (o := 2) (by simp; omega) (frozen_alloc (by omega) f2.out _)
  have g3 := hNz.frozen_at (k := w.heap.size + 1) (o := 3) (by simp; omega) (frozen_alloc (by omega) f3.out _)
  go_wp2
  refine bodyPost_ret (v := .tuple #[T4 r0 r1 r2 r3 r4 r5 r6 r7, .int .i64 0]) (by simp [results, Tryz.results14, go_sem, j0, j1, j2, j3]) rfl ⟨rfl, ?_⟩
  exact New.set4 ((hN0.out.alloc _).trans hNz) (Nat.le_succ _) _ _ _ _
end Go.Proofs.YtmbjomjpnfnbkaaGreat

namespace Go.Proofs.YtmbjomjpnfnbkaaGreat
open Go.RowKit Flt

/-- What a table makes of the first spin: all four sums are numbers. -/
structure TabOk (a p R : C8) : Prop where
  h0 : inTableM a.a0 a.a1 p.a0 p.a1 a.b0 a.b1 p.c0 p.c1 0 = (0, R.a0, R.a1)
  h1 : inTableM a.a0 a.a1 p.b0 p.b1 a.b0 a.b1 p.d0 p.d1 0 = (0, R.b0, R.b1)
  h2 : inTableM a.c0 a.c1 p.a0 p.a1 a.d0 a.d1 p.c0 p.c1 0 = (0, R.c0, R.c1)
  h3 : inTableM a.c0 a.c1 p.b0 p.b1 a.d0 a.d1 p.d0 p.d1 0 = (0, R.d0, R.d1)

theorem inTable0_c (b : Nat) (a0 a1 b0 b1 x0 x1 y0 y1 r0 r1 : Nat) (k j : Int) (w : World) (ha0 : Lw k a0) (ha1 : Lw k a1) (hb0 : Lw j b0) (hb1 : Lw j b1) (hx0 : Lw k x0) (hx1 : Lw k x1) (hy0 : Lw j y0) (hy1 : Lw j y1) (h1 : -149 ≤ k + j) (h2 : k + j ≤ 126)
    (he : inTableM a0 a1 b0 b1 x0 x1 y0 y1 0 = (0, r0, r1)) (hA : At b 0 w) :
    Calls Tryz.prog 55 #[.pointer (some ⟨b, 0, none⟩), .complex .f32 a0 a1, .complex .f32 b0 b1, .complex .f32 x0 x1, .complex .f32 y0 y1] w fun e w' => e = .returned (.complex .f32 r0 r1) ∧ w = w' := by
  refine (inTable_c b 0 a0 a1 b0 b1 x0 x1 y0 y1 w ⟨ha0.FW, ha1.FW⟩ ⟨hb0.FW, hb1.FW⟩ ⟨hx0.FW, hx1.FW⟩ ⟨hy0.FW, hy1.FW⟩ (NO_of ha0 ha1 hb0 hb1 h1 h2) (NO_of hx0 hx1 hy0 hy1 h1 h2) hA).mono ?_
  rintro e w' ⟨rfl, rfl⟩
  rw [he]
  exact ⟨rfl, hA.self.symm⟩

set_option maxHeartbeats 2000000 in
theorem turnFirst_c (b : Nat) (a p R : C8) (k j : Int) (w : World) (ha : Lw8 k a) (hp : Lw8 j p) (h1 : -149 ≤ k + j) (h2 : k + j ≤ 126) (hT : TabOk a p R) (hA : At b 0 w) :
    Calls Tryz.prog 33 #[.pointer (some ⟨b, 0, none⟩), a.val, p.val] w fun e w' => e = .returned R.val ∧ New w w' := by
  have hlt := hA.lt
  have K0 := hid (fun w hA => inTable0_c b a.a0 a.a1 p.a0 p.a1 a.b0 a.b1 p.c0 p.c1 _ _ k j w ha.a0 ha.a1 hp.a0 hp.a1 ha.b0 ha.b1 hp.c0 hp.c1 h1 h2 hT.h0 hA)
  have K1 := hid (fun w hA => inTable0_c b a.a0 a.a1 p.b0 p.b1 a.b0 a.b1 p.d0 p.d1 _ _ k j w ha.a0 ha.a1 hp.b0 hp.b1 ha.b0 ha.b1 hp.d0 hp.d1 h1 h2 hT.h1 hA)
  have K2 := hid (fun w hA => inTable0_c b a.c0 a.c1 p.a0 p.a1 a.d0 a.d1 p.c0 p.c1 _ _ k j w ha.c0 ha.c1 hp.a0 hp.a1 ha.d0 ha.d1 hp.c0 hp.c1 h1 h2 hT.h2 hA)
  have K3 := hid (fun w hA => inTable0_c b a.c0 a.c1 p.b0 p.b1 a.d0 a.d1 p.d0 p.d1 _ _ k j w ha.c0 ha.c1 hp.b0 hp.b1 ha.d0 ha.d1 hp.d0 hp.d1 h1 h2 hT.h3 hA)
  clear ha hp h1 h2 hT
  have HA := hid hA
  clear hA
  have hne3 : w.heap.size + 1 + 1 + 1 ≠ b := by omega
  have ew0 : IntKind.i64.wrap 0 = 0 := by decide
  have ew1 : IntKind.i64.wrap 1 = 1 := by decide
  have ew2 : IntKind.i64.wrap 2 = 2 := by decide
  have ew3 : IntKind.i64.wrap 3 = 3 := by decide
  obtain ⟨ac, a0, a1, a2, a3, a4, a5, a6, a7⟩ := a
  obtain ⟨pc, p0, p1, p2, p3, p4, p5, p6, p7⟩ := p
  obtain ⟨rc, r0, r1, r2, r3, r4, r5, r6, r7⟩ := R
  simp only at K0 K1 K2 K3
  
  go_enter Tryz.func33, Tryz.ntmps33
  go_wp2_with fail
  refine wp_loop_rounds 5 ?_; rw [rounds_succ]
  go_wp2_with fail
  go_region_held3 (fun w' => w'.cell? ⟨w.heap.size, 0, none⟩ = some (.complex .f32 a0 a1) ∧ w'.cell? ⟨w.heap.size, 1, none⟩ = some (.complex .f32 a2 a3) ∧ w'.cell? ⟨w.heap.size + 1, 0, none⟩ = some (.complex .f32 p0 p1) ∧ w'.cell? ⟨w.heap.size + 1, 2, none⟩ = some (.complex .f32 p4 p5)) (((repeat' apply And.intro) <;> (first | (with_reducible assumption) | (go_simp; done))))
    (first | (go_at_call 55; (with_reducible refine (K0.out _ (by repeat (with_reducible first | exact HA.out | apply At.alloc | apply At.drew | apply At.drewN | (apply At.setNew (hp := hne3))))).mono ?_); rintro e w' ⟨rfl, rfl⟩))
  all_goals (rename_i hh; clear hh)
  go_wp2_with fail
  rw [rounds_succ]
  go_wp2_with fail
  go_region_held3 (fun w' => w'.cell? ⟨w.heap.size, 0, none⟩ = some (.complex .f32 a0 a1) ∧ w'.cell? ⟨w.heap.size, 1, none⟩ = some (.complex .f32 a2 a3) ∧ w'.cell? ⟨w.heap.size + 1, 1, none⟩ = some (.complex .f32 p2 p3) ∧ w'.cell? ⟨w.heap.size + 1, 3, none⟩ = some (.complex .f32 p6 p7)) (((repeat' apply And.intro) <;> (first | (with_reducible assumption) | (go_simp; done))))
    (first | (go_at_call 55; (with_reducible refine (K1.out _ (by repeat (with_reducible first | exact HA.out | apply At.alloc | apply At.drew | apply At.drewN | (apply At.setNew (hp := hne3))))).mono ?_); rintro e w' ⟨rfl, rfl⟩))
  all_goals (rename_i hh; clear hh)
  go_wp2_with fail
  rw [rounds_succ]
  go_wp2_with fail
  go_region_held3 (fun w' => w'.cell? ⟨w.heap.size, 2, none⟩ = some (.complex .f32 a4 a5) ∧ w'.cell? ⟨w.heap.size, 3, none⟩ = some (.complex .f32 a6 a7) ∧ w'.cell? ⟨w.heap.size + 1, 0, none⟩ = some (.complex .f32 p0 p1) ∧ w'.cell? ⟨w.heap.size + 1, 2, none⟩ = some (.complex .f32 p4 p5)) (((repeat' apply And.intro) <;> (first | (with_reducible assumption) | (go_simp; done))))
    (first | (go_at_call 55; (with_reducible refine (K2.out _ (by repeat (with_reducible first | exact HA.out | apply At.alloc | apply At.drew | apply At.drewN | (apply At.setNew (hp := hne3))))).mono ?_); rintro e w' ⟨rfl, rfl⟩))
  all_goals (rename_i hh; clear hh)
  go_wp2_with fail
  rw [rounds_succ]
  go_wp2_with fail
  go_region_held3 (fun w' => w'.cell? ⟨w.heap.size, 2, none⟩ = some (.complex .f32 a4 a5) ∧ w'.cell? ⟨w.heap.size, 3, none⟩ = some (.complex .f32 a6 a7) ∧ w'.cell? ⟨w.heap.size + 1, 1, none⟩ = some (.complex .f32 p2 p3) ∧ w'.cell? ⟨w.heap.size + 1, 3, none⟩ = some (.complex .f32 p6 p7)) (((repeat' apply And.intro) <;> (first | (with_reducible assumption) | (go_simp; done))))
    (first | (go_at_call 55; (with_reducible refine (K3.out _ (by repeat (with_reducible first | exact HA.out | apply At.alloc | apply At.drew | apply At.drewN | (apply At.setNew (hp := hne3))))).mono ?_); rintro e w' ⟨rfl, rfl⟩))
  all_goals (rename_i hh; clear hh)
  go_wp2_with fail
  rw [rounds_succ]
  go_wp2_with fail
  refine bodyPost_ret (v := T4 r0 r1 r2 r3 r4 r5 r6 r7) (by simp [results, Tryz.results33, go_sem]) rfl ⟨rfl, ?_⟩
  have g0 : w.heap.size ≤ w.heap.size + 1 + 1 := by omega
  have g1 : w.heap.size ≤ w.heap.size + 1 + 1 + 1 := by omega
  repeat (with_reducible first | exact New.refl _ | apply New.drew | apply New.drewN | apply New.alloc | apply New.set (hp := g0) | apply New.set (hp := g1))

set_option maxHeartbeats 2000000 in
theorem turnSecond_c (b : Nat) (a p R : C8) (k j : Int) (w : World) (ha : Lw8 k a) (hp : Lw8 j p) (h1 : -149 ≤ k + j) (h2 : k + j ≤ 126) (hT : TabOk a p R) (hA : At b 0 w) :
    Calls Tryz.prog 34 #[.pointer (some ⟨b, 0, none⟩), a.val, (swp p).val] w fun e w' => e = .returned (swp R).val ∧ New w w' := by
  have hlt := hA.lt
  have K0 := hid (fun w hA => inTable0_c b a.a0 a.a1 p.a0 p.a1 a.b0 a.b1 p.c0 p.c1 _ _ k j w ha.a0 ha.a1 hp.a0 hp.a1 ha.b0 ha.b1 hp.c0 hp.c1 h1 h2 hT.h0 hA)
  have K1 := hid (fun w hA => inTable0_c b a.a0 a.a1 p.b0 p.b1 a.b0 a.b1 p.d0 p.d1 _ _ k j w ha.a0 ha.a1 hp.b0 hp.b1 ha.b0 ha.b1 hp.d0 hp.d1 h1 h2 hT.h1 hA)
  have K2 := hid (fun w hA => inTable0_c b a.c0 a.c1 p.a0 p.a1 a.d0 a.d1 p.c0 p.c1 _ _ k j w ha.c0 ha.c1 hp.a0 hp.a1 ha.d0 ha.d1 hp.c0 hp.c1 h1 h2 hT.h2 hA)
  have K3 := hid (fun w hA => inTable0_c b a.c0 a.c1 p.b0 p.b1 a.d0 a.d1 p.d0 p.d1 _ _ k j w ha.c0 ha.c1 hp.b0 hp.b1 ha.d0 ha.d1 hp.d0 hp.d1 h1 h2 hT.h3 hA)
  clear ha hp h1 h2 hT
  have HA := hid hA
  clear hA
  have hne3 : w.heap.size + 1 + 1 + 1 ≠ b := by omega
  have ew0 : IntKind.i64.wrap 0 = 0 := by decide
  have ew1 : IntKind.i64.wrap 1 = 1 := by decide
  have ew2 : IntKind.i64.wrap 2 = 2 := by decide
  have ew3 : IntKind.i64.wrap 3 = 3 := by decide
  obtain ⟨ac, a0, a1, a2, a3, a4, a5, a6, a7⟩ := a
  obtain ⟨pc, p0, p1, p2, p3, p4, p5, p6, p7⟩ := p
  obtain ⟨rc, r0, r1, r2, r3, r4, r5, r6, r7⟩ := R
  simp only at K0 K1 K2 K3
  unfold swp
  go_enter Tryz.func34, Tryz.ntmps34
  go_wp2_with fail
  refine wp_loop_rounds 5 ?_; rw [rounds_succ]
  go_wp2_with fail
  go_region_held3 (fun w' => w'.cell? ⟨w.heap.size, 0, none⟩ = some (.complex .f32 a0 a1) ∧ w'.cell? ⟨w.heap.size, 1, none⟩ = some (.complex .f32 a2 a3) ∧ w'.cell? ⟨w.heap.size + 1, 0, none⟩ = some (.complex .f32 p0 p1) ∧ w'.cell? ⟨w.heap.size + 1, 1, none⟩ = some (.complex .f32 p4 p5)) (((repeat' apply And.intro) <;> (first | (with_reducible assumption) | (go_simp; done))))
    (first | (go_at_call 55; (with_reducible refine (K0.out _ (by repeat (with_reducible first | exact HA.out | apply At.alloc | apply At.drew | apply At.drewN | (apply At.setNew (hp := hne3))))).mono ?_); rintro e w' ⟨rfl, rfl⟩))
  all_goals (rename_i hh; clear hh)
  go_wp2_with fail
  rw [rounds_succ]
  go_wp2_with fail
  go_region_held3 (fun w' => w'.cell? ⟨w.heap.size, 2, none⟩ = some (.complex .f32 a4 a5) ∧ w'.cell? ⟨w.heap.size, 3, none⟩ = some (.complex .f32 a6 a7) ∧ w'.cell? ⟨w.heap.size + 1, 0, none⟩ = some (.complex .f32 p0 p1) ∧ w'.cell? ⟨w.heap.size + 1, 1, none⟩ = some (.complex .f32 p4 p5)) (((repeat' apply And.intro) <;> (first | (with_reducible assumption) | (go_simp; done))))
    (first | (go_at_call 55; (with_reducible refine (K2.out _ (by repeat (with_reducible first | exact HA.out | apply At.alloc | apply At.drew | apply At.drewN | (apply At.setNew (hp := hne3))))).mono ?_); rintro e w' ⟨rfl, rfl⟩))
  all_goals (rename_i hh; clear hh)
  go_wp2_with fail
  rw [rounds_succ]
  go_wp2_with fail
  go_region_held3 (fun w' => w'.cell? ⟨w.heap.size, 0, none⟩ = some (.complex .f32 a0 a1) ∧ w'.cell? ⟨w.heap.size, 1, none⟩ = some (.complex .f32 a2 a3) ∧ w'.cell? ⟨w.heap.size + 1, 2, none⟩ = some (.complex .f32 p2 p3) ∧ w'.cell? ⟨w.heap.size + 1, 3, none⟩ = some (.complex .f32 p6 p7)) (((repeat' apply And.intro) <;> (first | (with_reducible assumption) | (go_simp; done))))
    (first | (go_at_call 55; (with_reducible refine (K1.out _ (by repeat (with_reducible first | exact HA.out | apply At.alloc | apply At.drew | apply At.drewN | (apply At.setNew (hp := hne3))))).mono ?_); rintro e w' ⟨rfl, rfl⟩))
  all_goals (rename_i hh; clear hh)
  go_wp2_with fail
  rw [rounds_succ]
  go_wp2_with fail
  go_region_held3 (fun w' => w'.cell? ⟨w.heap.size, 2, none⟩ = some (.complex .f32 a4 a5) ∧ w'.cell? ⟨w.heap.size, 3, none⟩ = some (.complex .f32 a6 a7) ∧ w'.cell? ⟨w.heap.size + 1, 2, none⟩ = some (.complex .f32 p2 p3) ∧ w'.cell? ⟨w.heap.size + 1, 3, none⟩ = some (.complex .f32 p6 p7)) (((repeat' apply And.intro) <;> (first | (with_reducible assumption) | (go_simp; done))))
    (first | (go_at_call 55; (with_reducible refine (K3.out _ (by repeat (with_reducible first | exact HA.out | apply At.alloc | apply At.drew | apply At.drewN | (apply At.setNew (hp := hne3))))).mono ?_); rintro e w' ⟨rfl, rfl⟩))
  all_goals (rename_i hh; clear hh)
  go_wp2_with fail
  rw [rounds_succ]
  go_wp2_with fail
  refine bodyPost_ret (v := T4 r0 r1 r4 r5 r2 r3 r6 r7) (by simp [results, Tryz.results34, go_sem]) rfl ⟨rfl, ?_⟩
  have g0 : w.heap.size ≤ w.heap.size + 1 + 1 := by omega
  have g1 : w.heap.size ≤ w.heap.size + 1 + 1 + 1 := by omega
  repeat (with_reducible first | exact New.refl _ | apply New.drew | apply New.drewN | apply New.alloc | apply New.set (hp := g0) | apply New.set (hp := g1))
end Go.Proofs.YtmbjomjpnfnbkaaGreat

namespace Go.Proofs.YtmbjomjpnfnbkaaGreat
open Go.RowKit Flt

set_option maxHeartbeats 2000000 in
theorem turnOne0_c (a p R : C8) (k j : Int) (w : World) (ha : Lw8 k a) (hp : Lw8 j p) (h1 : -149 ≤ k + j) (h2 : k + j ≤ 126) (hT : TabOk a p R) :
    Calls Tryz.prog 13 #[a.val, p.val, .int .i64 0] w fun e w' => e = .returned (.tuple #[R.val, .int .i64 0]) ∧ New w w' := by
  have K1 := hid (fun w => isSpin_c 0 w (by simp))
  have K2 := hid (fun w => pairCode_c p a w ⟨hp.a0.FW, hp.a1.FW, hp.b0.FW, hp.b1.FW, hp.c0.FW, hp.c1.FW, hp.d0.FW, hp.d1.FW⟩ ⟨ha.a0.FW, ha.a1.FW, ha.b0.FW, ha.b1.FW, ha.c0.FW, ha.c1.FW, ha.d0.FW, ha.d1.FW⟩)
  have K3 := hid (fun b w hA => turnFirst_c b a p R k j w ha hp h1 h2 hT hA)
  clear ha hp h1 h2 hT
  generalize p = q at *
  generalize R = r at *
  have K4 := hid (fun b w hA => toldP_c b r w hA)
  obtain ⟨ac, a0, a1, a2, a3, a4, a5, a6, a7⟩ := a
  obtain ⟨qc, p0, p1, p2, p3, p4, p5, p6, p7⟩ := q
  obtain ⟨rc, r0, r1, r2, r3, r4, r5, r6, r7⟩ := r
  go_enter Tryz.func13, Tryz.ntmps13
  go_wp2_with fail
  go_region_held3 (fun w' => w'.cell? ⟨w.heap.size, 0, none⟩ = some (.complex .f32 a0 a1) ∧ w'.cell? ⟨w.heap.size, 1, none⟩ = some (.complex .f32 a2 a3) ∧ w'.cell? ⟨w.heap.size, 2, none⟩ = some (.complex .f32 a4 a5) ∧ w'.cell? ⟨w.heap.size, 3, none⟩ = some (.complex .f32 a6 a7) ∧ w'.cell? ⟨w.heap.size + 1, 0, none⟩ = some (.complex .f32 p0 p1) ∧ w'.cell? ⟨w.heap.size + 1, 1, none⟩ = some (.complex .f32 p2 p3) ∧ w'.cell? ⟨w.heap.size + 1, 2, none⟩ = some (.complex .f32 p4 p5) ∧ w'.cell? ⟨w.heap.size + 1, 3, none⟩ = some (.complex .f32 p6 p7)) (((repeat' apply And.intro) <;> (first | (with_reducible assumption) | (go_simp; done))))
    (first
      | (go_at_call 31; (with_reducible refine (K1.out _).mono ?_); rintro e w' ⟨rfl, rfl⟩)
      | (go_at_call 30; go_split_ands; (with_reducible refine (K2.out _).mono ?_); rintro e w1 ⟨rfl, hN⟩; have m0 := hN.cell_at (k := w.heap.size) (o := 0) (v := .complex .f32 a0 a1) (by with_reducible assumption); have n0 := cell_alloc m0; have m1 := hN.cell_at (k := w.heap.size) (o := 1) (v := .complex .f32 a2 a3) (by with_reducible assumption); have n1 := cell_alloc m1; have m2 := hN.cell_at (k := w.heap.size) (o := 2) (v := .complex .f32 a4 a5) (by with_reducible assumption); have n2 := cell_alloc m2; have m3 := hN.cell_at (k := w.heap.size) (o := 3) (v := .complex .f32 a6 a7) (by with_reducible assumption); have n3 := cell_alloc m3; have m4 := hN.cell_at (k := w.heap.size + 1) (o := 0) (v := .complex .f32 p0 p1) (by with_reducible assumption); have n4 := cell_alloc m4; have m5 := hN.cell_at (k := w.heap.size + 1) (o := 1) (v := .complex .f32 p2 p3) (by with_reducible assumption); have n5 := cell_alloc m5; have m6 := hN.cell_at (k := w.heap.size + 1) (o := 2) (v := .complex .f32 p4 p5) (by with_reducible assumption); have n6 := cell_alloc m6; have m7 := hN.cell_at (k := w.heap.size + 1) (o := 3) (v := .complex .f32 p6 p7) (by with_reducible assumption); have n7 := cell_alloc m7))
  all_goals (rename_i hh; clear hh)
  have hN0 := hid (((((New.refl w).alloc _).alloc _).alloc _).drew.trans hN)
  have y0 := hid (hN.cell_at (k := w.heap.size + 1 + 1) (o := 0) (v := .complex .f32 0 0) (by go_simp))
  have x0 := hid (hN.frozen_at (k := w.heap.size + 1 + 1) (o := 0) (by simp) (by go_simp))
  have y1 := hid (hN.cell_at (k := w.heap.size + 1 + 1) (o := 1) (v := .complex .f32 0 0) (by go_simp))
  have x1 := hid (hN.frozen_at (k := w.heap.size + 1 + 1) (o := 1) (by simp) (by go_simp))
  have y2 := hid (hN.cell_at (k := w.heap.size + 1 + 1) (o := 2) (v := .complex .f32 0 0) (by go_simp))
  have x2 := hid (hN.frozen_at (k := w.heap.size + 1 + 1) (o := 2) (by simp) (by go_simp))
  have y3 := hid (hN.cell_at (k := w.heap.size + 1 + 1) (o := 3) (v := .complex .f32 0 0) (by go_simp))
  have x3 := hid (hN.frozen_at (k := w.heap.size + 1 + 1) (o := 3) (by simp) (by go_simp))
  have hs1 := hN0.out.size
  have hs2 := hN.size
  simp at hs2
  clear hN
  go_wp2_with fail
  with_reducible refine (K3.out _ _ (At.new _ _ _)).mono ?_; rintro e w2 ⟨rfl, hN2⟩
  go_wp2_with fail
  with_reducible refine (K4.out _ _ (hN2.at_ (At.new _ _ _))).mono ?_; rintro e w3 ⟨rfl, hN3⟩
  have hNz := hN2.trans hN3
  have hsz := hNz.size
  simp at hsz
  have j0 := hNz.cell_at (cell_alloc y0.out _)
  have g0 := hNz.frozen_at (k := w.heap.size + 1 + 1) (o := 0) (by simp; omega) (frozen_alloc (by omega) x0.out _)
  have j1 := hNz.cell_at (cell_alloc y1.out _)
  have g1 := hNz.frozen_at (k := w.heap.size + 1 + 1) (o := 1) (by simp; omega) (frozen_alloc (by omega) x1.out _)
  have j2 := hNz.cell_at (cell_alloc y2.out _)
  have g2 := hNz.frozen_at (k := w.heap.size + 1 + 1) (o := 2) (by simp; omega) (frozen_alloc (by omega) x2.out _)
  have j3 := hNz.cell_at (cell_alloc y3.out _)
  have g3 := hNz.frozen_at (k := w.heap.size + 1 + 1) (o := 3) (by simp; omega) (frozen_alloc (by omega) x3.out _)
  go_wp2
  refine bodyPost_ret (v := .tuple #[T4 r0 r1 r2 r3 r4 r5 r6 r7, .int .i64 0]) (by simp [results, Tryz.results13, go_sem, j0, j1, j2, j3]) rfl ⟨rfl, ?_⟩
  exact New.set4 ((hN0.out.alloc _).trans hNz) (by omega) _ _ _ _

set_option maxHeartbeats 2000000 in
theorem turnOne1_c (a p R : C8) (k j : Int) (w : World) (ha : Lw8 k a) (hp : Lw8 j p) (h1 : -149 ≤ k + j) (h2 : k + j ≤ 126) (hT : TabOk a p R) :
    Calls Tryz.prog 13 #[a.val, (swp p).val, .int .i64 1] w fun e w' => e = .returned (.tuple #[(swp R).val, .int .i64 0]) ∧ New w w' := by
  have K1 := hid (fun w => isSpin_c 1 w (by simp))
  have K2 := hid (fun w => pairCode_c (swp p) a w ⟨hp.a0.FW, hp.a1.FW, hp.c0.FW, hp.c1.FW, hp.b0.FW, hp.b1.FW, hp.d0.FW, hp.d1.FW⟩ ⟨ha.a0.FW, ha.a1.FW, ha.b0.FW, ha.b1.FW, ha.c0.FW, ha.c1.FW, ha.d0.FW, ha.d1.FW⟩)
  have K3 := hid (fun b w hA => turnSecond_c b a p R k j w ha hp h1 h2 hT hA)
  clear ha hp h1 h2 hT
  generalize (swp p) = q at *
  generalize swp R = r at *
  have K4 := hid (fun b w hA => toldP_c b r w hA)
  obtain ⟨ac, a0, a1, a2, a3, a4, a5, a6, a7⟩ := a
  obtain ⟨qc, p0, p1, p2, p3, p4, p5, p6, p7⟩ := q
  obtain ⟨rc, r0, r1, r2, r3, r4, r5, r6, r7⟩ := r
  go_enter Tryz.func13, Tryz.ntmps13
  go_wp2_with fail
  go_region_held3 (fun w' => w'.cell? ⟨w.heap.size, 0, none⟩ = some (.complex .f32 a0 a1) ∧ w'.cell? ⟨w.heap.size, 1, none⟩ = some (.complex .f32 a2 a3) ∧ w'.cell? ⟨w.heap.size, 2, none⟩ = some (.complex .f32 a4 a5) ∧ w'.cell? ⟨w.heap.size, 3, none⟩ = some (.complex .f32 a6 a7) ∧ w'.cell? ⟨w.heap.size + 1, 0, none⟩ = some (.complex .f32 p0 p1) ∧ w'.cell? ⟨w.heap.size + 1, 1, none⟩ = some (.complex .f32 p2 p3) ∧ w'.cell? ⟨w.heap.size + 1, 2, none⟩ = some (.complex .f32 p4 p5) ∧ w'.cell? ⟨w.heap.size + 1, 3, none⟩ = some (.complex .f32 p6 p7)) (((repeat' apply And.intro) <;> (first | (with_reducible assumption) | (go_simp; done))))
    (first
      | (go_at_call 31; (with_reducible refine (K1.out _).mono ?_); rintro e w' ⟨rfl, rfl⟩)
      | (go_at_call 30; go_split_ands; (with_reducible refine (K2.out _).mono ?_); rintro e w1 ⟨rfl, hN⟩; have m0 := hN.cell_at (k := w.heap.size) (o := 0) (v := .complex .f32 a0 a1) (by with_reducible assumption); have n0 := cell_alloc m0; have m1 := hN.cell_at (k := w.heap.size) (o := 1) (v := .complex .f32 a2 a3) (by with_reducible assumption); have n1 := cell_alloc m1; have m2 := hN.cell_at (k := w.heap.size) (o := 2) (v := .complex .f32 a4 a5) (by with_reducible assumption); have n2 := cell_alloc m2; have m3 := hN.cell_at (k := w.heap.size) (o := 3) (v := .complex .f32 a6 a7) (by with_reducible assumption); have n3 := cell_alloc m3; have m4 := hN.cell_at (k := w.heap.size + 1) (o := 0) (v := .complex .f32 p0 p1) (by with_reducible assumption); have n4 := cell_alloc m4; have m5 := hN.cell_at (k := w.heap.size + 1) (o := 1) (v := .complex .f32 p2 p3) (by with_reducible assumption); have n5 := cell_alloc m5; have m6 := hN.cell_at (k := w.heap.size + 1) (o := 2) (v := .complex .f32 p4 p5) (by with_reducible assumption); have n6 := cell_alloc m6; have m7 := hN.cell_at (k := w.heap.size + 1) (o := 3) (v := .complex .f32 p6 p7) (by with_reducible assumption); have n7 := cell_alloc m7))
  all_goals (rename_i hh; clear hh)
  have hN0 := hid (((((New.refl w).alloc _).alloc _).alloc _).drew.trans hN)
  have y0 := hid (hN.cell_at (k := w.heap.size + 1 + 1) (o := 0) (v := .complex .f32 0 0) (by go_simp))
  have x0 := hid (hN.frozen_at (k := w.heap.size + 1 + 1) (o := 0) (by simp) (by go_simp))
  have y1 := hid (hN.cell_at (k := w.heap.size + 1 + 1) (o := 1) (v := .complex .f32 0 0) (by go_simp))
  have x1 := hid (hN.frozen_at (k := w.heap.size + 1 + 1) (o := 1) (by simp) (by go_simp))
  have y2 := hid (hN.cell_at (k := w.heap.size + 1 + 1) (o := 2) (v := .complex .f32 0 0) (by go_simp))
  have x2 := hid (hN.frozen_at (k := w.heap.size + 1 + 1) (o := 2) (by simp) (by go_simp))
  have y3 := hid (hN.cell_at (k := w.heap.size + 1 + 1) (o := 3) (v := .complex .f32 0 0) (by go_simp))
  have x3 := hid (hN.frozen_at (k := w.heap.size + 1 + 1) (o := 3) (by simp) (by go_simp))
  have hs1 := hN0.out.size
  have hs2 := hN.size
  simp at hs2
  clear hN
  go_wp2_with fail
  with_reducible refine (K3.out _ _ (At.new _ _ _)).mono ?_; rintro e w2 ⟨rfl, hN2⟩
  go_wp2_with fail
  with_reducible refine (K4.out _ _ (hN2.at_ (At.new _ _ _))).mono ?_; rintro e w3 ⟨rfl, hN3⟩
  have hNz := hN2.trans hN3
  have hsz := hNz.size
  simp at hsz
  have j0 := hNz.cell_at (cell_alloc y0.out _)
  have g0 := hNz.frozen_at (k := w.heap.size + 1 + 1) (o := 0) (by simp; omega) (frozen_alloc (by omega) x0.out _)
  have j1 := hNz.cell_at (cell_alloc y1.out _)
  have g1 := hNz.frozen_at (k := w.heap.size + 1 + 1) (o := 1) (by simp; omega) (frozen_alloc (by omega) x1.out _)
  have j2 := hNz.cell_at (cell_alloc y2.out _)
  have g2 := hNz.frozen_at (k := w.heap.size + 1 + 1) (o := 2) (by simp; omega) (frozen_alloc (by omega) x2.out _)
  have j3 := hNz.cell_at (cell_alloc y3.out _)
  have g3 := hNz.frozen_at (k := w.heap.size + 1 + 1) (o := 3) (by simp; omega) (frozen_alloc (by omega) x3.out _)
  go_wp2
  refine bodyPost_ret (v := .tuple #[T4 r0 r1 r2 r3 r4 r5 r6 r7, .int .i64 0]) (by simp [results, Tryz.results13, go_sem, j0, j1, j2, j3]) rfl ⟨rfl, ?_⟩
  exact New.set4 ((hN0.out.alloc _).trans hNz) (by omega) _ _ _ _
end Go.Proofs.YtmbjomjpnfnbkaaGreat
