/-
  Walk of the program's table of a pulse.
-/
import Derived.Test.YtmbjomjpnfnbkaaGreatA25
set_option linter.unusedSimpArgs false
set_option linter.unusedVariables false
namespace Go.Proofs.YtmbjomjpnfnbkaaGreat
open Go.RowKit Flt

theorem nz_fw {t : C8} (h : Fw8 t) : Fw8 (nz t) :=
  ⟨⟨zn_lt h.a0.1, zn_fin h.a0.2⟩, ⟨zn_lt h.a1.1, zn_fin h.a1.2⟩, ⟨zn_lt h.b0.1, zn_fin h.b0.2⟩, ⟨zn_lt h.b1.1, zn_fin h.b1.2⟩, ⟨zn_lt h.c0.1, zn_fin h.c0.2⟩, ⟨zn_lt h.c1.1, zn_fin h.c1.2⟩, ⟨zn_lt h.d0.1, zn_fin h.d0.2⟩, ⟨zn_lt h.d1.1, zn_fin h.d1.2⟩⟩
theorem nz_adj_nz {t : C8} (h : Fw8 t) : nz (adjS (nz t)) = nz (adjS t) := by
  unfold nz adjS
  simp only [zn_ng_zn h.a1, zn_ng_zn h.b1, zn_ng_zn h.c1, zn_ng_zn h.d1, zn_zn]

theorem Ext.set4 {b : Nat} {c : Int} {w w' : World} (h : Ext b c w w') {g : Nat} (hg : w.heap.size ≤ g) (hb : g ≠ b) (v0 v1 v2 v3 : Value) : Ext b c w ((((w'.setCell ⟨g, 0, none⟩ v0).setCell ⟨g, 1, none⟩ v1).setCell ⟨g, 2, none⟩ v2).setCell ⟨g, 3, none⟩ v3) :=
  Ext.setNew (p := ⟨g, 3, none⟩) (Ext.setNew (p := ⟨g, 2, none⟩) (Ext.setNew (p := ⟨g, 1, none⟩) (Ext.setNew (p := ⟨g, 0, none⟩) h hg hb _) hg hb _) hg hb _) hg hb _
set_option maxHeartbeats 2000000 in
theorem tableOf_c (b : Nat) (p : PuN) (w : World) (hp : p.ok) (hA : At b 0 w) :
    Calls Tryz.prog 61 #[.pointer (some ⟨b, 0, none⟩), p.val] w fun e w' => e = .returned (nz (pulS p)).val ∧ Ext b 0 w w' := by
  obtain ⟨a, k, bk⟩ := p
  have KH := hid (fun w hA => halvedTurn_c b a k w hp.1 hp.2 hA)
  have hF := (about_lw (a := a) (hC_lw hp.2) (hS_lw hp.2)).fw
  have hlt := hA.lt
  have hne : w.heap.size ≠ b := by omega
  have hne1 : w.heap.size + 1 ≠ b := by omega
  cases bk with
  | false =>
    show Calls Tryz.prog 61 #[.pointer (some ⟨b, 0, none⟩), .agg #[.int .i64 a, .int .i64 k, .bool false]] w fun e w' => e = .returned (nz (aboutS a (hC k) (hS k))).val ∧ Ext b 0 w w'
    generalize nz (aboutS a (hC k) (hS k)) = t at *
    clear hp hF
    go_enter Tryz.func61, Tryz.ntmps61
    go_wp2_with fail
    with_reducible refine (KH.out _ (by repeat (with_reducible first | exact hA | apply At.set | apply At.alloc | apply At.drew | apply At.drewN))).mono ?_; rintro e x1 ⟨rfl, hE⟩
    have hs1 := hE.size
    simp at hs1
    have na1 : w.heap.size ≠ x1.heap.size := by omega
    have na2 : w.heap.size + 1 ≠ x1.heap.size := by omega
    have nl1 : w.heap.size < x1.heap.size := by omega
    have nl2 : w.heap.size + 1 < x1.heap.size := by omega
    have p2 := hE.cell_at (k := w.heap.size) (o := 2) (v := .bool false) (by go_simp) hne
    have r0 := hE.cell_at (k := w.heap.size + 1) (o := 0) (v := .complex .f32 0 0) (by go_simp) hne1
    have r1 := hE.cell_at (k := w.heap.size + 1) (o := 1) (v := .complex .f32 0 0) (by go_simp) hne1
    have r2 := hE.cell_at (k := w.heap.size + 1) (o := 2) (v := .complex .f32 0 0) (by go_simp) hne1
    have r3 := hE.cell_at (k := w.heap.size + 1) (o := 3) (v := .complex .f32 0 0) (by go_simp) hne1
    have q0 := hE.frozen_at (k := w.heap.size + 1) (o := 0) (by simp) (by go_simp) hne1
    have q1 := hE.frozen_at (k := w.heap.size + 1) (o := 1) (by simp) (by go_simp) hne1
    have q2 := hE.frozen_at (k := w.heap.size + 1) (o := 2) (by simp) (by go_simp) hne1
    have q3 := hE.frozen_at (k := w.heap.size + 1) (o := 3) (by simp) (by go_simp) hne1
    go_wp2
    refine bodyPost_ret (v := t.val) (by simp [results, Tryz.results61, go_sem, r0, r1, r2, r3, na1, na2, nl1, nl2]) rfl ⟨rfl, ?_⟩
    exact (Ext.set4 ((((Ext.refl hA).alloc _).alloc _).trans hE) (Nat.le_succ _) hne1 _ _ _ _).alloc _
  | true =>
    have eq := nz_adj_nz hF
    have hF2 := nz_fw hF
    show Calls Tryz.prog 61 #[.pointer (some ⟨b, 0, none⟩), .agg #[.int .i64 a, .int .i64 k, .bool true]] w fun e w' => e = .returned (nz (adjS (aboutS a (hC k) (hS k)))).val ∧ Ext b 0 w w'
    rw [← eq]
    clear eq
    generalize nz (aboutS a (hC k) (hS k)) = t at *
    have KA := hid (fun w hA => adjoint_c b t w hF2 hA)
    generalize nz (adjS t) = r at *
    clear hp hF hF2
    go_enter Tryz.func61, Tryz.ntmps61
    go_wp2_with fail
    with_reducible refine (KH.out _ (by repeat (with_reducible first | exact hA | apply At.set | apply At.alloc | apply At.drew | apply At.drewN))).mono ?_; rintro e x1 ⟨rfl, hE⟩
    have hs1 := hE.size
    simp at hs1
    have na1 : w.heap.size ≠ x1.heap.size := by omega
    have na2 : w.heap.size + 1 ≠ x1.heap.size := by omega
    have nl1 : w.heap.size < x1.heap.size := by omega
    have nl2 : w.heap.size + 1 < x1.heap.size := by omega
    have p2 := hE.cell_at (k := w.heap.size) (o := 2) (v := .bool true) (by go_simp) hne
    have r0 := hE.cell_at (k := w.heap.size + 1) (o := 0) (v := .complex .f32 0 0) (by go_simp) hne1
    have r1 := hE.cell_at (k := w.heap.size + 1) (o := 1) (v := .complex .f32 0 0) (by go_simp) hne1
    have r2 := hE.cell_at (k := w.heap.size + 1) (o := 2) (v := .complex .f32 0 0) (by go_simp) hne1
    have r3 := hE.cell_at (k := w.heap.size + 1) (o := 3) (v := .complex .f32 0 0) (by go_simp) hne1
    have q0 := hE.frozen_at (k := w.heap.size + 1) (o := 0) (by simp) (by go_simp) hne1
    have q1 := hE.frozen_at (k := w.heap.size + 1) (o := 1) (by simp) (by go_simp) hne1
    have q2 := hE.frozen_at (k := w.heap.size + 1) (o := 2) (by simp) (by go_simp) hne1
    have q3 := hE.frozen_at (k := w.heap.size + 1) (o := 3) (by simp) (by go_simp) hne1
    go_wp2_with fail
    with_reducible refine (KA.out _ (hE.at_.alloc _)).mono ?_; rintro e x2 ⟨rfl, hN⟩
    have hx1 : w.heap.size + 1 < (x1.alloc (.cells #[.complex .f32 t.a0 t.a1, .complex .f32 t.b0 t.b1, .complex .f32 t.c0 t.c1, .complex .f32 t.d0 t.d1] 29)).heap.size := by simp; omega
    have j0 := hN.cell_at (cell_alloc r0 _)
    have j1 := hN.cell_at (cell_alloc r1 _)
    have j2 := hN.cell_at (cell_alloc r2 _)
    have j3 := hN.cell_at (cell_alloc r3 _)
    have z0 := hN.frozen_at (k := w.heap.size + 1) (o := 0) hx1 (frozen_alloc nl2 q0 _)
    have z1 := hN.frozen_at (k := w.heap.size + 1) (o := 1) hx1 (frozen_alloc nl2 q1 _)
    have z2 := hN.frozen_at (k := w.heap.size + 1) (o := 2) hx1 (frozen_alloc nl2 q2 _)
    have z3 := hN.frozen_at (k := w.heap.size + 1) (o := 3) hx1 (frozen_alloc nl2 q3 _)
    clear r0 r1 r2 r3 q0 q1 q2 q3 hx1
    go_wp2
    refine bodyPost_ret (v := r.val) (by simp [results, Tryz.results61, go_sem, j0, j1, j2, j3]) rfl ⟨rfl, ?_⟩
    exact Ext.set4 (((((Ext.refl hA).alloc _).alloc _).trans hE).alloc _ |>.new hN) (Nat.le_succ _) hne1 _ _ _ _
end Go.Proofs.YtmbjomjpnfnbkaaGreat
