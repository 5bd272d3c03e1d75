/-
  Walks of the program's tables of pulses.
-/
import Derived.Test.YtmbjomjpnfnbkaaGreatA24
set_option linter.unusedSimpArgs false
set_option linter.unusedVariables false
namespace Go.Proofs.YtmbjomjpnfnbkaaGreat
open Go.RowKit Flt

set_option maxHeartbeats 2000000 in
theorem halvedTurn_c (b a k : Nat) (w : World) (ha : a ≤ 2) (hk : k ≤ 24) (hA : At b 0 w) :
    Calls Tryz.prog 80 #[.pointer (some ⟨b, 0, none⟩), .int .i64 a, .int .i64 k] w fun e w' => e = .returned (nz (aboutS a (hC k) (hS k))).val ∧ Ext b 0 w w' := by
  have fc := hC_lw hk
  have fs := hS_lw hk
  have f0 : Lw 0 0 := .zero 0
  have KH := hid (fun w hA => halved_c b k w hk hA)
  have hlt := hA.lt
  have h3 : a = 0 ∨ a = 1 ∨ a = 2 := by omega
  rcases h3 with rfl | rfl | rfl
  · show Calls Tryz.prog 80 #[.pointer (some ⟨b, 0, none⟩), .int .i64 0, .int .i64 k] w fun e w' => e = .returned (nz (tabS (hC k) (hS k) 0 0)).val ∧ Ext b 0 w w'
    have KP := hid (fun w hA => ofParts_c b 0 (hC k) (hS k) 0 0 w fc.FW fs.FW f0.FW f0.FW hA)
    have EP := hid (ofParts_zn fc fs f0 f0)
    rw [EP.out] at KP
    have hT := hid (show (nz (tabS (hC k) (hS k) 0 0)).c = 0 from rfl)
    generalize nz (tabS (hC k) (hS k) 0 0) = t at *
    rw [hT.out] at KP
    clear fc fs f0 EP ha hk hT
    generalize hC k = c at *
    generalize hS k = s at *
    have hne : w.heap.size ≠ b := by omega
    go_enter Tryz.func80, Tryz.ntmps80
    go_wp2_with fail
    with_reducible refine (KH.out _ (by repeat (with_reducible first | exact hA | apply At.set | apply At.alloc | apply At.drew | apply At.drewN))).mono ?_; rintro e w' ⟨rfl, rfl⟩
    go_wp2_with fail
    with_reducible refine (KP.out _ (by repeat (with_reducible first | exact hA | apply At.set | apply At.alloc | apply At.drew | apply At.drewN))).mono ?_; rintro e x1 ⟨rfl, hE⟩
    have r0 := hE.cell_at (k := w.heap.size) (o := 0) (v := .complex .f32 0 0) (by go_simp) hne
    have r1 := hE.cell_at (k := w.heap.size) (o := 1) (v := .complex .f32 0 0) (by go_simp) hne
    have r2 := hE.cell_at (k := w.heap.size) (o := 2) (v := .complex .f32 0 0) (by go_simp) hne
    have r3 := hE.cell_at (k := w.heap.size) (o := 3) (v := .complex .f32 0 0) (by go_simp) hne
    have q0 := hE.frozen_at (k := w.heap.size) (o := 0) (by simp; omega) (by go_simp) hne
    have q1 := hE.frozen_at (k := w.heap.size) (o := 1) (by simp; omega) (by go_simp) hne
    have q2 := hE.frozen_at (k := w.heap.size) (o := 2) (by simp; omega) (by go_simp) hne
    have q3 := hE.frozen_at (k := w.heap.size) (o := 3) (by simp; omega) (by go_simp) hne
    go_wp2
    refine bodyPost_ret (v := t.val) (by simp [results, Tryz.results80, go_sem, r0, r1, r2, r3]) rfl ⟨rfl, ?_⟩
    refine Ext.setNew (p := ⟨w.heap.size, 3, none⟩) ?_ (Nat.le_refl _) hne _
    refine Ext.setNew (p := ⟨w.heap.size, 2, none⟩) ?_ (Nat.le_refl _) hne _
    refine Ext.setNew (p := ⟨w.heap.size, 1, none⟩) ?_ (Nat.le_refl _) hne _
    refine Ext.setNew (p := ⟨w.heap.size, 0, none⟩) ?_ (Nat.le_refl _) hne _
    exact (((Ext.refl hA).alloc _).alloc _).trans hE
  · show Calls Tryz.prog 80 #[.pointer (some ⟨b, 0, none⟩), .int .i64 1, .int .i64 k] w fun e w' => e = .returned (nz (tabS (hC k) 0 (hS k) 0)).val ∧ Ext b 0 w w'
    have KP := hid (fun w hA => ofParts_c b 0 (hC k) 0 (hS k) 0 w fc.FW f0.FW fs.FW f0.FW hA)
    have EP := hid (ofParts_zn fc f0 fs f0)
    rw [EP.out] at KP
    have hT := hid (show (nz (tabS (hC k) 0 (hS k) 0)).c = 0 from rfl)
    generalize nz (tabS (hC k) 0 (hS k) 0) = t at *
    rw [hT.out] at KP
    clear fc fs f0 EP ha hk hT
    generalize hC k = c at *
    generalize hS k = s at *
    have hne : w.heap.size ≠ b := by omega
    go_enter Tryz.func80, Tryz.ntmps80
    go_wp2_with fail
    with_reducible refine (KH.out _ (by repeat (with_reducible first | exact hA | apply At.set | apply At.alloc | apply At.drew | apply At.drewN))).mono ?_; rintro e w' ⟨rfl, rfl⟩
    go_wp2_with fail
    with_reducible refine (KP.out _ (by repeat (with_reducible first | exact hA | apply At.set | apply At.alloc | apply At.drew | apply At.drewN))).mono ?_; rintro e x1 ⟨rfl, hE⟩
    have r0 := hE.cell_at (k := w.heap.size) (o := 0) (v := .complex .f32 0 0) (by go_simp) hne
    have r1 := hE.cell_at (k := w.heap.size) (o := 1) (v := .complex .f32 0 0) (by go_simp) hne
    have r2 := hE.cell_at (k := w.heap.size) (o := 2) (v := .complex .f32 0 0) (by go_simp) hne
    have r3 := hE.cell_at (k := w.heap.size) (o := 3) (v := .complex .f32 0 0) (by go_simp) hne
    have q0 := hE.frozen_at (k := w.heap.size) (o := 0) (by simp; omega) (by go_simp) hne
    have q1 := hE.frozen_at (k := w.heap.size) (o := 1) (by simp; omega) (by go_simp) hne
    have q2 := hE.frozen_at (k := w.heap.size) (o := 2) (by simp; omega) (by go_simp) hne
    have q3 := hE.frozen_at (k := w.heap.size) (o := 3) (by simp; omega) (by go_simp) hne
    go_wp2
    refine bodyPost_ret (v := t.val) (by simp [results, Tryz.results80, go_sem, r0, r1, r2, r3]) rfl ⟨rfl, ?_⟩
    refine Ext.setNew (p := ⟨w.heap.size, 3, none⟩) ?_ (Nat.le_refl _) hne _
    refine Ext.setNew (p := ⟨w.heap.size, 2, none⟩) ?_ (Nat.le_refl _) hne _
    refine Ext.setNew (p := ⟨w.heap.size, 1, none⟩) ?_ (Nat.le_refl _) hne _
    refine Ext.setNew (p := ⟨w.heap.size, 0, none⟩) ?_ (Nat.le_refl _) hne _
    exact (((Ext.refl hA).alloc _).alloc _).trans hE
  · show Calls Tryz.prog 80 #[.pointer (some ⟨b, 0, none⟩), .int .i64 2, .int .i64 k] w fun e w' => e = .returned (nz (tabS (hC k) 0 0 (hS k))).val ∧ Ext b 0 w w'
    have KP := hid (fun w hA => ofParts_c b 0 (hC k) 0 0 (hS k) w fc.FW f0.FW f0.FW fs.FW hA)
    have EP := hid (ofParts_zn fc f0 f0 fs)
    rw [EP.out] at KP
    have hT := hid (show (nz (tabS (hC k) 0 0 (hS k))).c = 0 from rfl)
    generalize nz (tabS (hC k) 0 0 (hS k)) = t at *
    rw [hT.out] at KP
    clear fc fs f0 EP ha hk hT
    generalize hC k = c at *
    generalize hS k = s at *
    have hne : w.heap.size ≠ b := by omega
    go_enter Tryz.func80, Tryz.ntmps80
    go_wp2_with fail
    with_reducible refine (KH.out _ (by repeat (with_reducible first | exact hA | apply At.set | apply At.alloc | apply At.drew | apply At.drewN))).mono ?_; rintro e w' ⟨rfl, rfl⟩
    go_wp2_with fail
    with_reducible refine (KP.out _ (by repeat (with_reducible first | exact hA | apply At.set | apply At.alloc | apply At.drew | apply At.drewN))).mono ?_; rintro e x1 ⟨rfl, hE⟩
    have r0 := hE.cell_at (k := w.heap.size) (o := 0) (v := .complex .f32 0 0) (by go_simp) hne
    have r1 := hE.cell_at (k := w.heap.size) (o := 1) (v := .complex .f32 0 0) (by go_simp) hne
    have r2 := hE.cell_at (k := w.heap.size) (o := 2) (v := .complex .f32 0 0) (by go_simp) hne
    have r3 := hE.cell_at (k := w.heap.size) (o := 3) (v := .complex .f32 0 0) (by go_simp) hne
    have q0 := hE.frozen_at (k := w.heap.size) (o := 0) (by simp; omega) (by go_simp) hne
    have q1 := hE.frozen_at (k := w.heap.size) (o := 1) (by simp; omega) (by go_simp) hne
    have q2 := hE.frozen_at (k := w.heap.size) (o := 2) (by simp; omega) (by go_simp) hne
    have q3 := hE.frozen_at (k := w.heap.size) (o := 3) (by simp; omega) (by go_simp) hne
    go_wp2
    refine bodyPost_ret (v := t.val) (by simp [results, Tryz.results80, go_sem, r0, r1, r2, r3]) rfl ⟨rfl, ?_⟩
    refine Ext.setNew (p := ⟨w.heap.size, 3, none⟩) ?_ (Nat.le_refl _) hne _
    refine Ext.setNew (p := ⟨w.heap.size, 2, none⟩) ?_ (Nat.le_refl _) hne _
    refine Ext.setNew (p := ⟨w.heap.size, 1, none⟩) ?_ (Nat.le_refl _) hne _
    refine Ext.setNew (p := ⟨w.heap.size, 0, none⟩) ?_ (Nat.le_refl _) hne _
    exact (((Ext.refl hA).alloc _).alloc _).trans hE
end Go.Proofs.YtmbjomjpnfnbkaaGreat
