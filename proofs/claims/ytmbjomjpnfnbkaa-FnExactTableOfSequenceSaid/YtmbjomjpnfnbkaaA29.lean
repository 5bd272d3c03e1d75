/-
  Walks of the program's TableOfSequence.
-/
import Derived.Test.YtmbjomjpnfnbkaaA28
import Derived.Test.YtmbjomjpnfnbkaaA8
import Derived.Test.YtmbjomjpnfnbkaaD23
set_option linter.unusedSimpArgs false
set_option linter.unusedVariables false
namespace Go.Proofs.Ytmbjomjpnfnbkaa
open Go.RowKit Flt

set_option maxHeartbeats 1000000 in
theorem table_c (b g cap : Nat) (ps : List PuI) (w : World) (hP : PuHeld w g ps) (hs : seqB ps = true) (hg : g ≠ b) (hA : At b 0 w) :
    Calls Try.prog 104 #[.pointer (some ⟨b, 0, none⟩), .slice (some ⟨g, 0, none⟩) ps.length cap] w fun e w' => e = .returned (nz (tabL (ps.map PuI.n) unitS)).val ∧ Ext b 0 w w' := by
  have hlt := hA.lt
  have hne : w.heap.size ≠ b := by omega
  have HP := hid hP
  have K := hid (fun w hP hA => tables_c b g cap ps w hP hs hg hA)
  have HG := hid hg
  clear hP hs hg
  generalize nz (tabL (ps.map PuI.n) unitS) = R at *
  generalize hn : ps.length = n at *
  clear hn
  go_enter Try.func104, Try.ntmps104
  go_wp2_with fail
  have hE0 := (Ext.refl hA).alloc (.cells #[.complex .f32 0 0, .complex .f32 0 0, .complex .f32 0 0, .complex .f32 0 0] 26)
  refine (K.out _ (HP.out.ext hE0 HG.out) (hA.alloc _)).mono ?_; rintro e w1 ⟨u, ys, rfl, hy, hO, hE⟩
  obtain ⟨gr, cr, rfl⟩ : ∃ gr cr, u = .slice (some ⟨gr, 0, none⟩) (n + 1) cr := by
    rcases own_forms hO with ⟨_, h⟩ | h
    · omega
    · exact h
  obtain ⟨r0, r1, r2, r3⟩ := own_last hO hy rfl
  have hgr := (hO.lt gr rfl).1
  simp at hgr
  have j0 := hE.cell_at (k := w.heap.size) (o := 0) (v := .complex .f32 0 0) (by go_simp) hne
  have j1 := hE.cell_at (k := w.heap.size) (o := 1) (v := .complex .f32 0 0) (by go_simp) hne
  have j2 := hE.cell_at (k := w.heap.size) (o := 2) (v := .complex .f32 0 0) (by go_simp) hne
  have j3 := hE.cell_at (k := w.heap.size) (o := 3) (v := .complex .f32 0 0) (by go_simp) hne
  have z0 := hE.frozen_at (k := w.heap.size) (o := 0) (by simp) (by go_simp) hne
  have z1 := hE.frozen_at (k := w.heap.size) (o := 1) (by simp) (by go_simp) hne
  have z2 := hE.frozen_at (k := w.heap.size) (o := 2) (by simp) (by go_simp) hne
  have z3 := hE.frozen_at (k := w.heap.size) (o := 3) (by simp) (by go_simp) hne
  have hki : (n : Int) < (n : Int) + 1 := by omega
  clear hO hy
  go_wp2
  refine bodyPost_ret (v := R.val) (by simp [results, Try.results104, go_sem, j0, j1, j2, j3]) rfl ⟨rfl, ?_⟩
  exact Ext.set4 (hE0.trans hE) (Nat.le_refl _) hne _ _ _ _

set_option maxHeartbeats 1000000 in
theorem tableOfSequence_c (g cap : Nat) (ps : List PuI) (w : World) (hP : PuHeld w g ps) (hl : ps.length ≤ 1048576) (hg : g < w.heap.size) :
    Calls Try.prog 51 #[.slice (some ⟨g, 0, none⟩) ps.length cap] w fun e w' => e = .returned (nz (tabQ ps)).told ∧ New w w' := by
  have HP := hid hP
  clear hP
  have KS := hid (fun w hP => isSequence_c g cap ps w (by omega) hP)
  have hN0 := hid ((New.refl w).alloc (.cells #[.complex .f32 0 0, .complex .f32 0 0, .complex .f32 0 0, .complex .f32 0 0] 26))
  cases hs : seqB ps with
  | false =>
    rw [tabQ_bad hs, nz_bad]
    have HS := hid hs
    clear hs
    go_enter Try.func51, Try.ntmps51
    go_wp2_with fail
    refine (KS.out _ (HP.out.new hN0.out)).mono ?_; rintro e w1 ⟨rfl, hN⟩; rw [HS.out]
    obtain ⟨l1, l2, l3⟩ := hN.laws
    go_wp2
    refine bodyPost_ret (v := .tuple #[T4 0 0 0 0 0 0 0 0, .int .i64 1]) (by simp [results, Try.results51, go_sem, l1, l2, l3]) rfl ⟨rfl, ?_⟩
    exact New.set4 (hN0.out.trans hN) (Nat.le_refl _) _ _ _ _
  | true =>
    rw [tabQ_good hs]
    have K := hid (fun b w hP hg hA => table_c b g cap ps w hP hs hg hA)
    have hc := hid (show (nz (tabL (ps.map PuI.n) unitS)).c = 0 from tabL_c (ps.map PuI.n) unitS rfl)
    have HS := hid hs
    clear hs
    generalize nz (tabL (ps.map PuI.n) unitS) = R at *
    obtain ⟨c, a0, a1, b0, b1, c0, c1, d0, d1⟩ := R
    have hc0 : c = 0 := hc.out
    subst hc0
    have T := hid (fun b w hA => toldT_c b ⟨0, a0, a1, b0, b1, c0, c1, d0, d1⟩ w hA)
    have eT : toldC (⟨0, a0, a1, b0, b1, c0, c1, d0, d1⟩ : C8) = ⟨0, a0, a1, b0, b1, c0, c1, d0, d1⟩ := if_pos rfl
    rw [eT] at T
    clear eT
    go_enter Try.func51, Try.ntmps51
    go_wp2_with fail
    refine (KS.out _ (HP.out.new hN0.out)).mono ?_; rintro e w1 ⟨rfl, hN⟩; rw [HS.out]
    have hs1 := hN.size
    simp at hs1
    obtain ⟨l1, l2, l3⟩ := hN.laws
    have i0 := hid (hN.cell_at (k := w.heap.size) (o := 0) (v := .complex .f32 0 0) (by go_simp))
    have i1 := hid (hN.cell_at (k := w.heap.size) (o := 1) (v := .complex .f32 0 0) (by go_simp))
    have i2 := hid (hN.cell_at (k := w.heap.size) (o := 2) (v := .complex .f32 0 0) (by go_simp))
    have i3 := hid (hN.cell_at (k := w.heap.size) (o := 3) (v := .complex .f32 0 0) (by go_simp))
    have f0 := hid (hN.frozen_at (k := w.heap.size) (o := 0) (by simp) (by go_simp))
    have f1 := hid (hN.frozen_at (k := w.heap.size) (o := 1) (by simp) (by go_simp))
    have f2 := hid (hN.frozen_at (k := w.heap.size) (o := 2) (by simp) (by go_simp))
    have f3 := hid (hN.frozen_at (k := w.heap.size) (o := 3) (by simp) (by go_simp))
    clear l1 l2 l3
    go_wp2_with fail
    refine (K.out w1.heap.size _ (HP.out.new ((hN0.out.trans hN).alloc _)) (by omega) (At.new _ _ _)).mono ?_; rintro e w2 ⟨rfl, hE⟩
    have hs2 := hE.size
    simp at hs2
    have j0 := hE.cell_at (cell_alloc i0.out _) (by omega)
    have j1 := hE.cell_at (cell_alloc i1.out _) (by omega)
    have j2 := hE.cell_at (cell_alloc i2.out _) (by omega)
    have j3 := hE.cell_at (cell_alloc i3.out _) (by omega)
    have g0 := hE.frozen_at (k := w.heap.size) (o := 0) (by simp; omega) (frozen_alloc (by omega) f0.out _) (by omega)
    have g1 := hE.frozen_at (k := w.heap.size) (o := 1) (by simp; omega) (frozen_alloc (by omega) f1.out _) (by omega)
    have g2 := hE.frozen_at (k := w.heap.size) (o := 2) (by simp; omega) (frozen_alloc (by omega) f2.out _) (by omega)
    have g3 := hE.frozen_at (k := w.heap.size) (o := 3) (by simp; omega) (frozen_alloc (by omega) f3.out _) (by omega)
    go_wp2_with fail
    refine (T.out w1.heap.size _ hE.at_).mono ?_; rintro e w3 ⟨rfl, hN3⟩
    have j0' := hN3.cell_at j0
    have j1' := hN3.cell_at j1
    have j2' := hN3.cell_at j2
    have j3' := hN3.cell_at j3
    have g0' := hN3.frozen_at (k := w.heap.size) (o := 0) (by omega) g0
    have g1' := hN3.frozen_at (k := w.heap.size) (o := 1) (by omega) g1
    have g2' := hN3.frozen_at (k := w.heap.size) (o := 2) (by omega) g2
    have g3' := hN3.frozen_at (k := w.heap.size) (o := 3) (by omega) g3
    go_wp2
    refine bodyPost_ret (v := .tuple #[T4 a0 a1 b0 b1 c0 c1 d0 d1, .int .i64 0]) (by simp [results, Try.results51, go_sem, j0', j1', j2', j3']) rfl ⟨rfl, ?_⟩
    exact New.set4 (((hN0.out.trans hN).ext hE (by omega)).trans hN3) (Nat.le_refl _) _ _ _ _
end Go.Proofs.Ytmbjomjpnfnbkaa
