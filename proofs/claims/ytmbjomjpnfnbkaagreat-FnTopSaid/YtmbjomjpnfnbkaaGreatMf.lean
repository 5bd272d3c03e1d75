/-
  Walks of adjoints and of tables around others.
-/
import Derived.Test.YtmbjomjpnfnbkaaGreatMd
import Derived.Test.YtmbjomjpnfnbkaaGreatP2
import Derived.Test.YtmbjomjpnfnbkaaGreatP3
set_option linter.unusedSimpArgs false
set_option linter.unusedVariables false
namespace Go.Proofs.YtmbjomjpnfnbkaaGreat
open Go.RowKit Flt

theorem isTable_c (t : C8) (w : World) (ht : Fw8 t) :
    Calls Tryz.prog 24 #[t.val] w fun e w' => e = .returned (.bool true) ∧ New w w' := by
  have h1 : [(t.a0, t.a1), (t.b0, t.b1)].all finC = true := by simp [finC, ht.a0.2, ht.a1.2, ht.b0.2, ht.b1.2]
  have h2 : [(t.c0, t.c1), (t.d0, t.d1)].all finC = true := by simp [finC, ht.c0.2, ht.c1.2, ht.d0.2, ht.d1.2]
  have H1 := hid h1
  have H2 := hid h2
  clear h1 h2 ht
  obtain ⟨tc, a0, a1, b0, b1, c0, c1, d0, d1⟩ := t
  simp only at H1 H2
  go_enter Tryz.func24, Tryz.ntmps24
  go_wp2_with fail
  refine (areCx_c w.heap.size 0 [(a0, a1), (b0, b1)] 2 _ (by simp) (fun j hj => ?_)).mono ?_
  · have : j = 0 ∨ j = 1 := by simp at hj; omega
    rcases this with rfl | rfl <;> go_simp
  rintro e w1 ⟨rfl, hN⟩
  rw [H1.out]
  have e2 := hN.cell_at (k := w.heap.size) (o := 2) (v := .complex .f32 c0 c1) (by go_simp)
  have e3 := hN.cell_at (k := w.heap.size) (o := 3) (v := .complex .f32 d0 d1) (by go_simp)
  go_wp2_with fail
  refine (areCx_c w.heap.size 2 [(c0, c1), (d0, d1)] 2 _ (by simp) (fun j hj => ?_)).mono ?_
  · have : j = 0 ∨ j = 1 := by simp at hj; omega
    rcases this with rfl | rfl
    · exact e2
    · exact e3
  rintro e w2 ⟨rfl, hN2⟩
  rw [H2.out]
  go_wp2
  go_ret
  exact ⟨rfl, (((New.refl w).alloc _).trans hN).trans hN2⟩

theorem toldC_good {t : C8} (h : t.c = 0) : toldC t = t := if_pos h
set_option maxHeartbeats 1000000 in
theorem adjointOf_c (t : C8) (w : World) (ht : Fw8 t) (h0 : t.c = 0) :
    Calls Tryz.prog 9 #[t.val] w fun e w' => e = .returned (.tuple #[(nz (adjS t)).val, .int .i64 0]) ∧ New w w' := by
  have K0 := hid (fun w => isTable_c t w ht)
  have K1 := hid (fun b w hA => adjoint_c b t w ht hA)
  clear ht
  have hc : (nz (adjS t)).c = 0 := h0
  generalize nz (adjS t) = r at *
  have KT := hid (fun b w (hA : At b 0 w) => toldT_c b r w (by rw [hc]; exact hA))
  rw [toldC_good hc] at KT
  obtain ⟨rc, r0, r1, r2, r3, r4, r5, r6, r7⟩ := r
  simp only at hc
  subst hc
  obtain ⟨tc, a0, a1, b0, b1, c0, c1, d0, d1⟩ := t
  go_enter Tryz.func9, Tryz.ntmps9
  go_wp2_with fail
  with_reducible refine (K0.out _).mono ?_; rintro e w1 ⟨rfl, hN⟩
  have hs1 := hN.size
  simp at hs1
  have e0 := cell_alloc (hN.cell_at (k := w.heap.size) (o := 0) (v := .complex .f32 a0 a1) (by go_simp))
  have e1 := cell_alloc (hN.cell_at (k := w.heap.size) (o := 1) (v := .complex .f32 b0 b1) (by go_simp))
  have e2 := cell_alloc (hN.cell_at (k := w.heap.size) (o := 2) (v := .complex .f32 c0 c1) (by go_simp))
  have e3 := cell_alloc (hN.cell_at (k := w.heap.size) (o := 3) (v := .complex .f32 d0 d1) (by go_simp))
  have i0 := hid (hN.cell_at (k := w.heap.size + 1) (o := 0) (v := .complex .f32 0 0) (by go_simp))
  have i1 := hid (hN.cell_at (k := w.heap.size + 1) (o := 1) (v := .complex .f32 0 0) (by go_simp))
  have i2 := hid (hN.cell_at (k := w.heap.size + 1) (o := 2) (v := .complex .f32 0 0) (by go_simp))
  have i3 := hid (hN.cell_at (k := w.heap.size + 1) (o := 3) (v := .complex .f32 0 0) (by go_simp))
  have f0 := hid (hN.frozen_at (k := w.heap.size + 1) (o := 0) (by simp) (by go_simp))
  have f1 := hid (hN.frozen_at (k := w.heap.size + 1) (o := 1) (by simp) (by go_simp))
  have f2 := hid (hN.frozen_at (k := w.heap.size + 1) (o := 2) (by simp) (by go_simp))
  have f3 := hid (hN.frozen_at (k := w.heap.size + 1) (o := 3) (by simp) (by go_simp))
  have hN0 := hid ((((New.refl w).alloc _).alloc _).trans hN)
  clear hN
  go_wp2_with fail
  with_reducible refine (K1.out w1.heap.size _ (At.new _ _ _)).mono ?_; rintro e w2 ⟨rfl, hN2⟩
  have hs2 := hN2.size
  simp at hs2
  have hA2 : At w1.heap.size 0 w2 := ⟨hN2.cell_at (At.new w1 0 _).1, hN2.frozen_at (k := w1.heap.size) (o := 0) (by simp) (At.new w1 0 _).2⟩
  have j0 := hN2.cell_at (cell_alloc i0.out _)
  have j1 := hN2.cell_at (cell_alloc i1.out _)
  have j2 := hN2.cell_at (cell_alloc i2.out _)
  have j3 := hN2.cell_at (cell_alloc i3.out _)
  have g0 := hN2.frozen_at (k := w.heap.size + 1) (o := 0) (by simp; omega) (frozen_alloc (by omega) f0.out _)
  have g1 := hN2.frozen_at (k := w.heap.size + 1) (o := 1) (by simp; omega) (frozen_alloc (by omega) f1.out _)
  have g2 := hN2.frozen_at (k := w.heap.size + 1) (o := 2) (by simp; omega) (frozen_alloc (by omega) f2.out _)
  have g3 := hN2.frozen_at (k := w.heap.size + 1) (o := 3) (by simp; omega) (frozen_alloc (by omega) f3.out _)
  clear e0 e1 e2 e3
  go_wp2_with fail
  refine (KT.out w1.heap.size _ hA2).mono ?_; rintro e w3 ⟨rfl, hN3⟩
  have j0' := hN3.cell_at j0
  have j1' := hN3.cell_at j1
  have j2' := hN3.cell_at j2
  have j3' := hN3.cell_at j3
  have g0' := hN3.frozen_at (k := w.heap.size + 1) (o := 0) (by omega) g0
  have g1' := hN3.frozen_at (k := w.heap.size + 1) (o := 1) (by omega) g1
  have g2' := hN3.frozen_at (k := w.heap.size + 1) (o := 2) (by omega) g2
  have g3' := hN3.frozen_at (k := w.heap.size + 1) (o := 3) (by omega) g3
  go_wp2
  refine bodyPost_ret (v := .tuple #[T4 r0 r1 r2 r3 r4 r5 r6 r7, .int .i64 0]) (by simp [results, Tryz.results9, go_sem, j0', j1', j2', j3']) rfl ⟨rfl, ?_⟩
  exact New.set4 (((hN0.out.alloc _).trans hN2).trans hN3) (Nat.le_succ _) _ _ _ _
end Go.Proofs.YtmbjomjpnfnbkaaGreat

namespace Go.Proofs.YtmbjomjpnfnbkaaGreat
open Go.RowKit Flt

theorem Ext.some {b : Nat} {c : Int} {w w' : World} (h : Ext b c w w') {k : Nat} (hk : k ≠ b) {n : Nat} (hs : ∀ o, o < n → (w.cell? ⟨k, o, none⟩).isSome = true) : ∀ o, o < n → (w'.cell? ⟨k, o, none⟩).isSome = true := by
  intro o ho
  have := hs o ho
  cases hc : w.cell? ⟨k, o, none⟩ with
  | none => rw [hc] at this; cases this
  | some v => rw [h.cell_at hc hk]; rfl
theorem Ext.soft {b : Nat} {c : Int} {w w' : World} (h : Ext b c w w') {k : Nat} (hl : k < w.heap.size) (hk : k ≠ b) (hs : ∀ o, w.frozen? ⟨k, o, none⟩ = false) : ∀ o, w'.frozen? ⟨k, o, none⟩ = false :=
  fun o => h.frozen_at hl (hs o) hk

theorem z0_c (b : Nat) (x y : Nat) (w : World) (hx : FW x) (hy : FW y) (hA : At b 0 w) :
    Calls Tryz.prog 28 #[.pointer (some ⟨b, 0, none⟩), .float .f32 x, .float .f32 y] w fun e w' => e = .returned (.complex .f32 (zn x) (zn y)) ∧ w = w' := by
  refine (z_c b 0 x y w hx.2 hy.2 hA).mono ?_
  rintro e w' ⟨rfl, rfl⟩
  have e1 : zM x y 0 = (0, zn x, zn y) := zM_g hx.2 hy.2
  rw [e1]
  exact ⟨rfl, hA.self.symm⟩

theorem toldV_c (b : Nat) (x y z : Nat) (w : World) (hA : At b 0 w) :
    Calls Tryz.prog 29 #[.pointer (some ⟨b, 0, none⟩), V3 x y z] w fun e w' => e = .returned (.tuple #[V3 x y z, .int .i64 0]) ∧ New w w' := by
  have hlt := hA.lt
  have hc := hA.1
  go_enter Tryz.func29, Tryz.ntmps29
  go_wp2
  refine bodyPost_ret (v := .tuple #[V3 x y z, .int .i64 0]) (by simp [results, Tryz.results29, go_sem]) rfl ⟨rfl, ?_⟩
  exact ((New.refl w).alloc _).alloc _

attribute [local go_sem] isSome_setCell
attribute [-go_sem] stored
attribute [local go_sem] stored_own
set_option maxHeartbeats 2000000 in
theorem around_c (b : Nat) (s m R1 R2 : C8) (k j l i : Int) (w : World) (hs : Lw8 k s) (hm : Lw8 j m) (hr : Lw8 l R1) (ha : Lw8 i (nz (adjS s))) (g1 : -149 ≤ k + j) (g2 : k + j ≤ 126) (g3 : -149 ≤ l + i) (g4 : l + i ≤ 126)
    (e1 : productM s m 0 = R1) (k1 : R1.c = 0) (e2 : productM R1 (nz (adjS s)) 0 = R2) (k2 : R2.c = 0) (hA : At b 0 w) :
    Calls Tryz.prog 27 #[.pointer (some ⟨b, 0, none⟩), s.val, m.val] w fun e w' => e = .returned R2.val ∧ Ext b 0 w w' := by
  have hlt := hA.lt
  have K1 := hid (fun w hA => product_c b 0 s m k j w hs hm g1 g2 hA)
  have K2 := hid (fun w hA => adjoint_c b s w ⟨hs.a0.FW, hs.a1.FW, hs.b0.FW, hs.b1.FW, hs.c0.FW, hs.c1.FW, hs.d0.FW, hs.d1.FW⟩ hA)
  have K3 := hid (fun w hA => product_c b 0 R1 (nz (adjS s)) l i w hr ha g3 g4 hA)
  rw [e1, k1] at K1
  rw [e2, k2] at K3
  clear hs hm hr ha g1 g2 g3 g4 e1 k1 e2 k2
  generalize nz (adjS s) = u at *
  obtain ⟨sc, a0, a1, b0, b1, c0, c1, d0, d1⟩ := s
  obtain ⟨mc, m0, m1, m2, m3, m4, m5, m6, m7⟩ := m
  obtain ⟨rc, r0, r1, r2, r3, r4, r5, r6, r7⟩ := R1
  obtain ⟨tc, t0, t1, t2, t3, t4, t5, t6, t7⟩ := R2
  obtain ⟨uc, u0, u1, u2, u3, u4, u5, u6, u7⟩ := u
  have HA := hid hA
  have hA1 := hA.1
  have hA2 := hA.2
  have z1 : ∀ o1 o2 o3, (((w.alloc o1).alloc o2).alloc o3).cell? ⟨b, 0, none⟩ = some (.int .i64 0) := fun o1 o2 o3 => (((hA.alloc o1).alloc o2).alloc o3).1
  have z2 : ∀ o1 o2 o3, (((w.alloc o1).alloc o2).alloc o3).frozen? ⟨b, 0, none⟩ = false := fun o1 o2 o3 => (((hA.alloc o1).alloc o2).alloc o3).2
  clear hA hA1 hA2
  go_enter Tryz.func27, Tryz.ntmps27
  go_wp2_with fail
  have i1 : ∀ o, o < 4 → ((((w.alloc (Obj.cells #[.complex .f32 a0 a1, .complex .f32 b0 b1, .complex .f32 c0 c1, .complex .f32 d0 d1] 29)).alloc (Obj.cells #[.complex .f32 m0 m1, .complex .f32 m2 m3, .complex .f32 m4 m5, .complex .f32 m6 m7] 29)).alloc (Obj.cells #[.complex .f32 0 0, .complex .f32 0 0, .complex .f32 0 0, .complex .f32 0 0] 29)).cell? ⟨w.heap.size + 1 + 1, o, none⟩).isSome = true := by
    intro o ho
    match o, ho with
    | 0, _ => go_simp
    | 1, _ => go_simp
    | 2, _ => go_simp
    | 3, _ => go_simp
  go_region_held3 (fun w' => w'.cell? ⟨b, 0, none⟩ = some (.int .i64 0) ∧ w'.frozen? ⟨b, 0, none⟩ = false ∧ w'.cell? ⟨w.heap.size, 0, none⟩ = some (.complex .f32 a0 a1) ∧ w'.cell? ⟨w.heap.size, 1, none⟩ = some (.complex .f32 b0 b1) ∧ w'.cell? ⟨w.heap.size, 2, none⟩ = some (.complex .f32 c0 c1) ∧ w'.cell? ⟨w.heap.size, 3, none⟩ = some (.complex .f32 d0 d1) ∧ w'.cell? ⟨w.heap.size + 1, 0, none⟩ = some (.complex .f32 m0 m1) ∧ w'.cell? ⟨w.heap.size + 1, 1, none⟩ = some (.complex .f32 m2 m3) ∧ w'.cell? ⟨w.heap.size + 1, 2, none⟩ = some (.complex .f32 m4 m5) ∧ w'.cell? ⟨w.heap.size + 1, 3, none⟩ = some (.complex .f32 m6 m7) ∧ (∀ o, o < 4 → (w'.cell? ⟨w.heap.size + 1 + 1, o, none⟩).isSome = true) ∧ (∀ o, w'.frozen? ⟨w.heap.size + 1 + 1, o, none⟩ = false) ∧ w.heap.size + 1 + 1 + 1 ≤ w'.heap.size) (((repeat' apply And.intro) <;> (first | (with_reducible assumption) | omega | (simp; omega) | (go_simp; done) | (intro o ho; go_simp; done) | (intro o; go_simp; done))))
    (first
      | (go_at_call 52; go_split_ands; (first | (with_reducible refine (K1.out _ ?hAt).mono ?_) | (with_reducible refine (K3.out _ ?hAt).mono ?_)); (case hAt => exact ⟨by go_simp, by go_simp⟩); rintro e w1 ⟨rfl, hE⟩; have e0 := hE.cell_at (k := w.heap.size) (o := 0) (v := .complex .f32 a0 a1) (by go_simp) (by omega); have e1 := hE.cell_at (k := w.heap.size) (o := 1) (v := .complex .f32 b0 b1) (by go_simp) (by omega); have e2 := hE.cell_at (k := w.heap.size) (o := 2) (v := .complex .f32 c0 c1) (by go_simp) (by omega); have e3 := hE.cell_at (k := w.heap.size) (o := 3) (v := .complex .f32 d0 d1) (by go_simp) (by omega); have f0 := hE.cell_at (k := w.heap.size + 1) (o := 0) (v := .complex .f32 m0 m1) (by go_simp) (by omega); have f1 := hE.cell_at (k := w.heap.size + 1) (o := 1) (v := .complex .f32 m2 m3) (by go_simp) (by omega); have f2 := hE.cell_at (k := w.heap.size + 1) (o := 2) (v := .complex .f32 m4 m5) (by go_simp) (by omega); have f3 := hE.cell_at (k := w.heap.size + 1) (o := 3) (v := .complex .f32 m6 m7) (by go_simp) (by omega); have hb1 := hE.at_.1; have hb2 := hE.at_.2; have hs1 := hE.some (k := w.heap.size + 1 + 1) (n := 4) (by omega) (by with_reducible assumption); have hs2 := hE.soft (k := w.heap.size + 1 + 1) (by omega) (by omega) (by with_reducible assumption); have hsz := hE.size)
      | (go_at_call 25; go_split_ands; (with_reducible refine (K2.out _ ?hAt).mono ?_); (case hAt => exact ⟨by go_simp, by go_simp⟩); rintro e w1 ⟨rfl, hN⟩; have e0 := hN.cell_at (k := w.heap.size) (o := 0) (v := .complex .f32 a0 a1) (by go_simp); have e1 := hN.cell_at (k := w.heap.size) (o := 1) (v := .complex .f32 b0 b1) (by go_simp); have e2 := hN.cell_at (k := w.heap.size) (o := 2) (v := .complex .f32 c0 c1) (by go_simp); have e3 := hN.cell_at (k := w.heap.size) (o := 3) (v := .complex .f32 d0 d1) (by go_simp); have f0 := hN.cell_at (k := w.heap.size + 1) (o := 0) (v := .complex .f32 m0 m1) (by go_simp); have f1 := hN.cell_at (k := w.heap.size + 1) (o := 1) (v := .complex .f32 m2 m3) (by go_simp); have f2 := hN.cell_at (k := w.heap.size + 1) (o := 2) (v := .complex .f32 m4 m5) (by go_simp); have f3 := hN.cell_at (k := w.heap.size + 1) (o := 3) (v := .complex .f32 m6 m7) (by go_simp); have hb1 := hN.cell_at (k := b) (o := 0) (v := .int .i64 0) (by go_simp); have hb2 := hN.frozen_at (k := b) (o := 0) (by omega) (by go_simp); have hs1 := hN.some (k := w.heap.size + 1 + 1) (n := 4) (by omega) (by with_reducible assumption); have hs2 := hN.soft (k := w.heap.size + 1 + 1) (by omega) (by with_reducible assumption); have hsz := hN.size))
  all_goals
    rename_i hh; clear hh
    go_wp2
    refine bodyPost_ret (v := T4 t0 t1 t2 t3 t4 t5 t6 t7) (by simp [results, Tryz.results27, go_sem, map_isSome, *]) rfl ⟨rfl, ?_⟩
    have g1 : w.heap.size ≤ w.heap.size + 1 + 1 := by omega
    have g2 : w.heap.size + 1 + 1 ≠ b := by omega
    refine Ext.setNew (p := ⟨w.heap.size + 1 + 1, 3, none⟩) ?_ g1 g2 _
    refine Ext.setNew (p := ⟨w.heap.size + 1 + 1, 2, none⟩) ?_ g1 g2 _
    refine Ext.setNew (p := ⟨w.heap.size + 1 + 1, 1, none⟩) ?_ g1 g2 _
    refine Ext.setNew (p := ⟨w.heap.size + 1 + 1, 0, none⟩) ?_ g1 g2 _
    refine Ext.trans (c := 0) ?_ (by with_reducible assumption)
    refine Ext.new ?_ (by with_reducible assumption)
    refine Ext.trans (c := 0) ?_ (by with_reducible assumption)
    exact ((((Ext.refl HA.out).alloc _).alloc _).alloc _).drew
end Go.Proofs.YtmbjomjpnfnbkaaGreat
