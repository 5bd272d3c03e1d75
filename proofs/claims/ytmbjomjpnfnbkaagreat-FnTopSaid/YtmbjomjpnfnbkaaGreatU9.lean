/-
  Walks of the program's TurnVector.
-/
import Derived.Test.YtmbjomjpnfnbkaaGreatMf
set_option linter.unusedSimpArgs false
set_option linter.unusedVariables false
namespace Go.Proofs.YtmbjomjpnfnbkaaGreat
open Go.RowKit Flt

theorem Ext.keep1 {b : Nat} {c : Int} {w w' : World} (h : Ext b c w w') {k : Nat} (hk : k ≠ b) (o : Nat) (hs : (w.cell? ⟨k, o, none⟩).isSome = true) : (w'.cell? ⟨k, o, none⟩).isSome = true := by
  cases hc : w.cell? ⟨k, o, none⟩ with
  | none => rw [hc] at hs; cases hs
  | some v => rw [h.cell_at hc hk]; rfl
theorem Ext.keep2 {b : Nat} {c : Int} {w w' : World} (h : Ext b c w w') {k : Nat} (hk : k ≠ b) (o : Nat) (hl : k < w.heap.size) (hs : w.frozen? ⟨k, o, none⟩ = false) : w'.frozen? ⟨k, o, none⟩ = false := h.frozen_at hl hs hk

theorem set4_cell {w : World} {b o1 o2 o3 o4 k o : Nat} {v1 v2 v3 v4 u : Value} (h : b ≠ k) (hc : w.cell? ⟨k, o, none⟩ = some u) : ((((w.setCell ⟨b, o1, none⟩ v1).setCell ⟨b, o2, none⟩ v2).setCell ⟨b, o3, none⟩ v3).setCell ⟨b, o4, none⟩ v4).cell? ⟨k, o, none⟩ = some u := by
  have hn : ∀ o', (⟨b, o', none⟩ : Addr) ≠ ⟨k, o, none⟩ := fun o' e => h (congrArg Addr.block e)
  rw [World.cell?_setCell_other _ _ _ _ (hn _), World.cell?_setCell_other _ _ _ _ (hn _), World.cell?_setCell_other _ _ _ _ (hn _), World.cell?_setCell_other _ _ _ _ (hn _)]
  exact hc
theorem set4_frozen {w : World} {b o1 o2 o3 o4 k o : Nat} {v1 v2 v3 v4 : Value} (hc : w.frozen? ⟨k, o, none⟩ = false) : ((((w.setCell ⟨b, o1, none⟩ v1).setCell ⟨b, o2, none⟩ v2).setCell ⟨b, o3, none⟩ v3).setCell ⟨b, o4, none⟩ v4).frozen? ⟨k, o, none⟩ = false := by
  simp only [World.frozen?_setCell]; exact hc

/-- The table of a vector. -/
def vecT (x y z : Nat) : C8 := ⟨0, zn z, zn 0, zn x, zn (ng y), zn x, zn y, zn (ng z), zn 0⟩
attribute [local go_sem] isSome_setCell
attribute [-go_sem] stored
attribute [local go_sem] stored_own
set_option maxHeartbeats 8000000 in
theorem turnVector_c (a R : C8) (x y z : Nat) (w : World) (ha : Fw8 a) (hx : FW x) (hy : FW y) (hz : FW z)
    (hK : ∀ b w, At b 0 w → Calls Tryz.prog 27 #[.pointer (some ⟨b, 0, none⟩), a.val, (vecT x y z).val] w fun e w' => e = .returned R.val ∧ Ext b 0 w w') :
    Calls Tryz.prog 12 #[a.val, V3 x y z] w fun e w' => e = .returned (.tuple #[V3 R.c0 R.c1 R.a0, .int .i64 0]) ∧ New w w' := by
  have K0 := hid (fun w => isTable_c a w ha)
  have KV := hid (fun w => isVector_c x y z w)
  have hv : (fin S x && fin S y && fin S z) = true := by simp [hx.2, hy.2, hz.2]
  rw [hv] at KV
  have K1 := hid hK
  have Kz1 := hid (fun b w hA => z0_c b z 0 w hz ⟨by decide, fin0⟩ hA)
  have Kz2 := hid (fun b w hA => z0_c b x (Op.negFloat .f32 y) w hx ⟨ng_lt hy.1, hy.ng⟩ hA)
  have Kz3 := hid (fun b w hA => z0_c b x y w hx hy hA)
  have Kz4 := hid (fun b w hA => z0_c b (Op.negFloat .f32 z) 0 w ⟨ng_lt hz.1, hz.ng⟩ ⟨by decide, fin0⟩ hA)
  have KT := hid (fun b w hA => toldV_c b R.c0 R.c1 R.a0 w hA)
  unfold vecT ng at K1
  clear ha hx hy hz hK hv
  generalize zn z = z' at *
  generalize zn 0 = o' at *
  generalize zn x = x' at *
  generalize zn y = y' at *
  generalize zn (Op.negFloat .f32 y) = ny at *
  generalize zn (Op.negFloat .f32 z) = nz' at *
  obtain ⟨ac, a0, a1, b0, b1, c0, c1, d0, d1⟩ := a
  obtain ⟨rc, r0, r1, r2, r3, r4, r5, r6, r7⟩ := R
  simp only at KT
  go_enter Tryz.func12, Tryz.ntmps12
  go_wp2_with fail
  with_reducible refine (K0.out _).mono ?_; rintro e w1 ⟨rfl, hN⟩
  have hs1 := hN.size
  simp at hs1
  have e0 := hN.cell_at (k := w.heap.size) (o := 0) (v := .complex .f32 a0 a1) (by go_simp)
  have e1 := hN.cell_at (k := w.heap.size) (o := 1) (v := .complex .f32 b0 b1) (by go_simp)
  have e2 := hN.cell_at (k := w.heap.size) (o := 2) (v := .complex .f32 c0 c1) (by go_simp)
  have e3 := hN.cell_at (k := w.heap.size) (o := 3) (v := .complex .f32 d0 d1) (by go_simp)
  have f0 := hN.cell_at (k := w.heap.size + 1) (o := 0) (v := .float .f32 x) (by go_simp)
  have f1 := hN.cell_at (k := w.heap.size + 1) (o := 1) (v := .float .f32 y) (by go_simp)
  have f2 := hN.cell_at (k := w.heap.size + 1) (o := 2) (v := .float .f32 z) (by go_simp)
  have i0 := hid (hN.cell_at (k := w.heap.size + 1 + 1) (o := 0) (v := .float .f32 0) (by go_simp))
  have i1 := hid (hN.cell_at (k := w.heap.size + 1 + 1) (o := 1) (v := .float .f32 0) (by go_simp))
  have i2 := hid (hN.cell_at (k := w.heap.size + 1 + 1) (o := 2) (v := .float .f32 0) (by go_simp))
  have s0 := hid (hN.frozen_at (k := w.heap.size + 1 + 1) (o := 0) (by simp) (by go_simp))
  have s1 := hid (hN.frozen_at (k := w.heap.size + 1 + 1) (o := 1) (by simp) (by go_simp))
  have s2 := hid (hN.frozen_at (k := w.heap.size + 1 + 1) (o := 2) (by simp) (by go_simp))
  have hN0 := hid (((((New.refl w).alloc _).alloc _).alloc _).trans hN)
  clear hN
  go_wp2_with fail
  with_reducible refine (KV.out _).mono ?_; rintro e w2 ⟨rfl, hN2⟩
  have hs2 := hN2.size
  have D0 : Hid (∀ u1, (w2.alloc u1).drew.cell? ⟨w.heap.size, 0, none⟩ = some (.complex .f32 a0 a1)) := hid (fun u1 => cell_alloc (hN2.cell_at e0) u1)
  have E0 : Hid (∀ u1 u2, ((w2.alloc u1).alloc u2).drew.cell? ⟨w.heap.size, 0, none⟩ = some (.complex .f32 a0 a1)) := hid (fun u1 u2 => cell_alloc (cell_alloc (hN2.cell_at e0) u1) u2)
  have D1 : Hid (∀ u1, (w2.alloc u1).drew.cell? ⟨w.heap.size, 1, none⟩ = some (.complex .f32 b0 b1)) := hid (fun u1 => cell_alloc (hN2.cell_at e1) u1)
  have E1 : Hid (∀ u1 u2, ((w2.alloc u1).alloc u2).drew.cell? ⟨w.heap.size, 1, none⟩ = some (.complex .f32 b0 b1)) := hid (fun u1 u2 => cell_alloc (cell_alloc (hN2.cell_at e1) u1) u2)
  have D2 : Hid (∀ u1, (w2.alloc u1).drew.cell? ⟨w.heap.size, 2, none⟩ = some (.complex .f32 c0 c1)) := hid (fun u1 => cell_alloc (hN2.cell_at e2) u1)
  have E2 : Hid (∀ u1 u2, ((w2.alloc u1).alloc u2).drew.cell? ⟨w.heap.size, 2, none⟩ = some (.complex .f32 c0 c1)) := hid (fun u1 u2 => cell_alloc (cell_alloc (hN2.cell_at e2) u1) u2)
  have D3 : Hid (∀ u1, (w2.alloc u1).drew.cell? ⟨w.heap.size, 3, none⟩ = some (.complex .f32 d0 d1)) := hid (fun u1 => cell_alloc (hN2.cell_at e3) u1)
  have E3 : Hid (∀ u1 u2, ((w2.alloc u1).alloc u2).drew.cell? ⟨w.heap.size, 3, none⟩ = some (.complex .f32 d0 d1)) := hid (fun u1 u2 => cell_alloc (cell_alloc (hN2.cell_at e3) u1) u2)
  have D4 : Hid (∀ u1, (w2.alloc u1).drew.cell? ⟨w.heap.size + 1, 0, none⟩ = some (.float .f32 x)) := hid (fun u1 => cell_alloc (hN2.cell_at f0) u1)
  have E4 : Hid (∀ u1 u2, ((w2.alloc u1).alloc u2).drew.cell? ⟨w.heap.size + 1, 0, none⟩ = some (.float .f32 x)) := hid (fun u1 u2 => cell_alloc (cell_alloc (hN2.cell_at f0) u1) u2)
  have D5 : Hid (∀ u1, (w2.alloc u1).drew.cell? ⟨w.heap.size + 1, 1, none⟩ = some (.float .f32 y)) := hid (fun u1 => cell_alloc (hN2.cell_at f1) u1)
  have E5 : Hid (∀ u1 u2, ((w2.alloc u1).alloc u2).drew.cell? ⟨w.heap.size + 1, 1, none⟩ = some (.float .f32 y)) := hid (fun u1 u2 => cell_alloc (cell_alloc (hN2.cell_at f1) u1) u2)
  have D6 : Hid (∀ u1, (w2.alloc u1).drew.cell? ⟨w.heap.size + 1, 2, none⟩ = some (.float .f32 z)) := hid (fun u1 => cell_alloc (hN2.cell_at f2) u1)
  have E6 : Hid (∀ u1 u2, ((w2.alloc u1).alloc u2).drew.cell? ⟨w.heap.size + 1, 2, none⟩ = some (.float .f32 z)) := hid (fun u1 u2 => cell_alloc (cell_alloc (hN2.cell_at f2) u1) u2)
  have j0 := hid (hN2.cell_at i0.out)
  have u0 := hid (hN2.frozen_at (k := w.heap.size + 1 + 1) (o := 0) (by omega) s0.out)
  have j1 := hid (hN2.cell_at i1.out)
  have u1 := hid (hN2.frozen_at (k := w.heap.size + 1 + 1) (o := 1) (by omega) s1.out)
  have j2 := hid (hN2.cell_at i2.out)
  have u2 := hid (hN2.frozen_at (k := w.heap.size + 1 + 1) (o := 2) (by omega) s2.out)
  have hN02 := hid (hN0.out.trans hN2)
  clear e0 e1 e2 e3 f0 f1 f2 i0 i1 i2 s0 s1 s2 hN2 hN0
  go_wp2_with fail
  have Z0 : Hid (((w2.alloc (Obj.cells #[.int .i64 0] 55)).alloc (Obj.cells #[.complex .f32 0 0, .complex .f32 0 0, .complex .f32 0 0, .complex .f32 0 0] 29)).drew.cell? ⟨w2.heap.size + 1, 0, none⟩ = some (.complex .f32 0 0)) := hid (by go_simp)
  have Y0 : Hid (((w2.alloc (Obj.cells #[.int .i64 0] 55)).alloc (Obj.cells #[.complex .f32 0 0, .complex .f32 0 0, .complex .f32 0 0, .complex .f32 0 0] 29)).drew.frozen? ⟨w2.heap.size + 1, 0, none⟩ = false) := hid (by go_simp)
  have Z1 : Hid (((w2.alloc (Obj.cells #[.int .i64 0] 55)).alloc (Obj.cells #[.complex .f32 0 0, .complex .f32 0 0, .complex .f32 0 0, .complex .f32 0 0] 29)).drew.cell? ⟨w2.heap.size + 1, 1, none⟩ = some (.complex .f32 0 0)) := hid (by go_simp)
  have Y1 : Hid (((w2.alloc (Obj.cells #[.int .i64 0] 55)).alloc (Obj.cells #[.complex .f32 0 0, .complex .f32 0 0, .complex .f32 0 0, .complex .f32 0 0] 29)).drew.frozen? ⟨w2.heap.size + 1, 1, none⟩ = false) := hid (by go_simp)
  have Z2 : Hid (((w2.alloc (Obj.cells #[.int .i64 0] 55)).alloc (Obj.cells #[.complex .f32 0 0, .complex .f32 0 0, .complex .f32 0 0, .complex .f32 0 0] 29)).drew.cell? ⟨w2.heap.size + 1, 2, none⟩ = some (.complex .f32 0 0)) := hid (by go_simp)
  have Y2 : Hid (((w2.alloc (Obj.cells #[.int .i64 0] 55)).alloc (Obj.cells #[.complex .f32 0 0, .complex .f32 0 0, .complex .f32 0 0, .complex .f32 0 0] 29)).drew.frozen? ⟨w2.heap.size + 1, 2, none⟩ = false) := hid (by go_simp)
  have Z3 : Hid (((w2.alloc (Obj.cells #[.int .i64 0] 55)).alloc (Obj.cells #[.complex .f32 0 0, .complex .f32 0 0, .complex .f32 0 0, .complex .f32 0 0] 29)).drew.cell? ⟨w2.heap.size + 1, 3, none⟩ = some (.complex .f32 0 0)) := hid (by go_simp)
  have Y3 : Hid (((w2.alloc (Obj.cells #[.int .i64 0] 55)).alloc (Obj.cells #[.complex .f32 0 0, .complex .f32 0 0, .complex .f32 0 0, .complex .f32 0 0] 29)).drew.frozen? ⟨w2.heap.size + 1, 3, none⟩ = false) := hid (by go_simp)
  have n5 : Hid (w2.heap.size + 1 ≠ w2.heap.size) := hid (by omega)
  have n6 : Hid (w2.heap.size + 1 < ((w2.alloc (Obj.cells #[.int .i64 0] 55)).alloc (Obj.cells #[.complex .f32 0 0, .complex .f32 0 0, .complex .f32 0 0, .complex .f32 0 0] 29)).drew.heap.size) := hid (by simp)
  have A1 : Hid ((w2.alloc (Obj.cells #[.int .i64 0] 55)).drew.cell? ⟨w2.heap.size, 0, none⟩ = some (.int .i64 0)) := hid (At.new w2 0 55).1
  have A2 : Hid ((w2.alloc (Obj.cells #[.int .i64 0] 55)).drew.frozen? ⟨w2.heap.size, 0, none⟩ = false) := hid (At.new w2 0 55).2
  have A1d : Hid (∀ b2, ((w2.alloc (Obj.cells #[.int .i64 0] 55)).alloc b2).drew.cell? ⟨w2.heap.size, 0, none⟩ = some (.int .i64 0)) := hid (fun b2 => cell_alloc (At.new w2 0 55).1 b2)
  have A2d : Hid (∀ b2, ((w2.alloc (Obj.cells #[.int .i64 0] 55)).alloc b2).drew.frozen? ⟨w2.heap.size, 0, none⟩ = false) := hid (fun b2 => frozen_alloc (by simp) (At.new w2 0 55).2 b2)
  go_region_held3 (fun w' => w'.cell? ⟨w2.heap.size, 0, none⟩ = some (.int .i64 0) ∧ w'.frozen? ⟨w2.heap.size, 0, none⟩ = false ∧ w'.cell? ⟨w.heap.size, 0, none⟩ = some (.complex .f32 a0 a1) ∧ w'.cell? ⟨w.heap.size, 1, none⟩ = some (.complex .f32 b0 b1) ∧ w'.cell? ⟨w.heap.size, 2, none⟩ = some (.complex .f32 c0 c1) ∧ w'.cell? ⟨w.heap.size, 3, none⟩ = some (.complex .f32 d0 d1) ∧ w'.cell? ⟨w.heap.size + 1, 0, none⟩ = some (.float .f32 x) ∧ w'.cell? ⟨w.heap.size + 1, 1, none⟩ = some (.float .f32 y) ∧ w'.cell? ⟨w.heap.size + 1, 2, none⟩ = some (.float .f32 z) ∧ w2.heap.size + 1 ≤ w'.heap.size) (((repeat' apply And.intro) <;> (first | (with_reducible first | exact D0.out _ | exact D1.out _ | exact D2.out _ | exact D3.out _ | exact D4.out _ | exact D5.out _ | exact D6.out _ | exact E0.out _ _ | exact E1.out _ _ | exact E2.out _ _ | exact E3.out _ _ | exact E4.out _ _ | exact E5.out _ _ | exact E6.out _ _ | exact A1.out | exact A2.out | exact A1d.out _ | exact A2d.out _ | exact m0.out | exact m1.out | exact m2.out | exact m3.out | exact m4.out | exact m5.out | exact m6.out | exact hb1.out | exact hb2.out) | (with_reducible first | exact cell_alloc m0.out _ | exact cell_alloc m1.out _ | exact cell_alloc m2.out _ | exact cell_alloc m3.out _ | exact cell_alloc m4.out _ | exact cell_alloc m5.out _ | exact cell_alloc m6.out _ | exact cell_alloc hb1.out _ | exact frozen_alloc (by omega) hb2.out _) | (with_reducible refine set4_cell (by omega) ?_; first | (with_reducible first | exact D0.out _ | exact D1.out _ | exact D2.out _ | exact D3.out _ | exact D4.out _ | exact D5.out _ | exact D6.out _ | exact E0.out _ _ | exact E1.out _ _ | exact E2.out _ _ | exact E3.out _ _ | exact E4.out _ _ | exact E5.out _ _ | exact E6.out _ _ | exact A1.out | exact A2.out | exact A1d.out _ | exact A2d.out _ | exact m0.out | exact m1.out | exact m2.out | exact m3.out | exact m4.out | exact m5.out | exact m6.out | exact hb1.out | exact hb2.out) | (with_reducible first | exact cell_alloc m0.out _ | exact cell_alloc m1.out _ | exact cell_alloc m2.out _ | exact cell_alloc m3.out _ | exact cell_alloc m4.out _ | exact cell_alloc m5.out _ | exact cell_alloc m6.out _ | exact cell_alloc hb1.out _ | exact frozen_alloc (by omega) hb2.out _)) | (with_reducible refine set4_frozen ?_; first | (with_reducible first | exact D0.out _ | exact D1.out _ | exact D2.out _ | exact D3.out _ | exact D4.out _ | exact D5.out _ | exact D6.out _ | exact E0.out _ _ | exact E1.out _ _ | exact E2.out _ _ | exact E3.out _ _ | exact E4.out _ _ | exact E5.out _ _ | exact E6.out _ _ | exact A1.out | exact A2.out | exact A1d.out _ | exact A2d.out _ | exact m0.out | exact m1.out | exact m2.out | exact m3.out | exact m4.out | exact m5.out | exact m6.out | exact hb1.out | exact hb2.out) | (with_reducible first | exact cell_alloc m0.out _ | exact cell_alloc m1.out _ | exact cell_alloc m2.out _ | exact cell_alloc m3.out _ | exact cell_alloc m4.out _ | exact cell_alloc m5.out _ | exact cell_alloc m6.out _ | exact cell_alloc hb1.out _ | exact frozen_alloc (by omega) hb2.out _)) | omega | (simp; omega) | (go_simp; done))))
    (first
      | (go_at_call 28; go_split_ands; (first | (with_reducible refine (Kz1.out _ _ ?hAt).mono ?_) | (with_reducible refine (Kz2.out _ _ ?hAt).mono ?_) | (with_reducible refine (Kz3.out _ _ ?hAt).mono ?_) | (with_reducible refine (Kz4.out _ _ ?hAt).mono ?_)); (case hAt => exact ⟨by with_reducible assumption, by with_reducible assumption⟩); rintro e w' ⟨rfl, rfl⟩)
      | (go_at_call 27; go_split_ands; (with_reducible refine (K1.out _ _ ?hAt).mono ?_); (case hAt => exact ⟨by with_reducible assumption, by with_reducible assumption⟩); rintro e w3 ⟨rfl, hE⟩; have m0 := hid (hE.cell_at (k := w.heap.size) (o := 0) (v := .complex .f32 a0 a1) (by with_reducible assumption) (by omega)); have m1 := hid (hE.cell_at (k := w.heap.size) (o := 1) (v := .complex .f32 b0 b1) (by with_reducible assumption) (by omega)); have m2 := hid (hE.cell_at (k := w.heap.size) (o := 2) (v := .complex .f32 c0 c1) (by with_reducible assumption) (by omega)); have m3 := hid (hE.cell_at (k := w.heap.size) (o := 3) (v := .complex .f32 d0 d1) (by with_reducible assumption) (by omega)); have m4 := hid (hE.cell_at (k := w.heap.size + 1) (o := 0) (v := .float .f32 x) (by with_reducible assumption) (by omega)); have m5 := hid (hE.cell_at (k := w.heap.size + 1) (o := 1) (v := .float .f32 y) (by with_reducible assumption) (by omega)); have m6 := hid (hE.cell_at (k := w.heap.size + 1) (o := 2) (v := .float .f32 z) (by with_reducible assumption) (by omega)); have hb1 := hid hE.at_.1; have hb2 := hid hE.at_.2; have hsz := hE.size; (try simp at hsz); (with_reducible first | (have q0 := hE.cell_at Z0.out n5.out; have t0 := hE.frozen_at n6.out Y0.out n5.out; have q1 := hE.cell_at Z1.out n5.out; have t1 := hE.frozen_at n6.out Y1.out n5.out; have q2 := hE.cell_at Z2.out n5.out; have t2 := hE.frozen_at n6.out Y2.out n5.out; have q3 := hE.cell_at Z3.out n5.out; have t3 := hE.frozen_at n6.out Y3.out n5.out) | skip)))
  all_goals
    rename_i hh; clear hh
    go_wp2_with fail
    refine (KT.out w2.heap.size _ ?hAt).mono ?_
    case hAt => exact ⟨by go_simp; first | exact hb1.out | exact (cell_alloc hb1.out _), by go_simp; first | exact hb2.out | exact (frozen_alloc (by omega) hb2.out _)⟩
    rintro e w4 ⟨rfl, hN4⟩
    have hEz : Ext w2.heap.size 0 (w2.alloc (Obj.cells #[.int .i64 0] 55)) w4 := by
      refine Ext.new ?_ hN4
      have h8 : (w2.alloc (Obj.cells #[.int .i64 0] 55)).heap.size ≤ w2.heap.size + 1 := by simp
      have h9 : w2.heap.size + 1 ≠ w2.heap.size := by omega
      first
        | (with_reducible exact (Ext.trans (c := 0) (Ext.refl (At.new _ _ _)).drew hE).alloc _)
        | (refine Ext.setNew (p := ⟨w2.heap.size + 1, 3, none⟩) ?_ h8 h9 _
           refine Ext.setNew (p := ⟨w2.heap.size + 1, 2, none⟩) ?_ h8 h9 _
           refine Ext.setNew (p := ⟨w2.heap.size + 1, 1, none⟩) ?_ h8 h9 _
           refine Ext.setNew (p := ⟨w2.heap.size + 1, 0, none⟩) ?_ h8 h9 _
           exact Ext.trans (c := 0) (((Ext.refl (At.new _ _ _)).alloc _).drew) hE)
    clear hE hN4
    have j0' := hEz.cell_at (cell_alloc j0.out _) (by omega)
    have j1' := hEz.cell_at (cell_alloc j1.out _) (by omega)
    have j2' := hEz.cell_at (cell_alloc j2.out _) (by omega)
    have g0' := hEz.frozen_at (k := w.heap.size + 1 + 1) (o := 0) (by simp; omega) (frozen_alloc (by omega) u0.out _) (by omega)
    have g1' := hEz.frozen_at (k := w.heap.size + 1 + 1) (o := 1) (by simp; omega) (frozen_alloc (by omega) u1.out _) (by omega)
    have g2' := hEz.frozen_at (k := w.heap.size + 1 + 1) (o := 2) (by simp; omega) (frozen_alloc (by omega) u2.out _) (by omega)
    go_wp2
    refine bodyPost_ret (v := .tuple #[V3 r4 r5 r0, .int .i64 0]) (by simp [results, Tryz.results12, go_sem, j0', j1', j2']) rfl ⟨rfl, ?_⟩
    have hge : w.heap.size ≤ w.heap.size + 1 + 1 := by omega
    have hNn := hN02.out.ext hEz (by omega)
    exact New.set (p := ⟨w.heap.size + 1 + 1, 2, none⟩) (New.set2 hNn hge _ _) hge _
end Go.Proofs.YtmbjomjpnfnbkaaGreat
