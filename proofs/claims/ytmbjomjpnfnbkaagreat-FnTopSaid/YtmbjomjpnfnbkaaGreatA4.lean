/-
  Walks of functions that make memory: the sum of products of vectors, tables of parts, steps.
-/
import Derived.Test.YtmbjomjpnfnbkaaGreatA3
import Derived.Deep.RegionHeld3
import Derived.BigQuiet
import Derived.Deep.QuietTactic
import Derived.Handy
set_option linter.unusedSimpArgs false
set_option linter.unusedVariables false
namespace Go.Proofs.YtmbjomjpnfnbkaaGreat
open Go.RowKit Flt

/-- A number's bits. -/
def FW (x : Nat) : Prop := x < 2 ^ 32 ∧ fin S x = true

/-- From w to w' the code's cell alone has turned, and new blocks have come. -/
structure Ext (b : Nat) (c : Int) (w w' : World) : Prop where
  os : w'.os = w.os
  tape : w'.tape = w.tape
  output : w'.output = w.output
  size : w.heap.size ≤ w'.heap.size
  at_ : At b c w'
  block : ∀ k, k < w.heap.size → k ≠ b → w'.heap[k]? = w.heap[k]?

theorem At.lt {b : Nat} {c : Int} {w : World} (h : At b c w) : b < w.heap.size := by
  have := h.1
  unfold World.cell? at this
  simp only at this
  apply Classical.byContradiction; intro hc
  rw [Array.getElem?_eq_none (by omega)] at this
  cases this
theorem At.alloc {b : Nat} {c : Int} {w : World} (h : At b c w) (o : Obj) : At b c (w.alloc o) := by
  have hl := h.lt
  have e := Below.heap_alloc w o b hl
  constructor
  · have := h.1; unfold World.cell? at *; simp only at *; rw [e]; exact this
  · have := h.2; unfold World.frozen? at *; simp only at *; rw [e]; exact this
theorem At.drewN {b : Nat} {c : Int} {w : World} (h : At b c w) (n : Nat) : At b c (w.drewN n) := h
theorem At.drew {b : Nat} {c : Int} {w : World} (h : At b c w) : At b c w.drew := h

theorem Ext.refl {b : Nat} {c : Int} {w : World} (h : At b c w) : Ext b c w w := ⟨rfl, rfl, rfl, Nat.le_refl _, h, fun _ _ _ => rfl⟩
theorem Ext.alloc {b : Nat} {c : Int} {w w' : World} (h : Ext b c w w') (o : Obj) : Ext b c w (w'.alloc o) :=
  ⟨h.os, h.tape, h.output, by have := h.size; simp; omega, h.at_.alloc o, fun k hk hb => by rw [Below.heap_alloc _ _ _ (by have := h.size; omega)]; exact h.block k hk hb⟩
theorem Ext.set {b : Nat} {c : Int} {w w' : World} (h : Ext b c w w') (c' : Int) : Ext b c' w (w'.setCell ⟨b, 0, none⟩ (.int .i64 c')) :=
  ⟨h.os, h.tape, h.output, by have := h.size; simp; omega, h.at_.set c', fun k hk hb => by rw [Below.heap_setCell _ _ _ _ hb]; exact h.block k hk hb⟩
theorem Ext.drewN {b : Nat} {c : Int} {w w' : World} (h : Ext b c w w') (n : Nat) : Ext b c w (w'.drewN n) := ⟨h.os, h.tape, h.output, h.size, h.at_, h.block⟩
theorem Ext.drew {b : Nat} {c : Int} {w w' : World} (h : Ext b c w w') : Ext b c w w'.drew := ⟨h.os, h.tape, h.output, h.size, h.at_, h.block⟩
theorem Ext.trans {b : Nat} {c c' : Int} {w w' w'' : World} (h : Ext b c w w') (k : Ext b c' w' w'') : Ext b c' w w'' :=
  ⟨k.os.trans h.os, k.tape.trans h.tape, k.output.trans h.output, Nat.le_trans h.size k.size, k.at_, fun i hi hb => (k.block i (by have := h.size; omega) hb).trans (h.block i hi hb)⟩
theorem Ext.setNew {b : Nat} {c : Int} {w w' : World} (h : Ext b c w w') {p : Addr} (hp : w.heap.size ≤ p.block) (hb : p.block ≠ b) (u : Value) : Ext b c w (w'.setCell p u) := by
  refine ⟨h.os, h.tape, h.output, by have := h.size; simp; omega, ?_, fun k hk hkb => by rw [Below.heap_setCell _ _ _ _ (by omega)]; exact h.block k hk hkb⟩
  constructor
  · rw [World.cell?_setCell_other _ _ _ _ (by intro hc; subst hc; exact hb rfl)]; exact h.at_.1
  · rw [World.frozen?_setCell]; exact h.at_.2
/-- What is known of old cells behind such a call. -/
theorem Ext.cells {b : Nat} {c : Int} {w w' : World} (h : Ext b c w w') : (∀ k o, k < w.heap.size → k ≠ b → w'.cell? ⟨k, o, none⟩ = w.cell? ⟨k, o, none⟩) ∧ (∀ k o, k < w.heap.size → k ≠ b → w'.frozen? ⟨k, o, none⟩ = w.frozen? ⟨k, o, none⟩) :=
  ⟨fun k o hk hb => by unfold World.cell?; simp only; rw [h.block k hk hb], fun k o hk hb => by unfold World.frozen?; simp only; rw [h.block k hk hb]⟩

/-- A cell that lay there reads as before. -/
theorem Ext.cell_at {b : Nat} {c : Int} {w w' : World} (h : Ext b c w w') {k o : Nat} {v : Value} (hv : w.cell? ⟨k, o, none⟩ = some v) (hk : k ≠ b) : w'.cell? ⟨k, o, none⟩ = some v := by
  have hl : k < w.heap.size := by
    unfold World.cell? at hv
    simp only at hv
    apply Classical.byContradiction; intro hc
    rw [Array.getElem?_eq_none (by omega)] at hv
    cases hv
  rw [h.cells.1 k o hl hk]; exact hv
theorem Ext.frozen_at {b : Nat} {c : Int} {w w' : World} (h : Ext b c w w') {k o : Nat} (hl : k < w.heap.size) (hf : w.frozen? ⟨k, o, none⟩ = false) (hk : k ≠ b) : w'.frozen? ⟨k, o, none⟩ = false := by
  rw [h.cells.2 k o hl hk]; exact hf

theorem rnd_FW {x : Nat} (h : x < 2 ^ 32) (c : Int) : FW (rnd x c).2 := by
  refine ⟨?_, rnd_fin x c⟩
  unfold rnd; split
  · exact show (0 : Nat) < 2 ^ 32 by decide
  · split
    · exact show (0 : Nat) < 2 ^ 32 by decide
    · exact h
theorem Rnd.lt32 {q : Rat} {r : Nat} (h : Rnd S q r) : r < 2 ^ 32 := h.lt S_good
theorem addM_FW {x y : Nat} (hx : fin S x = true) (hy : fin S y = true) (c : Int) : FW (addM x y c).2 := rnd_FW (Rnd.lt32 (adds_eq hx hy).2) c
theorem subM_FW {x y : Nat} (hx : fin S x = true) (hy : fin S y = true) (c : Int) : FW (subM x y c).2 := rnd_FW (Rnd.lt32 (subs_eq hx hy).2) c
theorem mulM_FW {x y : Nat} (hx : fin S x = true) (hy : fin S y = true) (c : Int) : FW (mulM x y c).2 := rnd_FW (Rnd.lt32 (muls_eq hx hy).2) c
theorem divM_FW {x y : Nat} (hx : fin S x = true) (hy : fin S y = true) (c : Int) : FW (divM x y c).2 := by
  cases h0 : isZ y with
  | true => rw [divM_zero x c h0]; exact ⟨show (0 : Nat) < 2 ^ 32 by decide, fin0⟩
  | false =>
    rw [divM_other x c h0]
    exact rnd_FW (Rnd.lt32 (divs_eq hx hy (fun hz => by rw [(isZ_iff hy).2 hz] at h0; cases h0)).2) c

/-- 'dot'. -/
def dotM (v0 v1 v2 w0 w1 w2 : Nat) (c : Int) : Int × Nat :=
  let r0 := mulM v0 w0 c
  let r1 := mulM v1 w1 r0.1
  let s1 := addM r0.2 r1.2 r1.1
  let r2 := mulM v2 w2 s1.1
  addM s1.2 r2.2 r2.1
abbrev V3 (x y z : Nat) : Value := .agg #[.float .f32 x, .float .f32 y, .float .f32 z]

theorem mulM_fin (x y : Nat) (c : Int) : fin S (mulM x y c).2 = true := rnd_fin _ _
abbrev T4 (a0 a1 b0 b1 c0 c1 d0 d1 : Nat) : Value := .agg #[.complex .f32 a0 a1, .complex .f32 b0 b1, .complex .f32 c0 c1, .complex .f32 d0 d1]
/-- A table: the code, the parts of the four entries. -/
structure C8 where
  c : Int
  a0 : Nat
  a1 : Nat
  b0 : Nat
  b1 : Nat
  c0 : Nat
  c1 : Nat
  d0 : Nat
  d1 : Nat
abbrev C8.val (t : C8) : Value := T4 t.a0 t.a1 t.b0 t.b1 t.c0 t.c1 t.d0 t.d1
abbrev ng (x : Nat) : Nat := Op.negFloat .f32 x

/-- 'ofParts'. -/
def ofPartsM (p x y z : Nat) (c : Int) : C8 :=
  let r1 := zM p (ng z) c
  let r2 := zM (ng y) (ng x) r1.1
  let r3 := zM y (ng x) r2.1
  let r4 := zM p z r3.1
  ⟨r4.1, r1.2.1, r1.2.2, r2.2.1, r2.2.2, r3.2.1, r3.2.2, r4.2.1, r4.2.2⟩
theorem FW.ng {x : Nat} (h : FW x) : fin S (ng x) = true := (ng_fin h.1 h.2).1
set_option maxHeartbeats 400000 in
theorem ofParts_c (b : Nat) (c : Int) (p x y z : Nat) (w : World) (hp : FW p) (hx : FW x) (hy : FW y) (hz : FW z) (hA : At b c w) :
    Calls Tryz.prog 105 #[.pointer (some ⟨b, 0, none⟩), .agg #[.float .f32 p, .float .f32 x, .float .f32 y, .float .f32 z]] w fun e w' => e = .returned (ofPartsM p x y z c).val ∧ Ext b (ofPartsM p x y z c).c w w' := by
  have hlt := hA.lt
  go_enter Tryz.func105, Tryz.ntmps105
  go_wp2_with fail
  go_quiet (fail)
  go_wp2_with fail
  refine (z_c b _ _ _ _ hp.2 hz.ng (by repeat (with_reducible first | exact hA | apply At.set | apply At.alloc | apply At.drew | apply At.drewN))).mono ?_; rintro e w' ⟨rfl, rfl⟩
  go_wp2_with fail
  refine (z_c b _ _ _ _ hy.ng hx.ng (by repeat (with_reducible first | exact hA | apply At.set | apply At.alloc | apply At.drew | apply At.drewN))).mono ?_; rintro e w' ⟨rfl, rfl⟩
  go_wp2_with fail
  refine (z_c b _ _ _ _ hy.2 hx.ng (by repeat (with_reducible first | exact hA | apply At.set | apply At.alloc | apply At.drew | apply At.drewN))).mono ?_; rintro e w' ⟨rfl, rfl⟩
  go_wp2_with fail
  refine (z_c b _ _ _ _ hp.2 hz.2 (by repeat (with_reducible first | exact hA | apply At.set | apply At.alloc | apply At.drew | apply At.drewN))).mono ?_; rintro e w' ⟨rfl, rfl⟩
  go_wp2
  go_returns
  refine ⟨rfl, ?_⟩
  repeat (with_reducible first | apply Ext.drew | apply Ext.drewN | apply Ext.alloc)
  exact (Ext.refl hA).set _

end Go.Proofs.YtmbjomjpnfnbkaaGreat
