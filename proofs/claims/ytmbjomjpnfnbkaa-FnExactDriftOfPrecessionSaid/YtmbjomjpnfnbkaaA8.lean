/-
  Walks of the code of a field's arguments, of what is told of a result and its code, and of the program's StepOfField.
-/
import Derived.Test.YtmbjomjpnfnbkaaA5
import Derived.Test.YtmbjomjpnfnbkaaA7
set_option linter.unusedSimpArgs false
set_option linter.unusedVariables false
namespace Go.Proofs.Ytmbjomjpnfnbkaa
open Go.RowKit Flt

def fcode (v n s i : Bool) : Int := if (v && n && s) = true then (if i = true then 0 else 2) else 1
theorem ret_int {k : IntKind} {a b : Int} (h : a = b) : Ending.returned (.int k a) = .returned (.int k b) := by rw [h]

set_option maxHeartbeats 1000000 in
theorem fieldCode_c (x y z : Nat) (B o : Nat) (xs : List Nat) (cp : Nat) (p q r s : Nat) (is : Bool) (w : World) (hlen : xs.length ≤ 9223372036854775807) (hc : ∀ j, j < xs.length → w.cell? ⟨B, o + j, none⟩ = some (.float .f32 (xs.getD j 0))) :
    Calls Try.prog 78 #[V3 x y z, .slice (some ⟨B, o, none⟩) xs.length cp, Sp p q r s, .bool is] w fun e w' => e = .returned (.int .i64 (fcode (fin S x && fin S y && fin S z) (xs.all (fin S)) (fin S p && fin S q && (fin S r && fin S s)) is)) ∧ New w w' := by
  have Hc := hid hc
  clear hc
  generalize hv : (fin S x && fin S y && fin S z) = v
  generalize hn : xs.all (fin S) = n
  generalize hs : (fin S p && fin S q && (fin S r && fin S s)) = t
  have Hv := hid hv
  have Hn := hid hn
  have Hs := hid hs
  clear hv hn hs
  have first (w0 : World) (h0 : New w w0) : ∀ j, j < xs.length → w0.cell? ⟨B, o + j, none⟩ = some (.float .f32 (xs.getD j 0)) := fun j hj => h0.cell_at (Hc.out j hj)
  have First := hid first
  clear first
  cases v with
  | false =>
    go_enter Try.func78, Try.ntmps78
    go_wp2_with fail
    refine (isVector_c x y z _).mono ?_; rintro e w1 ⟨rfl, hN⟩; rw [Hv.out]
    go_wp2
    go_ret
    exact ⟨rfl, (((New.refl w).alloc _).alloc _).trans hN⟩
  | true =>
    cases n with
    | false =>
      go_enter Try.func78, Try.ntmps78
      go_wp2_with fail
      refine (isVector_c x y z _).mono ?_; rintro e w1 ⟨rfl, hN⟩; rw [Hv.out]
      have hN1 := (((New.refl w).alloc _).alloc _).trans hN
      go_wp2_with fail
      refine (areNum_c B o xs cp _ hlen (First.out _ hN1)).mono ?_; rintro e w2 ⟨rfl, hN2⟩; rw [Hn.out]
      go_wp2
      go_ret
      exact ⟨rfl, hN1.trans hN2⟩
    | true =>
      cases t with
      | false =>
        go_enter Try.func78, Try.ntmps78
        go_wp2_with fail
        refine (isVector_c x y z _).mono ?_; rintro e w1 ⟨rfl, hN⟩; rw [Hv.out]
        have hN1 := (((New.refl w).alloc _).alloc _).trans hN
        go_wp2_with fail
        refine (areNum_c B o xs cp _ hlen (First.out _ hN1)).mono ?_; rintro e w2 ⟨rfl, hN2⟩; rw [Hn.out]
        have e0 := (hN.trans hN2).cell_at (k := w.heap.size + 1) (o := 0) (v := .complex .f32 p q) (by go_simp)
        have e1 := (hN.trans hN2).cell_at (k := w.heap.size + 1) (o := 1) (v := .complex .f32 r s) (by go_simp)
        go_wp2_with fail
        refine (isSpinor_c p q r s _).mono ?_; rintro e w3 ⟨rfl, hN3⟩; rw [Hs.out]
        go_wp2
        go_ret
        exact ⟨rfl, (hN1.trans hN2).trans hN3⟩
      | true =>
        cases is with
        | false =>
          go_enter Try.func78, Try.ntmps78
          go_wp2_with fail
          refine (isVector_c x y z _).mono ?_; rintro e w1 ⟨rfl, hN⟩; rw [Hv.out]
          have hN1 := (((New.refl w).alloc _).alloc _).trans hN
          go_wp2_with fail
          refine (areNum_c B o xs cp _ hlen (First.out _ hN1)).mono ?_; rintro e w2 ⟨rfl, hN2⟩; rw [Hn.out]
          have e0 := (hN.trans hN2).cell_at (k := w.heap.size + 1) (o := 0) (v := .complex .f32 p q) (by go_simp)
          have e1 := (hN.trans hN2).cell_at (k := w.heap.size + 1) (o := 1) (v := .complex .f32 r s) (by go_simp)
          go_wp2_with fail
          refine (isSpinor_c p q r s _).mono ?_; rintro e w3 ⟨rfl, hN3⟩; rw [Hs.out]
          go_wp2
          go_ret
          exact ⟨rfl, (hN1.trans hN2).trans hN3⟩
        | true =>
          go_enter Try.func78, Try.ntmps78
          go_wp2_with fail
          refine (isVector_c x y z _).mono ?_; rintro e w1 ⟨rfl, hN⟩; rw [Hv.out]
          have hN1 := (((New.refl w).alloc _).alloc _).trans hN
          go_wp2_with fail
          refine (areNum_c B o xs cp _ hlen (First.out _ hN1)).mono ?_; rintro e w2 ⟨rfl, hN2⟩; rw [Hn.out]
          have e0 := (hN.trans hN2).cell_at (k := w.heap.size + 1) (o := 0) (v := .complex .f32 p q) (by go_simp)
          have e1 := (hN.trans hN2).cell_at (k := w.heap.size + 1) (o := 1) (v := .complex .f32 r s) (by go_simp)
          go_wp2_with fail
          refine (isSpinor_c p q r s _).mono ?_; rintro e w3 ⟨rfl, hN3⟩; rw [Hs.out]
          go_wp2
          go_ret
          exact ⟨rfl, (hN1.trans hN2).trans hN3⟩

/-- What is told of a table and its code. -/
def toldC (t : C8) : C8 := if t.c = 0 then t else ⟨t.c, 0, 0, 0, 0, 0, 0, 0, 0⟩
abbrev C8.told (t : C8) : Value := .tuple #[t.val, .int .i64 t.c]

set_option maxHeartbeats 400000 in
theorem toldT_c (b : Nat) (t : C8) (w : World) (hA : At b t.c w) :
    Calls Try.prog 68 #[.pointer (some ⟨b, 0, none⟩), t.val] w fun e w' => e = .returned (toldC t).told ∧ New w w' := by
  have hlt := hA.lt
  obtain ⟨c, a0, a1, b0, b1, c0, c1, d0, d1⟩ := t
  have hc := hA.1
  simp only at hc
  by_cases h0 : c = 0
  · subst h0
    have hR : (toldC ⟨0, a0, a1, b0, b1, c0, c1, d0, d1⟩).told = .tuple #[T4 a0 a1 b0 b1 c0 c1 d0 d1, .int .i64 0] := rfl
    have HR := hid hR
    clear hR
    go_enter Try.func68, Try.ntmps68
    go_wp2
    refine bodyPost_ret (v := .tuple #[T4 a0 a1 b0 b1 c0 c1 d0 d1, .int .i64 0]) (by simp [results, Try.results68, go_sem]) rfl ⟨by rw [HR.out], ?_⟩
    exact ((New.refl w).alloc _).alloc _
  · have hR : (toldC ⟨c, a0, a1, b0, b1, c0, c1, d0, d1⟩).told = .tuple #[T4 0 0 0 0 0 0 0 0, .int .i64 c] := by unfold toldC; rw [if_neg h0]
    have HR := hid hR
    have h1 : (c != 0) = true := by simpa using h0
    have e3 : ∀ o1 o2 o3, (((w.alloc o1).alloc o2).alloc o3).cell? ⟨b, 0, none⟩ = some (.int .i64 c) := fun o1 o2 o3 => (((hA.alloc o1).alloc o2).alloc o3).1
    clear hR h0
    go_enter Try.func68, Try.ntmps68
    go_wp2
    go_region
    all_goals
      go_wp2
      refine bodyPost_ret (v := .tuple #[T4 0 0 0 0 0 0 0 0, .int .i64 c]) (by simp [results, Try.results68, go_sem]) rfl ⟨by rw [HR.out], ?_⟩
      exact ((((New.refl w).alloc _).alloc _).alloc _).drew

theorem cell_alloc {w : World} {k o : Nat} {v : Value} (hv : w.cell? ⟨k, o, none⟩ = some v) (b : Obj) : (w.alloc b).cell? ⟨k, o, none⟩ = some v := by
  rw [World.cell?_alloc_lt _ _ _ (cell_lt hv)]; exact hv
theorem frozen_alloc {w : World} {k o : Nat} (hl : k < w.heap.size) (hf : w.frozen? ⟨k, o, none⟩ = false) (b : Obj) : (w.alloc b).frozen? ⟨k, o, none⟩ = false := by
  rw [World.frozen?_alloc_old _ _ _ (by show k ≠ w.heap.size; omega)]; exact hf
/-- A call that turned a cell of the call's own alone. -/
theorem New.ext {b : Nat} {c : Int} {w w' w'' : World} {o : Obj} (h : New w w') (k : Ext b c (w'.alloc o) w'') (hb : w.heap.size ≤ b) : New w w'' :=
  ⟨k.os.trans h.os, k.tape.trans h.tape, k.output.trans h.output, by have := k.size; have := h.size; simp at *; omega, fun i hi => by
    have h1 := h.size
    rw [k.block i (by simp; omega) (by omega), Below.heap_alloc _ _ _ (by omega)]; exact h.block i hi⟩
theorem At.new (w : World) (c : Int) (T : TypeId) : At w.heap.size c (w.alloc (.cells #[.int .i64 c] T)) := ⟨by go_simp, by go_simp⟩

def isFin4 (x y z h : Nat) : Bool := fin S x && fin S y && fin S z && fin S h
def bad8 (c : Int) : C8 := ⟨c, 0, 0, 0, 0, 0, 0, 0, 0⟩
def stepR (x y z h : Nat) : C8 := if isFin4 x y z h = true then toldC (stepM x y z h 0) else bad8 1
theorem fcode_step (x y z h : Nat) : fcode (fin S x && fin S y && fin S z) ([h].all (fin S)) (fin S 0 && fin S 0 && (fin S 0 && fin S 0)) true = if isFin4 x y z h = true then 0 else 1 := by
  unfold fcode isFin4; rw [fin0]; simp [Bool.and_assoc]

set_option maxHeartbeats 1000000 in
theorem stepOfField_c (x y z h : Nat) (w : World) (hx : x < 2 ^ 32) (hy : y < 2 ^ 32) (hz : z < 2 ^ 32) (hh : h < 2 ^ 32) :
    Calls Try.prog 29 #[V3 x y z, .float .f32 h] w fun e w' => e = .returned (stepR x y z h).told ∧ New w w' := by
  cases hf : isFin4 x y z h with
  | false =>
    have hR : stepR x y z h = bad8 1 := if_neg (by simp [hf])
    have HR := hid hR
    have HC := hid (fcode_step x y z h)
    have HF := hid hf
    clear hR hf hx hy hz hh
    go_enter Try.func29, Try.ntmps29
    go_wp2_with fail
    refine (fieldCode_c x y z _ 0 [h] 1 _ _ _ _ true _ (by simp) (fun j hj => ?_)).mono ?_
    · have : j = 0 := by simp at hj; omega
      subst this; go_simp
    · rintro e w1 ⟨rfl, hN⟩
      rw [HC.out, HF.out]
      have hs := hN.size
      simp at hs
      have r0 := hN.cell_at (k := w.heap.size + 1) (o := 0) (v := .complex .f32 0 0) (by go_simp)
      have r1 := hN.cell_at (k := w.heap.size + 1) (o := 1) (v := .complex .f32 0 0) (by go_simp)
      have r2 := hN.cell_at (k := w.heap.size + 1) (o := 2) (v := .complex .f32 0 0) (by go_simp)
      have r3 := hN.cell_at (k := w.heap.size + 1) (o := 3) (v := .complex .f32 0 0) (by go_simp)
      have q0 := hN.frozen_at (k := w.heap.size + 1) (o := 0) (by simp) (by go_simp)
      have q1 := hN.frozen_at (k := w.heap.size + 1) (o := 1) (by simp) (by go_simp)
      have q2 := hN.frozen_at (k := w.heap.size + 1) (o := 2) (by simp) (by go_simp)
      have q3 := hN.frozen_at (k := w.heap.size + 1) (o := 3) (by simp) (by go_simp)
      go_wp2
      refine bodyPost_ret (v := .tuple #[T4 0 0 0 0 0 0 0 0, .int .i64 1]) (by simp [results, Try.results29, go_sem, r0, r1, r2, r3]) rfl ⟨by rw [HR.out]; rfl, ?_⟩
      have g1 : w.heap.size ≤ w.heap.size + 1 := Nat.le_succ _
      refine New.set (p := ⟨w.heap.size + 1, 3, none⟩) ?_ g1 _
      refine New.set (p := ⟨w.heap.size + 1, 2, none⟩) ?_ g1 _
      refine New.set (p := ⟨w.heap.size + 1, 1, none⟩) ?_ g1 _
      refine New.set (p := ⟨w.heap.size + 1, 0, none⟩) ?_ g1 _
      exact ((((New.refl w).alloc _).alloc _).alloc _).trans hN
  | true =>
    have hR : stepR x y z h = toldC (stepM x y z h 0) := if_pos hf
    have HR := hid hR
    have HC := hid (fcode_step x y z h)
    have HF := hid hf
    simp only [isFin4, Bool.and_eq_true] at hf
    have fx : FW x := ⟨hx, hf.1.1.1⟩
    have fy : FW y := ⟨hy, hf.1.1.2⟩
    have fz : FW z := ⟨hz, hf.1.2⟩
    have fh : FW h := ⟨hh, hf.2⟩
    clear hR hf hx hy hz hh
    go_enter Try.func29, Try.ntmps29
    go_wp2_with fail
    refine (fieldCode_c x y z _ 0 [h] 1 _ _ _ _ true _ (by simp) (fun j hj => ?_)).mono ?_
    · have : j = 0 := by simp at hj; omega
      subst this; go_simp
    · rintro e w1 ⟨rfl, hN⟩
      rw [HC.out, HF.out]
      have hs := hN.size
      simp at hs
      have r0 := hN.cell_at (k := w.heap.size + 1) (o := 0) (v := .complex .f32 0 0) (by go_simp)
      have r1 := hN.cell_at (k := w.heap.size + 1) (o := 1) (v := .complex .f32 0 0) (by go_simp)
      have r2 := hN.cell_at (k := w.heap.size + 1) (o := 2) (v := .complex .f32 0 0) (by go_simp)
      have r3 := hN.cell_at (k := w.heap.size + 1) (o := 3) (v := .complex .f32 0 0) (by go_simp)
      have q0 := hN.frozen_at (k := w.heap.size + 1) (o := 0) (by simp) (by go_simp)
      have q1 := hN.frozen_at (k := w.heap.size + 1) (o := 1) (by simp) (by go_simp)
      have q2 := hN.frozen_at (k := w.heap.size + 1) (o := 2) (by simp) (by go_simp)
      have q3 := hN.frozen_at (k := w.heap.size + 1) (o := 3) (by simp) (by go_simp)
      have v0 := hN.cell_at (k := w.heap.size) (o := 0) (v := .float .f32 x) (by go_simp)
      have v0' := cell_alloc v0
      have v1 := hN.cell_at (k := w.heap.size) (o := 1) (v := .float .f32 y) (by go_simp)
      have v1' := cell_alloc v1
      have v2 := hN.cell_at (k := w.heap.size) (o := 2) (v := .float .f32 z) (by go_simp)
      have v2' := cell_alloc v2
      go_wp2_with fail
      refine (step_c w1.heap.size 0 x y z h _ fx fy fz fh (At.new _ _ _)).mono ?_
      rintro e w2 ⟨rfl, hE⟩
      have r0' := hE.cell_at (cell_alloc r0 _) (by omega)
      have r1' := hE.cell_at (cell_alloc r1 _) (by omega)
      have r2' := hE.cell_at (cell_alloc r2 _) (by omega)
      have r3' := hE.cell_at (cell_alloc r3 _) (by omega)
      have q0' := hE.frozen_at (k := w.heap.size + 1) (o := 0) (by simp; omega) (frozen_alloc (by omega) q0 _) (by omega)
      have q1' := hE.frozen_at (k := w.heap.size + 1) (o := 1) (by simp; omega) (frozen_alloc (by omega) q1 _) (by omega)
      have q2' := hE.frozen_at (k := w.heap.size + 1) (o := 2) (by simp; omega) (frozen_alloc (by omega) q2 _) (by omega)
      have q3' := hE.frozen_at (k := w.heap.size + 1) (o := 3) (by simp; omega) (frozen_alloc (by omega) q3 _) (by omega)
      have hs2 := hE.size
      simp at hs2
      go_wp2_with fail
      refine (toldT_c w1.heap.size _ _ hE.at_).mono ?_
      rintro e w3 ⟨rfl, hN3⟩
      have r0'' := hN3.cell_at r0'
      have r1'' := hN3.cell_at r1'
      have r2'' := hN3.cell_at r2'
      have r3'' := hN3.cell_at r3'
      have q0'' := hN3.frozen_at (k := w.heap.size + 1) (o := 0) (by omega) q0'
      have q1'' := hN3.frozen_at (k := w.heap.size + 1) (o := 1) (by omega) q1'
      have q2'' := hN3.frozen_at (k := w.heap.size + 1) (o := 2) (by omega) q2'
      have q3'' := hN3.frozen_at (k := w.heap.size + 1) (o := 3) (by omega) q3'
      rw [← HR.out]
      go_wp2
      refine bodyPost_ret (v := (stepR x y z h).told) (by simp [results, Try.results29, go_sem, r0'', r1'', r2'', r3'']) rfl ⟨rfl, ?_⟩
      have g1 : w.heap.size ≤ w.heap.size + 1 := Nat.le_succ _
      refine New.set (p := ⟨w.heap.size + 1, 3, none⟩) ?_ g1 _
      refine New.set (p := ⟨w.heap.size + 1, 2, none⟩) ?_ g1 _
      refine New.set (p := ⟨w.heap.size + 1, 1, none⟩) ?_ g1 _
      refine New.set (p := ⟨w.heap.size + 1, 0, none⟩) ?_ g1 _
      refine New.trans ?_ hN3
      have hW1 : New w w1 := ((((New.refl w).alloc _).alloc _).alloc _).trans hN
      exact hW1.ext hE (by omega)
end Go.Proofs.Ytmbjomjpnfnbkaa
