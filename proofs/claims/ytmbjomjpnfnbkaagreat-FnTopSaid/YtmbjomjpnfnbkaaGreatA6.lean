/-
  Walks of the tests that all elements of a list are numbers.
-/
import Derived.Test.YtmbjomjpnfnbkaaGreatA4
set_option linter.unusedSimpArgs false
set_option linter.unusedVariables false
namespace Go.Proofs.YtmbjomjpnfnbkaaGreat
open Go.RowKit Flt

/-- From w to w' nothing but draws. -/
def Drw (w w' : World) : Prop := ∃ n, w' = w.drewN n
theorem Drw.refl (w : World) : Drw w w := ⟨0, rfl⟩
theorem Drw.drew {w w' : World} (h : Drw w w') : Drw w w'.drew := by obtain ⟨n, rfl⟩ := h; exact ⟨n + 1, rfl⟩
theorem Drw.drewN {w w' : World} (h : Drw w w') (k : Nat) : Drw w (w'.drewN k) := by obtain ⟨n, rfl⟩ := h; exact ⟨n + k, by rw [World.drewN_drewN]⟩

theorem isNumber_any (x : Nat) (w : World) :
    Calls Tryz.prog 51 #[.float .f32 x] w fun e w' => e = .returned (.bool (fin S x)) ∧ Drw w w' := by
  cases h : nn x with
  | true => exact (isNumber_nn h w).mono fun e w' ⟨h1, h2⟩ => ⟨h1, h2 ▸ Drw.refl w⟩
  | false =>
    obtain ⟨y, hy, hrun⟩ := conv_nan h w
    have hfin : fin S x = false := by
      cases hf : fin S x with
      | false => rfl
      | true => rw [nn_of_fin hf] at h; cases h
    have hord : (FloatKind.f64.format.order y y != some .eq) = true := by
      have : D.order y y = none := by
        unfold Ieee.Format.order
        cases hr : D.read y with
        | nan s t => rfl
        | number s m e => rw [hr] at hy; cases hy
        | infinity s => rw [hr] at hy; cases hy
      show (D.order y y != some .eq) = true
      rw [this]; rfl
    clear h hy
    have hF := hid hfin
    clear hfin
    go_enter Tryz.func51, Tryz.ntmps51
    go_wp2
    go_ret
    exact ⟨ret_bool hF.out.symm, ⟨1, rfl⟩⟩

theorem allNum1_c (x : Nat) (B : Nat) (w : World) (hB : w.cell? ⟨B, 0, none⟩ = some (.func (.func 51) #[] #[])) :
    Calls Tryz.prog 73 #[.float .f32 x, .pointer (some ⟨B, 0, none⟩)] w fun e w' => e = .returned (.bool (!fin S x)) ∧ Drw w w' := by
  go_enter Tryz.func73, Tryz.ntmps73
  go_wp2_with (go_at_call 51; refine (isNumber_any x _).mono ?_; rintro e w' ⟨rfl, n, rfl⟩)
  go_ret
  exact ⟨rfl, ⟨n, rfl⟩⟩

/-- A row of floats in memory. -/
def FRow (w : World) (a : Option Addr) (xs : List Nat) : Prop := ∀ j, j < xs.length → ∃ B o, a = some ⟨B, o, none⟩ ∧ w.cell? ⟨B, o + j, none⟩ = some (.float .f32 (xs.getD j 0))

theorem take_all_succ (xs : List Nat) (k : Nat) (h : k < xs.length) (p : Nat → Bool) : (xs.take (k + 1)).all p = ((xs.take k).all p && p (xs[k]'h)) := by
  rw [List.take_succ_eq_append_getElem h, List.all_append]
  simp

def Found (xs : List Nat) (w : World) (e : Ending) (w' : World) : Prop := (∃ r : Int, e = .returned (.int .i64 r) ∧ (decide (0 ≤ r)) = !xs.all (fin S)) ∧ Drw w w'

set_option maxHeartbeats 400000 in
theorem indexNum_c (B o : Nat) (xs : List Nat) (cp : Nat) (bx : Nat) (w : World) (hlen : xs.length ≤ 9223372036854775807) (hc : ∀ j, j < xs.length → w.cell? ⟨B, o + j, none⟩ = some (.float .f32 (xs.getD j 0))) (hB : w.cell? ⟨bx, 0, none⟩ = some (.func (.func 51) #[] #[])) :
    Calls Tryz.prog 100 #[.slice (some ⟨B, o, none⟩) xs.length cp, .func (.func 73) #[] #[.pointer (some ⟨bx, 0, none⟩)]] w (Found xs w) := by
  have Hc := hid hc
  clear hc
  go_enter Tryz.func100, Tryz.ntmps100
  go_wp2
  go_loopw [5, 8] (fun i q wr => ∃ k : Nat, k ≤ xs.length ∧ q = .int .i64 k ∧ Hid ((xs.take k).all (fin S) = true) ∧ Drw w wr) (fun _ q _ => xs.length - (intOf q).toNat)
  case atStart => exact ⟨0, Nat.zero_le _, rfl, hid rfl, Drw.refl w⟩
  case round =>
    obtain ⟨k, hk, rfl, hall, n, rfl⟩ := hrel
    by_cases hlt : k < xs.length
    · have hcell := Hc.out k hlt
      have hts := hid (take_all_succ xs k hlt (fin S))
      cases hx : fin S xs[k] with
      | true =>
        have hX := hid hx
        clear hx
        go_wp2_with (go_at_call 73; refine (allNum1_c _ bx _ (by simpa using hB)).mono ?_; rintro e w' ⟨rfl, m, rfl⟩; rw [hX.out])
        go_roundw
        case rel => exact ⟨k + 1, by omega, by go_num, hid (by rw [hts.out, hall.out, hX.out]; rfl), ⟨_, rfl⟩⟩
        case measure => simp [intOf]; omega
      | false =>
        have hX := hid hx
        clear hx
        go_wp2_with (go_at_call 73; refine (allNum1_c _ bx _ (by simpa using hB)).mono ?_; rintro e w' ⟨rfl, m, rfl⟩; rw [hX.out])
        go_ret
        refine ⟨⟨_, rfl, ?_⟩, ⟨_, rfl⟩⟩
        have : xs.all (fin S) = false := by
          rw [List.all_eq_false]
          exact ⟨xs[k], List.getElem_mem _, by rw [hX.out]; simp⟩
        rw [this]; simp
    · go_wp2
      go_ret
      refine ⟨⟨_, rfl, ?_⟩, ⟨_, rfl⟩⟩
      have hall' := hall.out
      rw [List.take_of_length_le (by omega)] at hall'
      rw [hall']; rfl

theorem containsNum_c (B o : Nat) (xs : List Nat) (cp : Nat) (bx : Nat) (w : World) (hlen : xs.length ≤ 9223372036854775807) (hc : ∀ j, j < xs.length → w.cell? ⟨B, o + j, none⟩ = some (.float .f32 (xs.getD j 0))) (hB : w.cell? ⟨bx, 0, none⟩ = some (.func (.func 51) #[] #[])) :
    Calls Tryz.prog 72 #[.slice (some ⟨B, o, none⟩) xs.length cp, .func (.func 73) #[] #[.pointer (some ⟨bx, 0, none⟩)]] w fun e w' => e = .returned (.bool (!xs.all (fin S))) ∧ Drw w w' := by
  have Hc := hid hc
  clear hc
  go_enter Tryz.func72, Tryz.ntmps72
  go_wp2_with fail
  refine (indexNum_c B o xs cp bx _ hlen Hc.out hB).mono ?_
  rintro e w' ⟨⟨r, rfl, hr⟩, n, rfl⟩
  have Hr := hid hr
  clear hr
  go_wp2
  go_ret
  exact ⟨ret_bool Hr.out, ⟨n, rfl⟩⟩

/-- New blocks alone. -/
def New (w w' : World) : Prop := Below w.heap.size w w'
theorem New.refl (w : World) : New w w := Below.refl _ _
theorem New.alloc {w w' : World} (h : New w w') (o : Obj) : New w (w'.alloc o) := Below.alloc h h.size o
theorem New.drew {w w' : World} (h : New w w') : New w w'.drew := Below.drew h
theorem New.drewN {w w' : World} (h : New w w') (n : Nat) : New w (w'.drewN n) := ⟨h.os, h.tape, h.output, h.size, h.block⟩
theorem New.trans {a b c : World} (h : New a b) (k : New b c) : New a c := Below.trans h (Below.mono k h.size)
theorem New.set {w w' : World} (h : New w w') {p : Addr} (hp : w.heap.size ≤ p.block) (u : Value) : New w (w'.setCell p u) := Below.setCell h hp u
theorem Drw.new {w w' : World} (h : Drw w w') : New w w' := by obtain ⟨n, rfl⟩ := h; exact (New.refl w).drewN n
theorem cell_lt {w : World} {k o : Nat} {v : Value} (hv : w.cell? ⟨k, o, none⟩ = some v) : k < w.heap.size := by
  unfold World.cell? at hv
  simp only at hv
  apply Classical.byContradiction; intro hc
  rw [Array.getElem?_eq_none (by omega)] at hv
  cases hv
theorem New.cell_at {w w' : World} (h : New w w') {k o : Nat} {v : Value} (hv : w.cell? ⟨k, o, none⟩ = some v) : w'.cell? ⟨k, o, none⟩ = some v := by
  rw [h.cell (p := ⟨k, o, none⟩) (cell_lt hv)]; exact hv
theorem New.frozen_at {w w' : World} (h : New w w') {k o : Nat} (hl : k < w.heap.size) (hf : w.frozen? ⟨k, o, none⟩ = false) : w'.frozen? ⟨k, o, none⟩ = false := by
  rw [h.frozen (p := ⟨k, o, none⟩) hl]; exact hf
theorem New.at_ {b : Nat} {c : Int} {w w' : World} (h : New w w') (hA : At b c w) : At b c w' := ⟨h.cell_at hA.1, h.frozen_at hA.lt hA.2⟩
theorem Ext.new {b : Nat} {c : Int} {w w' w'' : World} (h : Ext b c w w') (k : New w' w'') : Ext b c w w'' :=
  ⟨k.os.trans h.os, k.tape.trans h.tape, k.output.trans h.output, Nat.le_trans h.size k.size, k.at_ h.at_, fun i hi hb => (k.block i (by have := h.size; omega)).trans (h.block i hi hb)⟩

theorem areNum_c (B o : Nat) (xs : List Nat) (cp : Nat) (w : World) (hlen : xs.length ≤ 9223372036854775807) (hc : ∀ j, j < xs.length → w.cell? ⟨B, o + j, none⟩ = some (.float .f32 (xs.getD j 0))) :
    Calls Tryz.prog 50 #[.slice (some ⟨B, o, none⟩) xs.length cp, .func (.func 51) #[] #[]] w fun e w' => e = .returned (.bool (xs.all (fin S))) ∧ New w w' := by
  have Hc := hid hc
  clear hc
  go_enter Tryz.func50, Tryz.ntmps50
  go_wp2_with fail
  refine (containsNum_c B o xs cp _ _ hlen (fun j hj => ?_) ?_).mono ?_
  · have h1 := Hc.out j hj
    rw [World.cell?_alloc_lt _ _ _ (cell_lt h1)]; exact h1
  · go_simp
  rintro e w' ⟨rfl, n, rfl⟩
  go_wp2
  go_ret
  exact ⟨ret_bool (by simp), ((New.refl w).alloc _).drewN n⟩

theorem isVector_c (x y z : Nat) (w : World) :
    Calls Tryz.prog 26 #[V3 x y z] w fun e w' => e = .returned (.bool (fin S x && fin S y && fin S z)) ∧ New w w' := by
  go_enter Tryz.func26, Tryz.ntmps26
  go_wp2_with fail
  refine (areNum_c w.heap.size 0 [x, y, z] 3 _ (by simp) (fun j hj => ?_)).mono ?_
  · have : j = 0 ∨ j = 1 ∨ j = 2 := by simp at hj; omega
    rcases this with rfl | rfl | rfl <;> go_simp
  rintro e w' ⟨rfl, hN⟩
  go_wp2
  go_ret
  exact ⟨ret_bool (by simp [Bool.and_assoc]), ((New.refl w).alloc _).trans hN⟩

theorem isComplex_any (p q : Nat) (w : World) :
    Calls Tryz.prog 48 #[.complex .f32 p q] w fun e w' => e = .returned (.bool (fin S p && fin S q)) ∧ Drw w w' := by
  cases hp : fin S p with
  | true =>
    have Hp := hid hp
    clear hp
    go_enter Tryz.func48, Tryz.ntmps48
    go_wp2_with fail
    refine (isNumber_any p _).mono ?_; rintro e w' ⟨rfl, n, rfl⟩; rw [Hp.out]
    go_wp2_with fail
    refine (isNumber_any q _).mono ?_; rintro e w' ⟨rfl, m, rfl⟩
    go_wp2
    go_ret
    exact ⟨ret_bool (by simp), ⟨_, rfl⟩⟩
  | false =>
    have Hp := hid hp
    clear hp
    go_enter Tryz.func48, Tryz.ntmps48
    go_wp2_with fail
    refine (isNumber_any p _).mono ?_; rintro e w' ⟨rfl, n, rfl⟩; rw [Hp.out]
    go_wp2
    go_ret
    exact ⟨ret_bool (by simp), ⟨_, rfl⟩⟩
end Go.Proofs.YtmbjomjpnfnbkaaGreat
