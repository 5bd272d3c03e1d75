/-
  Walks of the reference's functions that take the sign off a zero.
-/
import Derived.Test.YtmbjomjpnfnbkaaGreatP0
import Derived.Test.YtmbjomjpnfnbkaaGreatA8
set_option linter.unusedSimpArgs false
set_option linter.unusedVariables false
namespace Go.Proofs.YtmbjomjpnfnbkaaGreat
open Go.RowKit Flt

theorem stored_own {P : Program} {w : World} {a : Addr} {v : Value} {m : Mode} (h : (w.cell? a).isSome = true) (hf : w.frozen? a = false) : stored P w a v m = .ok () (w.setCell a v) := by
  unfold stored
  cases hc : w.cell? a with
  | none => rw [hc] at h; cases h
  | some u => simp [hf]
theorem map_isSome {o : Option Value} (h : o.isSome = true) (v : Value) : o.map (fun _ => v) = some v := by
  cases o with
  | none => cases h
  | some u => rfl
theorem isSome_setCell (w : World) (a b : Addr) (v : Value) : ((w.setCell a v).cell? b).isSome = (w.cell? b).isSome := by
  by_cases h : a = b
  · subst h; rw [cell?_setCell_eq]; cases w.cell? a <;> rfl
  · rw [World.cell?_setCell_other _ _ _ _ h]
theorem New.some {w w' : World} (h : New w w') {k : Nat} (hl : k < w.heap.size) {n : Nat} (hs : ∀ o, o < n → (w.cell? ⟨k, o, none⟩).isSome = true) : ∀ o, o < n → (w'.cell? ⟨k, o, none⟩).isSome = true := by
  intro o ho
  have := hs o ho
  cases hc : w.cell? ⟨k, o, none⟩ with
  | none => rw [hc] at this; cases this
  | some v => rw [h.cell_at hc]; rfl
theorem New.soft {w w' : World} (h : New w w') {k : Nat} (hl : k < w.heap.size) (hs : ∀ o, w.frozen? ⟨k, o, none⟩ = false) : ∀ o, w'.frozen? ⟨k, o, none⟩ = false :=
  fun o => h.frozen_at hl (hs o)

theorem l00Float_c (x : Nat) (w : World) :
    Calls Tryz.prog 98 #[.float .f32 x] w fun e w' => e = .returned (.float .f32 (zn x)) ∧ w = w' := by
  cases hz : isZ x with
  | true =>
    have hzn : zn x = 0 := if_pos hz
    rw [hzn]
    have hc : (FloatKind.f32.format.order x 0 == some .eq) = true := hz
    clear hz hzn
    go_enter Tryz.func98, Tryz.ntmps98
    go_wp2
    go_ret; exact ⟨rfl, rfl⟩
  | false =>
    have hzn : zn x = x := if_neg (by simp [hz])
    rw [hzn]
    have hc : (FloatKind.f32.format.order x 0 == some .eq) = false := hz
    clear hz hzn
    go_enter Tryz.func98, Tryz.ntmps98
    go_wp2
    go_ret; exact ⟨rfl, rfl⟩

theorem l00Complex_c (x y : Nat) (w : World) :
    Calls Tryz.prog 69 #[.complex .f32 x y] w fun e w' => e = .returned (.complex .f32 (zn x) (zn y)) ∧ w = w' := by
  go_enter Tryz.func69, Tryz.ntmps69
  go_wp2_with fail
  refine (l00Float_c x _).mono ?_; rintro e w' ⟨rfl, rfl⟩
  go_wp2_with fail
  refine (l00Float_c y _).mono ?_; rintro e w' ⟨rfl, rfl⟩
  go_wp2
  go_ret; exact ⟨rfl, rfl⟩

theorem l00Spinor_c (p q r s : Nat) (w : World) :
    Calls Tryz.prog 46 #[Sp p q r s] w fun e w' => e = .returned (Sp (zn p) (zn q) (zn r) (zn s)) ∧ New w w' := by
  go_enter Tryz.func46, Tryz.ntmps46
  go_wp2
  go_region_held3 (fun w' => w'.cell? ⟨w.heap.size, 0, none⟩ = some (.complex .f32 p q) ∧ w'.cell? ⟨w.heap.size, 1, none⟩ = some (.complex .f32 r s)) ((refine ⟨?_, ?_⟩ <;> go_simp))
    (first | (go_at_call 69; refine (l00Complex_c _ _ _).mono ?_; rintro e w' ⟨rfl, rfl⟩))
  all_goals
    rename_i hh; clear hh
    go_wp2
    refine bodyPost_ret (v := Sp (zn p) (zn q) (zn r) (zn s)) (by simp [results, Tryz.results46, go_sem]) rfl ⟨rfl, ?_⟩
    exact (((New.refl w).alloc _).alloc _).drew
attribute [local go_sem] isSome_setCell
attribute [-go_sem] stored
attribute [local go_sem] stored_own
set_option maxHeartbeats 1000000 in
theorem l00Turn_c (a0 a1 b0 b1 c0 c1 d0 d1 : Nat) (w : World) :
    Calls Tryz.prog 21 #[T4 a0 a1 b0 b1 c0 c1 d0 d1] w fun e w' => e = .returned (T4 (zn a0) (zn a1) (zn b0) (zn b1) (zn c0) (zn c1) (zn d0) (zn d1)) ∧ New w w' := by
  go_enter Tryz.func21, Tryz.ntmps21
  go_wp2
  have i1 : ∀ o, o < 4 → (((w.alloc (Obj.cells #[.complex .f32 a0 a1, .complex .f32 b0 b1, .complex .f32 c0 c1, .complex .f32 d0 d1] 29)).alloc (Obj.cells #[.complex .f32 0 0, .complex .f32 0 0, .complex .f32 0 0, .complex .f32 0 0] 29)).cell? ⟨w.heap.size + 1, o, none⟩).isSome = true := by
    intro o ho
    match o, ho with
    | 0, _ => go_simp
    | 1, _ => go_simp
    | 2, _ => go_simp
    | 3, _ => go_simp
  go_region_held3 (fun w' => w'.cell? ⟨w.heap.size, 0, none⟩ = some (.complex .f32 a0 a1) ∧ w'.cell? ⟨w.heap.size, 1, none⟩ = some (.complex .f32 b0 b1) ∧ w'.cell? ⟨w.heap.size, 2, none⟩ = some (.complex .f32 c0 c1) ∧ w'.cell? ⟨w.heap.size, 3, none⟩ = some (.complex .f32 d0 d1) ∧ (∀ o, o < 4 → (w'.cell? ⟨w.heap.size + 1, o, none⟩).isSome = true) ∧ (∀ o, w'.frozen? ⟨w.heap.size + 1, o, none⟩ = false) ∧ w.heap.size + 2 ≤ w'.heap.size) (((repeat' apply And.intro) <;> (first | (with_reducible assumption) | omega | (simp; omega) | (go_simp; done) | (intro o ho; go_simp; done) | (intro o; go_simp; done))))
    (first | (go_at_call 46; refine (l00Spinor_c _ _ _ _ _).mono ?_; rintro e w1 ⟨rfl, hN⟩; go_split_ands; have e0 := hN.cell_at (k := w.heap.size) (o := 0) (v := .complex .f32 a0 a1) (by go_simp); have e1 := hN.cell_at (k := w.heap.size) (o := 1) (v := .complex .f32 b0 b1) (by go_simp); have e2 := hN.cell_at (k := w.heap.size) (o := 2) (v := .complex .f32 c0 c1) (by go_simp); have e3 := hN.cell_at (k := w.heap.size) (o := 3) (v := .complex .f32 d0 d1) (by go_simp); have hs1 := hN.some (k := w.heap.size + 1) (n := 4) (by omega) (by with_reducible assumption); have hs2 := hN.soft (k := w.heap.size + 1) (by omega) (by with_reducible assumption); have hsz := hN.size))
  all_goals
    rename_i hh; clear hh
    go_wp2
    refine bodyPost_ret (v := T4 (zn a0) (zn a1) (zn b0) (zn b1) (zn c0) (zn c1) (zn d0) (zn d1)) (by simp [results, Tryz.results21, go_sem, map_isSome, *]) rfl ⟨rfl, ?_⟩
    have g1 : w.heap.size ≤ w.heap.size + 1 := Nat.le_succ _
    refine New.set (p := ⟨w.heap.size + 1, 3, none⟩) ?_ g1 _
    refine New.set (p := ⟨w.heap.size + 1, 2, none⟩) ?_ g1 _
    refine New.set (p := ⟨w.heap.size + 1, 1, none⟩) ?_ g1 _
    refine New.set (p := ⟨w.heap.size + 1, 0, none⟩) ?_ g1 _
    refine New.trans ?_ (by with_reducible assumption)
    refine New.trans ?_ (by with_reducible assumption)
    exact (((New.refl w).alloc _).alloc _).drew
end Go.Proofs.YtmbjomjpnfnbkaaGreat
