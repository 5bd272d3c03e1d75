/-
  Walks of the new desks and of the statement's own functions on desks.
-/
import Derived.Test.YtmbjomjpnfnbkaaE1
import Derived.Test.YtmbjomjpnfnbkaaK0
set_option linter.unusedSimpArgs false
set_option linter.unusedVariables false
namespace Go.Proofs.Ytmbjomjpnfnbkaa
open Go.RowKit Flt

/-- The new desk, with its list. -/
abbrev Dk (s : Value) : Value := .agg #[.complex .f32 1065353216 0, .complex .f32 0 0, .complex .f32 0 0, .complex .f32 1065353216 0, .complex .f32 1065353216 0, .complex .f32 0 0, .complex .f32 0 0, .complex .f32 1065353216 0, s]
theorem zn_one : zn 1065353216 = 1065353216 := by decide +kernel
theorem zn_null : zn 0 = 0 := by decide +kernel
theorem nm_one : Nm 1065353216 := ⟨fin_1, zn_one⟩
theorem nm_null : Nm 0 := ⟨fin0, zn_null⟩

theorem unit_c (w : World) : Calls Try.prog 55 #[] w fun e w' => e = .returned (T4 1065353216 0 0 0 0 0 1065353216 0) ∧ New w w' := by
  go_enter Try.func55, Try.ntmps55
  go_wp2
  refine bodyPost_ret (v := T4 1065353216 0 0 0 0 0 1065353216 0) (by simp [results, Try.results55, go_sem]) rfl ⟨rfl, ?_⟩
  repeat (with_reducible first | exact New.refl w | apply New.alloc | apply New.drew)

theorem newDesk_c (w : World) : Calls Try.prog 15 #[] w fun e w' => e = .returned (Dk (.slice none 0 0)) ∧ New w w' := by
  go_enter Try.func15, Try.ntmps15
  go_wp2_with fail
  refine (unit_c _).mono ?_; rintro e w1 ⟨rfl, hN⟩
  obtain ⟨l1, l2, l3⟩ := hN.laws
  go_wp2
  refine bodyPost_ret (v := Dk (.slice none 0 0)) (by simp [results, Try.results15, go_sem, l1, l2, l3]) rfl ⟨rfl, ?_⟩
  refine New.set (p := ⟨w.heap.size, 8, none⟩) ?_ (Nat.le_refl _) _
  refine New.set (p := ⟨w.heap.size, 7, none⟩) ?_ (Nat.le_refl _) _
  refine New.set (p := ⟨w.heap.size, 6, none⟩) ?_ (Nat.le_refl _) _
  refine New.set (p := ⟨w.heap.size, 5, none⟩) ?_ (Nat.le_refl _) _
  refine New.set (p := ⟨w.heap.size, 4, none⟩) ?_ (Nat.le_refl _) _
  refine New.set (p := ⟨w.heap.size, 3, none⟩) ?_ (Nat.le_refl _) _
  refine New.set (p := ⟨w.heap.size, 2, none⟩) ?_ (Nat.le_refl _) _
  refine New.set (p := ⟨w.heap.size, 1, none⟩) ?_ (Nat.le_refl _) _
  refine New.set (p := ⟨w.heap.size, 0, none⟩) ?_ (Nat.le_refl _) _
  exact ((New.refl w).alloc _).trans hN
theorem l11New_c (w : World) : Calls Try.prog 106 #[] w fun e w' => e = .returned (Dk (.slice none 0 0)) ∧ New w w' := by
  go_enter Try.func106, Try.ntmps106
  go_wp2
  refine bodyPost_ret (v := Dk (.slice none 0 0)) (by simp [results, Try.results106, go_sem]) rfl ⟨rfl, ?_⟩
  repeat (with_reducible first | exact New.refl w | apply New.alloc | apply New.drew)
theorem l00NewDesk_c (w : World) : Calls Try.prog 53 #[] w fun e w' => e = .returned (Dk (.slice none 0 0)) ∧ New w w' := by
  go_enter Try.func53, Try.ntmps53
  go_wp2_with fail
  refine (l11New_c _).mono ?_; rintro e w1 ⟨rfl, hN⟩
  obtain ⟨l1, l2, l3⟩ := hN.laws
  go_wp2
  refine bodyPost_ret (v := Dk (.slice none 0 0)) (by simp [results, Try.results53, go_sem, l1, l2, l3]) rfl ⟨rfl, ?_⟩
  refine New.set (p := ⟨w.heap.size, 8, none⟩) ?_ (Nat.le_refl _) _
  refine New.set (p := ⟨w.heap.size, 7, none⟩) ?_ (Nat.le_refl _) _
  refine New.set (p := ⟨w.heap.size, 6, none⟩) ?_ (Nat.le_refl _) _
  refine New.set (p := ⟨w.heap.size, 5, none⟩) ?_ (Nat.le_refl _) _
  refine New.set (p := ⟨w.heap.size, 4, none⟩) ?_ (Nat.le_refl _) _
  refine New.set (p := ⟨w.heap.size, 3, none⟩) ?_ (Nat.le_refl _) _
  refine New.set (p := ⟨w.heap.size, 2, none⟩) ?_ (Nat.le_refl _) _
  refine New.set (p := ⟨w.heap.size, 1, none⟩) ?_ (Nat.le_refl _) _
  refine New.set (p := ⟨w.heap.size, 0, none⟩) ?_ (Nat.le_refl _) _
  exact ((New.refl w).alloc _).trans hN
theorem l00Spinors0_c (w : World) : Calls Try.prog 107 #[.slice none 0 0] w fun e w' => e = .returned (.slice (some ⟨w.heap.size, 0, none⟩) 0 0) ∧ New w w' := by
  go_enter Try.func107, Try.ntmps107
  go_wp2_with fail
  refine wp_loop_rounds 1 ?_; rw [rounds_succ]
  go_wp2
  go_ret
  exact ⟨rfl, (New.refl w).alloc _⟩
attribute [local go_sem] isSome_setCell
attribute [-go_sem] stored
attribute [local go_sem] stored_own
set_option maxHeartbeats 2000000 in
theorem l00Desk_c (w : World) : Calls Try.prog 54 #[Dk (.slice none 0 0)] w fun e w' => (∃ b, e = .returned (Dk (.slice (some ⟨b, 0, none⟩) 0 0))) ∧ New w w' := by
  have H1 : ∀ w, Calls Try.prog 91 #[Sp 1065353216 0 0 0] w fun e w' => e = .returned (Sp 1065353216 0 0 0) ∧ New w w' := fun w => by
    have := l00Spinor_c 1065353216 0 0 0 w; rw [zn_one, zn_null] at this; exact this
  have H2 : ∀ w, Calls Try.prog 91 #[Sp 0 0 1065353216 0] w fun e w' => e = .returned (Sp 0 0 1065353216 0) ∧ New w w' := fun w => by
    have := l00Spinor_c 0 0 1065353216 0 w; rw [zn_one, zn_null] at this; exact this
  have H3 : ∀ w, Calls Try.prog 60 #[T4 1065353216 0 0 0 0 0 1065353216 0] w fun e w' => e = .returned (T4 1065353216 0 0 0 0 0 1065353216 0) ∧ New w w' := fun w => by
    have := l00Turn_c 1065353216 0 0 0 0 0 1065353216 0 w; rw [zn_one, zn_null] at this; exact this
  have G1 := hid H1
  have G2 := hid H2
  have G3 := hid H3
  clear H1 H2 H3
  go_enter Try.func54, Try.ntmps54
  go_wp2
  go_region_held3 (fun w' => w'.cell? ⟨w.heap.size, 0, none⟩ = some (.complex .f32 1065353216 0) ∧ w'.cell? ⟨w.heap.size, 1, none⟩ = some (.complex .f32 0 0) ∧ w'.cell? ⟨w.heap.size, 2, none⟩ = some (.complex .f32 0 0) ∧ w'.cell? ⟨w.heap.size, 3, none⟩ = some (.complex .f32 1065353216 0) ∧ w'.cell? ⟨w.heap.size, 4, none⟩ = some (.complex .f32 1065353216 0) ∧ w'.cell? ⟨w.heap.size, 5, none⟩ = some (.complex .f32 0 0) ∧ w'.cell? ⟨w.heap.size, 6, none⟩ = some (.complex .f32 0 0) ∧ w'.cell? ⟨w.heap.size, 7, none⟩ = some (.complex .f32 1065353216 0) ∧ w'.cell? ⟨w.heap.size, 8, none⟩ = some (.slice none 0 0) ∧ (∀ o, o < 9 → (w'.cell? ⟨w.heap.size + 1, o, none⟩).isSome = true) ∧ (∀ o, w'.frozen? ⟨w.heap.size + 1, o, none⟩ = false) ∧ w.heap.size + 2 ≤ w'.heap.size) (((repeat' apply And.intro) <;> (first | (with_reducible assumption) | omega | (simp; omega) | (go_simp; done) | (intro o ho; go_simp; done) | (intro o; go_simp; done) | (intro o ho; match o, ho with | 0, _ => go_simp | 1, _ => go_simp | 2, _ => go_simp | 3, _ => go_simp | 4, _ => go_simp | 5, _ => go_simp | 6, _ => go_simp | 7, _ => go_simp | 8, _ => go_simp))))
    (first | (go_at_call 91; (with_reducible refine (G1.out _).mono ?_); rintro e wA ⟨rfl, hNA⟩; go_split_ands; have e0 := hNA.cell_at (k := w.heap.size) (o := 0) (v := .complex .f32 1065353216 0) (by with_reducible assumption); have e1 := hNA.cell_at (k := w.heap.size) (o := 1) (v := .complex .f32 0 0) (by with_reducible assumption); have e2 := hNA.cell_at (k := w.heap.size) (o := 2) (v := .complex .f32 0 0) (by with_reducible assumption); have e3 := hNA.cell_at (k := w.heap.size) (o := 3) (v := .complex .f32 1065353216 0) (by with_reducible assumption); have e4 := hNA.cell_at (k := w.heap.size) (o := 4) (v := .complex .f32 1065353216 0) (by with_reducible assumption); have e5 := hNA.cell_at (k := w.heap.size) (o := 5) (v := .complex .f32 0 0) (by with_reducible assumption); have e6 := hNA.cell_at (k := w.heap.size) (o := 6) (v := .complex .f32 0 0) (by with_reducible assumption); have e7 := hNA.cell_at (k := w.heap.size) (o := 7) (v := .complex .f32 1065353216 0) (by with_reducible assumption); have e8 := hNA.cell_at (k := w.heap.size) (o := 8) (v := .slice none 0 0) (by with_reducible assumption); have hs1 := hNA.some (k := w.heap.size + 1) (n := 9) (by omega) (by with_reducible assumption); have hs2 := hNA.soft (k := w.heap.size + 1) (by omega) (by with_reducible assumption); have hsz : w.heap.size + 2 ≤ wA.heap.size := (by have := hNA.size; omega))
           | (go_at_call 91; (with_reducible refine (G2.out _).mono ?_); rintro e wB ⟨rfl, hNB⟩; go_split_ands; have e0 := hNB.cell_at (k := w.heap.size) (o := 0) (v := .complex .f32 1065353216 0) (by with_reducible assumption); have e1 := hNB.cell_at (k := w.heap.size) (o := 1) (v := .complex .f32 0 0) (by with_reducible assumption); have e2 := hNB.cell_at (k := w.heap.size) (o := 2) (v := .complex .f32 0 0) (by with_reducible assumption); have e3 := hNB.cell_at (k := w.heap.size) (o := 3) (v := .complex .f32 1065353216 0) (by with_reducible assumption); have e4 := hNB.cell_at (k := w.heap.size) (o := 4) (v := .complex .f32 1065353216 0) (by with_reducible assumption); have e5 := hNB.cell_at (k := w.heap.size) (o := 5) (v := .complex .f32 0 0) (by with_reducible assumption); have e6 := hNB.cell_at (k := w.heap.size) (o := 6) (v := .complex .f32 0 0) (by with_reducible assumption); have e7 := hNB.cell_at (k := w.heap.size) (o := 7) (v := .complex .f32 1065353216 0) (by with_reducible assumption); have e8 := hNB.cell_at (k := w.heap.size) (o := 8) (v := .slice none 0 0) (by with_reducible assumption); have hs1 := hNB.some (k := w.heap.size + 1) (n := 9) (by omega) (by with_reducible assumption); have hs2 := hNB.soft (k := w.heap.size + 1) (by omega) (by with_reducible assumption); have hsz : w.heap.size + 2 ≤ wB.heap.size := (by have := hNB.size; omega))
           | (go_at_call 60; (with_reducible refine (G3.out _).mono ?_); rintro e wC ⟨rfl, hNC⟩; go_split_ands; have e0 := hNC.cell_at (k := w.heap.size) (o := 0) (v := .complex .f32 1065353216 0) (by with_reducible assumption); have e1 := hNC.cell_at (k := w.heap.size) (o := 1) (v := .complex .f32 0 0) (by with_reducible assumption); have e2 := hNC.cell_at (k := w.heap.size) (o := 2) (v := .complex .f32 0 0) (by with_reducible assumption); have e3 := hNC.cell_at (k := w.heap.size) (o := 3) (v := .complex .f32 1065353216 0) (by with_reducible assumption); have e4 := hNC.cell_at (k := w.heap.size) (o := 4) (v := .complex .f32 1065353216 0) (by with_reducible assumption); have e5 := hNC.cell_at (k := w.heap.size) (o := 5) (v := .complex .f32 0 0) (by with_reducible assumption); have e6 := hNC.cell_at (k := w.heap.size) (o := 6) (v := .complex .f32 0 0) (by with_reducible assumption); have e7 := hNC.cell_at (k := w.heap.size) (o := 7) (v := .complex .f32 1065353216 0) (by with_reducible assumption); have e8 := hNC.cell_at (k := w.heap.size) (o := 8) (v := .slice none 0 0) (by with_reducible assumption); have hs1 := hNC.some (k := w.heap.size + 1) (n := 9) (by omega) (by with_reducible assumption); have hs2 := hNC.soft (k := w.heap.size + 1) (by omega) (by with_reducible assumption); have hsz : w.heap.size + 2 ≤ wC.heap.size := (by have := hNC.size; omega))
           | (go_at_call 107; (with_reducible refine (l00Spinors0_c _).mono ?_); rintro e wE ⟨rfl, hNE⟩; go_split_ands; have e0 := hNE.cell_at (k := w.heap.size) (o := 0) (v := .complex .f32 1065353216 0) (by with_reducible assumption); have e1 := hNE.cell_at (k := w.heap.size) (o := 1) (v := .complex .f32 0 0) (by with_reducible assumption); have e2 := hNE.cell_at (k := w.heap.size) (o := 2) (v := .complex .f32 0 0) (by with_reducible assumption); have e3 := hNE.cell_at (k := w.heap.size) (o := 3) (v := .complex .f32 1065353216 0) (by with_reducible assumption); have e4 := hNE.cell_at (k := w.heap.size) (o := 4) (v := .complex .f32 1065353216 0) (by with_reducible assumption); have e5 := hNE.cell_at (k := w.heap.size) (o := 5) (v := .complex .f32 0 0) (by with_reducible assumption); have e6 := hNE.cell_at (k := w.heap.size) (o := 6) (v := .complex .f32 0 0) (by with_reducible assumption); have e7 := hNE.cell_at (k := w.heap.size) (o := 7) (v := .complex .f32 1065353216 0) (by with_reducible assumption); have e8 := hNE.cell_at (k := w.heap.size) (o := 8) (v := .slice none 0 0) (by with_reducible assumption); have hs1 := hNE.some (k := w.heap.size + 1) (n := 9) (by omega) (by with_reducible assumption); have hs2 := hNE.soft (k := w.heap.size + 1) (by omega) (by with_reducible assumption); have hsz : w.heap.size + 2 ≤ wE.heap.size := (by have := hNE.size; omega)))
  all_goals
    rename_i hh; clear hh
    go_wp2
    refine bodyPost_ret (v := Dk (.slice (some ⟨wC.heap.size, 0, none⟩) 0 0)) (by simp [results, Try.results54, go_sem, map_isSome, *]) rfl ⟨⟨_, rfl⟩, ?_⟩
    refine New.set (p := ⟨w.heap.size + 1, 8, none⟩) ?_ (Nat.le_succ _) _
    refine New.set (p := ⟨w.heap.size + 1, 7, none⟩) ?_ (Nat.le_succ _) _
    refine New.set (p := ⟨w.heap.size + 1, 6, none⟩) ?_ (Nat.le_succ _) _
    refine New.set (p := ⟨w.heap.size + 1, 5, none⟩) ?_ (Nat.le_succ _) _
    refine New.set (p := ⟨w.heap.size + 1, 4, none⟩) ?_ (Nat.le_succ _) _
    refine New.set (p := ⟨w.heap.size + 1, 3, none⟩) ?_ (Nat.le_succ _) _
    refine New.set (p := ⟨w.heap.size + 1, 2, none⟩) ?_ (Nat.le_succ _) _
    refine New.set (p := ⟨w.heap.size + 1, 1, none⟩) ?_ (Nat.le_succ _) _
    refine New.set (p := ⟨w.heap.size + 1, 0, none⟩) ?_ (Nat.le_succ _) _
    exact (((((((New.refl w).alloc _).alloc _).drew).trans hNA).trans hNB).trans hNC).trans hNE
set_option maxHeartbeats 1000000 in
theorem specNewDesk_c (w : World) : Calls Try.prog 14 #[] w fun e w' => (∃ b, e = .returned (Dk (.slice (some ⟨b, 0, none⟩) 0 0))) ∧ New w w' := by
  go_enter Try.func14, Try.ntmps14
  go_wp2_with fail
  refine (l00NewDesk_c _).mono ?_; rintro e w1 ⟨rfl, hN⟩
  obtain ⟨l1, l2, l3⟩ := hN.laws
  go_wp2_with fail
  refine (l00Desk_c _).mono ?_; rintro e w2 ⟨⟨b, rfl⟩, hN2⟩
  obtain ⟨k1, k2, k3⟩ := ((hN.alloc _).trans hN2).laws
  go_wp2
  refine bodyPost_ret (v := Dk (.slice (some ⟨b, 0, none⟩) 0 0)) (by simp [results, Try.results14, go_sem, l1, l2, l3, k1, k2, k3]) rfl ⟨⟨_, rfl⟩, ?_⟩
  refine New.set (p := ⟨w.heap.size, 8, none⟩) ?_ (Nat.le_refl _) _
  refine New.set (p := ⟨w.heap.size, 7, none⟩) ?_ (Nat.le_refl _) _
  refine New.set (p := ⟨w.heap.size, 6, none⟩) ?_ (Nat.le_refl _) _
  refine New.set (p := ⟨w.heap.size, 5, none⟩) ?_ (Nat.le_refl _) _
  refine New.set (p := ⟨w.heap.size, 4, none⟩) ?_ (Nat.le_refl _) _
  refine New.set (p := ⟨w.heap.size, 3, none⟩) ?_ (Nat.le_refl _) _
  refine New.set (p := ⟨w.heap.size, 2, none⟩) ?_ (Nat.le_refl _) _
  refine New.set (p := ⟨w.heap.size, 1, none⟩) ?_ (Nat.le_refl _) _
  refine New.set (p := ⟨w.heap.size, 0, none⟩) ?_ (Nat.le_refl _) _
  exact ((((New.refl w).alloc _).trans hN).alloc _).trans hN2

set_option maxHeartbeats 1000000 in
theorem eqSpinor_c (p q r s : Nat) (w : World) (hp : Nm p) (hq : Nm q) (hr : Nm r) (hs : Nm s) :
    Calls Try.prog 41 #[Sp p q r s, Sp p q r s] w fun e w' => e = .returned (.bool true) ∧ New w w' := by
  have c1 := fun w => run_convert_complex (P := Try.prog) w 22 111 .f32 .f64 p q _ _ (by rw [Try.underlying22]; rfl) Try.underlying111 (cx_conv hp.1 hq.1)
  have c2 := fun w => run_convert_complex (P := Try.prog) w 22 111 .f32 .f64 r s _ _ (by rw [Try.underlying22]; rfl) Try.underlying111 (cx_conv hr.1 hs.1)
  go_enter Try.func41, Try.ntmps41
  go_wp2_with fail
  refine wp_loop_rounds 3 ?_; rw [rounds_succ]
  go_wp2_with fail
  go_region_held3 (fun w' => w'.cell? ⟨w.heap.size, 0, none⟩ = some (.complex .f32 p q) ∧ w'.cell? ⟨w.heap.size + 1, 0, none⟩ = some (.complex .f32 p q)) (((repeat' apply And.intro) <;> (first | (with_reducible assumption) | (go_simp; done))))
    (first | (go_at_call 94; refine (sameComplex_c _ _ _ hp.1 hp.2 hq.1 hq.2).mono ?_; rintro e w' ⟨rfl, rfl⟩))
  rename_i hh; clear hh
  go_wp2_with fail
  rw [rounds_succ]
  go_wp2_with fail
  go_region_held3 (fun w' => w'.cell? ⟨w.heap.size, 1, none⟩ = some (.complex .f32 r s) ∧ w'.cell? ⟨w.heap.size + 1, 1, none⟩ = some (.complex .f32 r s)) (((repeat' apply And.intro) <;> (first | (with_reducible assumption) | (go_simp; done))))
    (first | (go_at_call 94; refine (sameComplex_c _ _ _ hr.1 hr.2 hs.1 hs.2).mono ?_; rintro e w' ⟨rfl, rfl⟩))
  rename_i hh; clear hh
  go_wp2_with fail
  rw [rounds_succ]
  go_wp2
  go_ret
  refine ⟨rfl, ?_⟩
  exact ((((New.refl w).alloc _).alloc _).drew).drew
theorem eqSpinorS0_c (b : Nat) (w : World) : Calls Try.prog 56 #[.slice none 0 0, .slice (some ⟨b, 0, none⟩) 0 0] w fun e w' => e = .returned (.bool true) ∧ New w w' := by
  go_enter Try.func56, Try.ntmps56
  go_wp2_with fail
  refine wp_loop_rounds 1 ?_; rw [rounds_succ]
  go_wp2
  go_ret
  exact ⟨rfl, New.refl w⟩
theorem markSpinorS0_c (k : Int) (w : World) : Calls Try.prog 57 #[.slice none 0 0, .int .i64 k] w fun e w' => e = .returned (.int .i64 k) ∧ New w w' := by
  go_enter Try.func57, Try.ntmps57
  go_wp2_with fail
  refine wp_loop_rounds 1 ?_; rw [rounds_succ]
  go_wp2
  go_ret
  exact ⟨rfl, New.refl w⟩
theorem heldSpinorS0_c (k : Int) (w : World) : Calls Try.prog 58 #[.slice none 0 0, .int .i64 k] w fun e w' => e = .returned (.int .i64 k) ∧ New w w' := by
  go_enter Try.func58, Try.ntmps58
  go_wp2_with fail
  refine wp_loop_rounds 1 ?_; rw [rounds_succ]
  go_wp2
  go_ret
  exact ⟨rfl, New.refl w⟩
theorem markDesk_c (w : World) : Calls Try.prog 17 #[Dk (.slice none 0 0), .int .i64 1] w fun e w' => e = .returned (.int .i64 1) ∧ New w w' := by
  go_enter Try.func17, Try.ntmps17
  go_wp2_with fail
  refine (markSpinorS0_c 1 _).mono ?_; rintro e w1 ⟨rfl, hN⟩
  go_wp2
  go_ret
  exact ⟨rfl, ((New.refl w).alloc _).trans hN⟩
theorem heldDesk_c (w : World) : Calls Try.prog 18 #[Dk (.slice none 0 0), .int .i64 1] w fun e w' => e = .returned (.int .i64 1) ∧ New w w' := by
  go_enter Try.func18, Try.ntmps18
  go_wp2_with fail
  refine (heldSpinorS0_c 1 _).mono ?_; rintro e w1 ⟨rfl, hN⟩
  go_wp2
  go_ret
  exact ⟨rfl, ((New.refl w).alloc _).trans hN⟩
set_option maxHeartbeats 1000000 in
theorem eqDesk_c (b : Nat) (w : World) : Calls Try.prog 16 #[Dk (.slice none 0 0), Dk (.slice (some ⟨b, 0, none⟩) 0 0)] w fun e w' => e = .returned (.bool true) ∧ New w w' := by
  go_enter Try.func16, Try.ntmps16
  go_wp2_with fail
  refine (eqSpinor_c _ _ _ _ _ nm_one nm_null nm_null nm_null).mono ?_; rintro e w1 ⟨rfl, hN1⟩
  obtain ⟨l1, l2, l3⟩ := hN1.laws
  go_wp2_with fail
  refine (eqSpinor_c _ _ _ _ _ nm_null nm_null nm_one nm_null).mono ?_; rintro e w2 ⟨rfl, hN2⟩
  clear l1 l2 l3
  obtain ⟨l1, l2, l3⟩ := (hN1.trans hN2).laws
  go_wp2_with fail
  refine (eqTurn_c _ _ _ _ _ _ _ _ _ ⟨nm_one, nm_null, nm_null, nm_null, nm_null, nm_null, nm_one, nm_null⟩).mono ?_; rintro e w3 ⟨rfl, hN3⟩
  clear l1 l2 l3
  obtain ⟨l1, l2, l3⟩ := ((hN1.trans hN2).trans hN3).laws
  go_wp2_with fail
  refine (eqSpinorS0_c b _).mono ?_; rintro e w4 ⟨rfl, hN4⟩
  go_wp2
  go_ret
  exact ⟨rfl, (((New.refl w).alloc _).alloc _).trans (((hN1.trans hN2).trans hN3).trans hN4)⟩
end Go.Proofs.Ytmbjomjpnfnbkaa
