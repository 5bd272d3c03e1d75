/-
  Walks of the reference's drift of a table.
-/
import Derived.Test.YtmbjomjpnfnbkaaP24
import Derived.Test.YtmbjomjpnfnbkaaD6
import Derived.Test.YtmbjomjpnfnbkaaD4
import Derived.Deep.CutRange
set_option linter.unusedSimpArgs false
set_option linter.unusedVariables false
namespace Go.Proofs.Ytmbjomjpnfnbkaa
open Go.RowKit Flt

theorem l01Square_c (x y : Nat) (w : World) (hx : fin S x = true) (hy : fin S y = true) (h : fin S (bothS x x y y) = true) :
    Calls Try.prog 207 #[.complex .f32 x y] w fun e w' => e = .returned (.float .f32 (bothS x x y y)) ∧ w = w' := by
  go_enter Try.func207, Try.ntmps207
  go_wp2_with fail
  refine (l01Exact_c x x y y _ hx hx hy hy h).mono ?_; rintro e w' ⟨rfl, rfl⟩
  go_wp2
  go_ret; exact ⟨rfl, rfl⟩

set_option maxHeartbeats 1000000 in
theorem l03Norm_c (t : C8) (w : World) (ht : Fw8 t) (D : DrF t) :
    Calls Try.prog 196 #[t.val] w fun e w' => e = .returned (.float .f32 (normSqS t)) ∧ New w w' := by
  have K1 := hid (fun w => l01Square_c t.a0 t.a1 w ht.a0.2 ht.a1.2 D.s1.2.1)
  have K2 := hid (fun w => l01Square_c t.b0 t.b1 w ht.b0.2 ht.b1.2 D.s2.2.1)
  have m1 := fun (ty : TypeId) (w : World) => run_float_arith (P := Try.prog) w .add ty .f32 _ _ _ (adds_eq D.s1.2.1 D.s2.2.1).1
  unfold normSqS
  clear ht D
  obtain ⟨tc, a0, a1, b0, b1, c0, c1, d0, d1⟩ := t
  simp only at K1 K2 m1 ⊢
  generalize bothS a0 a0 a1 a1 = x at *
  generalize bothS b0 b0 b1 b1 = y at *
  go_enter Try.func196, Try.ntmps196
  go_wp2
  go_region_held3 (fun w' => w'.cell? ⟨w.heap.size, 0, none⟩ = some (.complex .f32 a0 a1) ∧ w'.cell? ⟨w.heap.size, 1, none⟩ = some (.complex .f32 b0 b1)) (((repeat' apply And.intro) <;> (first | (with_reducible assumption) | (go_simp; done))))
    (first | (go_at_call 207; with_reducible refine (K1.out _).mono ?_; rintro e w' ⟨rfl, rfl⟩)
           | (go_at_call 207; with_reducible refine (K2.out _).mono ?_; rintro e w' ⟨rfl, rfl⟩))
  all_goals
    rename_i hh; clear hh
    go_wp2
    go_ret
    exact ⟨rfl, ((New.refl w).alloc _).drew⟩

set_option maxHeartbeats 2000000 in
theorem l03Determinant_c (t : C8) (w : World) (ht : Fw8 t) (D : DrF t) :
    Calls Try.prog 197 #[t.val] w fun e w' => e = .returned (.complex .f32 (detS t).1 (detS t).2) ∧ New w w' := by
  have K1 := hid (fun w => l01Times_c t.a0 t.a1 t.d0 t.d1 w ⟨ht.a0, ht.a1⟩ ⟨ht.d0, ht.d1⟩ ⟨D.t1.2.1, D.t2.2.1⟩)
  have K2 := hid (fun w => l01Times_c t.b0 t.b1 t.c0 t.c1 w ⟨ht.b0, ht.b1⟩ ⟨ht.c0, ht.c1⟩ ⟨D.t3.2.1, D.t4.2.1⟩)
  have K3 := hid (fun w => l01Less_c _ _ _ _ w D.t1.2.1 D.t2.2.1 D.t3.2.1 D.t4.2.1)
  unfold detS
  clear ht D
  obtain ⟨tc, a0, a1, b0, b1, c0, c1, d0, d1⟩ := t
  simp only at K1 K2 K3 ⊢
  generalize timesS a0 a1 d0 d1 = x at *
  generalize timesS b0 b1 c0 c1 = y at *
  go_enter Try.func197, Try.ntmps197
  go_wp2
  go_region_held3 (fun w' => w'.cell? ⟨w.heap.size, 0, none⟩ = some (.complex .f32 a0 a1) ∧ w'.cell? ⟨w.heap.size, 1, none⟩ = some (.complex .f32 b0 b1) ∧ w'.cell? ⟨w.heap.size, 2, none⟩ = some (.complex .f32 c0 c1) ∧ w'.cell? ⟨w.heap.size, 3, none⟩ = some (.complex .f32 d0 d1)) (((repeat' apply And.intro) <;> (first | (with_reducible assumption) | (go_simp; done))))
    (first | (go_at_call 162; with_reducible refine (K1.out _).mono ?_; rintro e w' ⟨rfl, rfl⟩)
           | (go_at_call 162; with_reducible refine (K2.out _).mono ?_; rintro e w' ⟨rfl, rfl⟩)
           | (go_at_call 189; with_reducible refine (K3.out _).mono ?_; rintro e w' ⟨rfl, rfl⟩))
  all_goals
    rename_i hh; clear hh
    go_wp2
    go_ret
    exact ⟨rfl, ((New.refl w).alloc _).drew⟩

set_option maxHeartbeats 2000000 in
theorem l00DriftOfTurn_c (t : C8) (w : World) (ht : Fw8 t) (D : DrF t) :
    Calls Try.prog 172 #[t.val] w fun e w' => e = .returned (.tuple #[.float .f32 (driftS t), .int .i64 0]) ∧ New w w' := by
  have K0 := hid (fun w => l03Is_c t w ht)
  have K1 := hid (fun w => l03Norm_c t w ht D)
  have K2 := hid (fun w => l03Determinant_c t w ht D)
  have F1 := fun w => fine_any (normSqS t) w
  rw [D.n.2.1] at F1
  have F2 := fun w => l01Whole_c (detS t).1 (detS t).2 w
  rw [D.d1.2.1, D.d2.2.1] at F2
  have m1 := fun (ty : TypeId) (w : World) => run_float_arith (P := Try.prog) w .sub ty .f32 _ _ _ (subs_eq D.n.2.1 fin_1).1
  have m2 := fun (ty : TypeId) (w : World) => run_float_arith (P := Try.prog) w .sub ty .f32 _ _ _ (subs_eq D.d1.2.1 fin_1).1
  have E : driftS t = driftS t := rfl
  conv at E => rhs; unfold driftS
  clear ht D
  generalize driftS t = r at *
  generalize normSqS t = n at *
  generalize detS t = d at *
  obtain ⟨d1, d2⟩ := d
  simp only [Bool.and_true] at K1 K2 F1 F2 m1 m2 E
  have S0 := hid (fun w => l03Size_c (subs n 1065353216) w)
  have S1 := hid (fun w => l03Size_c (subs d1 1065353216) w)
  have S2 := hid (fun w => l03Size_c d2 w)
  generalize szS (subs n 1065353216) = x at *
  generalize szS (subs d1 1065353216) = y at *
  generalize szS d2 = z at *
  have F1 := hid F1
  have F2 := hid F2
  obtain ⟨tc, a0, a1, b0, b1, c0, c1, d0, d1'⟩ := t
  generalize hp : upS x y = p at *
  have HE := hid E
  clear E
  cases h1 : (FloatKind.f32.format.order y x == some .gt) with
  | false =>
    have ep : p = x := by rw [← hp]; unfold upS; rw [if_neg (by simp [h1])]
    subst ep
    clear hp
    cases h2 : (FloatKind.f32.format.order z p == some .gt) with
    | false =>
      have er := hid (show r = p by rw [HE.out]; unfold upS; rw [if_neg (by simp [h2])])
      clear HE
      go_enter Try.func172, Try.ntmps172
      go_wp2_with fail
      (with_reducible refine (K0.out _).mono ?_); rintro e w1 ⟨rfl, hN⟩
      have hs1 := hN.size
      simp at hs1
      have e0 := hN.cell_at (k := w.heap.size) (o := 0) (v := .complex .f32 a0 a1) (by go_simp)
      have e1 := hN.cell_at (k := w.heap.size) (o := 1) (v := .complex .f32 b0 b1) (by go_simp)
      have e2 := hN.cell_at (k := w.heap.size) (o := 2) (v := .complex .f32 c0 c1) (by go_simp)
      have e3 := hN.cell_at (k := w.heap.size) (o := 3) (v := .complex .f32 d0 d1') (by go_simp)
      have hNN := hid (((New.refl w).alloc _).trans hN)
      clear hN
      go_wp2_with fail
      go_cut [4, 5] from 12 to 15 (fun u v wx => u = .float .f32 n ∧ v = .complex .f32 d1 d2 ∧ New w wx)
      case first =>
        go_region_held3 (fun w' => w'.cell? ⟨w.heap.size, 0, none⟩ = some (.complex .f32 a0 a1) ∧ w'.cell? ⟨w.heap.size, 1, none⟩ = some (.complex .f32 b0 b1) ∧ w'.cell? ⟨w.heap.size, 2, none⟩ = some (.complex .f32 c0 c1) ∧ w'.cell? ⟨w.heap.size, 3, none⟩ = some (.complex .f32 d0 d1')) (((repeat' apply And.intro) <;> (first | (with_reducible assumption) | (go_simp; done))))
          (first | (go_at_call 196; go_split_ands; (with_reducible refine (K1.out _).mono ?_); rintro e wA ⟨rfl, hNA⟩; have hsA := hNA.size; (try simp at hsA); have u0 := hNA.cell_at (k := w.heap.size) (o := 0) (v := .complex .f32 a0 a1) (by go_simp); have u1 := hNA.cell_at (k := w.heap.size) (o := 1) (v := .complex .f32 b0 b1) (by go_simp); have u2 := hNA.cell_at (k := w.heap.size) (o := 2) (v := .complex .f32 c0 c1) (by go_simp); have u3 := hNA.cell_at (k := w.heap.size) (o := 3) (v := .complex .f32 d0 d1') (by go_simp))
                 | (go_at_call 197; go_split_ands; (with_reducible refine (K2.out _).mono ?_); rintro e wB ⟨rfl, hNB⟩; have hsB := hNB.size; (try simp at hsB); have u0 := hNB.cell_at (k := w.heap.size) (o := 0) (v := .complex .f32 a0 a1) (by go_simp); have u1 := hNB.cell_at (k := w.heap.size) (o := 1) (v := .complex .f32 b0 b1) (by go_simp); have u2 := hNB.cell_at (k := w.heap.size) (o := 2) (v := .complex .f32 c0 c1) (by go_simp); have u3 := hNB.cell_at (k := w.heap.size) (o := 3) (v := .complex .f32 d0 d1') (by go_simp)))
        all_goals
          rename_i hh; clear hh
          go_wp2_with fail
          go_meet
          refine ⟨rfl, rfl, ?_⟩
        all_goals repeat' (with_reducible first | exact hNN.out | apply New.drew | apply New.alloc | apply New.trans (k := hNB) | apply New.trans (k := hNA))
      case rest =>
      obtain ⟨rfl, rfl, hN2⟩ := hcut
      have HN2 := hid hN2
      clear hN2 hNN
      go_wp2_with fail
      (with_reducible refine (F1.out _).mono ?_); rintro e w' ⟨rfl, k1, rfl⟩
      go_wp2_with fail
      (with_reducible refine (F2.out _).mono ?_); rintro e w' ⟨rfl, k2, rfl⟩
      go_wp2_with fail
      (with_reducible refine (S0.out _).mono ?_); rintro e w' ⟨rfl, rfl⟩
      go_wp2_with fail
      (with_reducible refine (S1.out _).mono ?_); rintro e w' ⟨rfl, rfl⟩
      go_wp2_with fail
      (with_reducible refine (S2.out _).mono ?_); rintro e w' ⟨rfl, rfl⟩
      go_wp2
      refine bodyPost_ret (v := .tuple #[.float .f32 r, .int .i64 0]) (by simp [results, Try.results172, go_sem, er.out]) rfl ⟨rfl, ?_⟩
      exact HN2.out.drewN _
    | true =>
      have er := hid (show r = z by rw [HE.out]; unfold upS; rw [if_pos h2])
      clear HE
      go_enter Try.func172, Try.ntmps172
      go_wp2_with fail
      (with_reducible refine (K0.out _).mono ?_); rintro e w1 ⟨rfl, hN⟩
      have hs1 := hN.size
      simp at hs1
      have e0 := hN.cell_at (k := w.heap.size) (o := 0) (v := .complex .f32 a0 a1) (by go_simp)
      have e1 := hN.cell_at (k := w.heap.size) (o := 1) (v := .complex .f32 b0 b1) (by go_simp)
      have e2 := hN.cell_at (k := w.heap.size) (o := 2) (v := .complex .f32 c0 c1) (by go_simp)
      have e3 := hN.cell_at (k := w.heap.size) (o := 3) (v := .complex .f32 d0 d1') (by go_simp)
      have hNN := hid (((New.refl w).alloc _).trans hN)
      clear hN
      go_wp2_with fail
      go_cut [4, 5] from 12 to 15 (fun u v wx => u = .float .f32 n ∧ v = .complex .f32 d1 d2 ∧ New w wx)
      case first =>
        go_region_held3 (fun w' => w'.cell? ⟨w.heap.size, 0, none⟩ = some (.complex .f32 a0 a1) ∧ w'.cell? ⟨w.heap.size, 1, none⟩ = some (.complex .f32 b0 b1) ∧ w'.cell? ⟨w.heap.size, 2, none⟩ = some (.complex .f32 c0 c1) ∧ w'.cell? ⟨w.heap.size, 3, none⟩ = some (.complex .f32 d0 d1')) (((repeat' apply And.intro) <;> (first | (with_reducible assumption) | (go_simp; done))))
          (first | (go_at_call 196; go_split_ands; (with_reducible refine (K1.out _).mono ?_); rintro e wA ⟨rfl, hNA⟩; have hsA := hNA.size; (try simp at hsA); have u0 := hNA.cell_at (k := w.heap.size) (o := 0) (v := .complex .f32 a0 a1) (by go_simp); have u1 := hNA.cell_at (k := w.heap.size) (o := 1) (v := .complex .f32 b0 b1) (by go_simp); have u2 := hNA.cell_at (k := w.heap.size) (o := 2) (v := .complex .f32 c0 c1) (by go_simp); have u3 := hNA.cell_at (k := w.heap.size) (o := 3) (v := .complex .f32 d0 d1') (by go_simp))
                 | (go_at_call 197; go_split_ands; (with_reducible refine (K2.out _).mono ?_); rintro e wB ⟨rfl, hNB⟩; have hsB := hNB.size; (try simp at hsB); have u0 := hNB.cell_at (k := w.heap.size) (o := 0) (v := .complex .f32 a0 a1) (by go_simp); have u1 := hNB.cell_at (k := w.heap.size) (o := 1) (v := .complex .f32 b0 b1) (by go_simp); have u2 := hNB.cell_at (k := w.heap.size) (o := 2) (v := .complex .f32 c0 c1) (by go_simp); have u3 := hNB.cell_at (k := w.heap.size) (o := 3) (v := .complex .f32 d0 d1') (by go_simp)))
        all_goals
          rename_i hh; clear hh
          go_wp2_with fail
          go_meet
          refine ⟨rfl, rfl, ?_⟩
        all_goals repeat' (with_reducible first | exact hNN.out | apply New.drew | apply New.alloc | apply New.trans (k := hNB) | apply New.trans (k := hNA))
      case rest =>
      obtain ⟨rfl, rfl, hN2⟩ := hcut
      have HN2 := hid hN2
      clear hN2 hNN
      go_wp2_with fail
      (with_reducible refine (F1.out _).mono ?_); rintro e w' ⟨rfl, k1, rfl⟩
      go_wp2_with fail
      (with_reducible refine (F2.out _).mono ?_); rintro e w' ⟨rfl, k2, rfl⟩
      go_wp2_with fail
      (with_reducible refine (S0.out _).mono ?_); rintro e w' ⟨rfl, rfl⟩
      go_wp2_with fail
      (with_reducible refine (S1.out _).mono ?_); rintro e w' ⟨rfl, rfl⟩
      go_wp2_with fail
      (with_reducible refine (S2.out _).mono ?_); rintro e w' ⟨rfl, rfl⟩
      go_wp2
      refine bodyPost_ret (v := .tuple #[.float .f32 r, .int .i64 0]) (by simp [results, Try.results172, go_sem, er.out]) rfl ⟨rfl, ?_⟩
      exact HN2.out.drewN _
  | true =>
    have ep : p = y := by rw [← hp]; unfold upS; rw [if_pos h1]
    subst ep
    clear hp
    cases h2 : (FloatKind.f32.format.order z p == some .gt) with
    | false =>
      have er := hid (show r = p by rw [HE.out]; unfold upS; rw [if_neg (by simp [h2])])
      clear HE
      go_enter Try.func172, Try.ntmps172
      go_wp2_with fail
      (with_reducible refine (K0.out _).mono ?_); rintro e w1 ⟨rfl, hN⟩
      have hs1 := hN.size
      simp at hs1
      have e0 := hN.cell_at (k := w.heap.size) (o := 0) (v := .complex .f32 a0 a1) (by go_simp)
      have e1 := hN.cell_at (k := w.heap.size) (o := 1) (v := .complex .f32 b0 b1) (by go_simp)
      have e2 := hN.cell_at (k := w.heap.size) (o := 2) (v := .complex .f32 c0 c1) (by go_simp)
      have e3 := hN.cell_at (k := w.heap.size) (o := 3) (v := .complex .f32 d0 d1') (by go_simp)
      have hNN := hid (((New.refl w).alloc _).trans hN)
      clear hN
      go_wp2_with fail
      go_cut [4, 5] from 12 to 15 (fun u v wx => u = .float .f32 n ∧ v = .complex .f32 d1 d2 ∧ New w wx)
      case first =>
        go_region_held3 (fun w' => w'.cell? ⟨w.heap.size, 0, none⟩ = some (.complex .f32 a0 a1) ∧ w'.cell? ⟨w.heap.size, 1, none⟩ = some (.complex .f32 b0 b1) ∧ w'.cell? ⟨w.heap.size, 2, none⟩ = some (.complex .f32 c0 c1) ∧ w'.cell? ⟨w.heap.size, 3, none⟩ = some (.complex .f32 d0 d1')) (((repeat' apply And.intro) <;> (first | (with_reducible assumption) | (go_simp; done))))
          (first | (go_at_call 196; go_split_ands; (with_reducible refine (K1.out _).mono ?_); rintro e wA ⟨rfl, hNA⟩; have hsA := hNA.size; (try simp at hsA); have u0 := hNA.cell_at (k := w.heap.size) (o := 0) (v := .complex .f32 a0 a1) (by go_simp); have u1 := hNA.cell_at (k := w.heap.size) (o := 1) (v := .complex .f32 b0 b1) (by go_simp); have u2 := hNA.cell_at (k := w.heap.size) (o := 2) (v := .complex .f32 c0 c1) (by go_simp); have u3 := hNA.cell_at (k := w.heap.size) (o := 3) (v := .complex .f32 d0 d1') (by go_simp))
                 | (go_at_call 197; go_split_ands; (with_reducible refine (K2.out _).mono ?_); rintro e wB ⟨rfl, hNB⟩; have hsB := hNB.size; (try simp at hsB); have u0 := hNB.cell_at (k := w.heap.size) (o := 0) (v := .complex .f32 a0 a1) (by go_simp); have u1 := hNB.cell_at (k := w.heap.size) (o := 1) (v := .complex .f32 b0 b1) (by go_simp); have u2 := hNB.cell_at (k := w.heap.size) (o := 2) (v := .complex .f32 c0 c1) (by go_simp); have u3 := hNB.cell_at (k := w.heap.size) (o := 3) (v := .complex .f32 d0 d1') (by go_simp)))
        all_goals
          rename_i hh; clear hh
          go_wp2_with fail
          go_meet
          refine ⟨rfl, rfl, ?_⟩
        all_goals repeat' (with_reducible first | exact hNN.out | apply New.drew | apply New.alloc | apply New.trans (k := hNB) | apply New.trans (k := hNA))
      case rest =>
      obtain ⟨rfl, rfl, hN2⟩ := hcut
      have HN2 := hid hN2
      clear hN2 hNN
      go_wp2_with fail
      (with_reducible refine (F1.out _).mono ?_); rintro e w' ⟨rfl, k1, rfl⟩
      go_wp2_with fail
      (with_reducible refine (F2.out _).mono ?_); rintro e w' ⟨rfl, k2, rfl⟩
      go_wp2_with fail
      (with_reducible refine (S0.out _).mono ?_); rintro e w' ⟨rfl, rfl⟩
      go_wp2_with fail
      (with_reducible refine (S1.out _).mono ?_); rintro e w' ⟨rfl, rfl⟩
      go_wp2_with fail
      (with_reducible refine (S2.out _).mono ?_); rintro e w' ⟨rfl, rfl⟩
      go_wp2
      refine bodyPost_ret (v := .tuple #[.float .f32 r, .int .i64 0]) (by simp [results, Try.results172, go_sem, er.out]) rfl ⟨rfl, ?_⟩
      exact HN2.out.drewN _
    | true =>
      have er := hid (show r = z by rw [HE.out]; unfold upS; rw [if_pos h2])
      clear HE
      go_enter Try.func172, Try.ntmps172
      go_wp2_with fail
      (with_reducible refine (K0.out _).mono ?_); rintro e w1 ⟨rfl, hN⟩
      have hs1 := hN.size
      simp at hs1
      have e0 := hN.cell_at (k := w.heap.size) (o := 0) (v := .complex .f32 a0 a1) (by go_simp)
      have e1 := hN.cell_at (k := w.heap.size) (o := 1) (v := .complex .f32 b0 b1) (by go_simp)
      have e2 := hN.cell_at (k := w.heap.size) (o := 2) (v := .complex .f32 c0 c1) (by go_simp)
      have e3 := hN.cell_at (k := w.heap.size) (o := 3) (v := .complex .f32 d0 d1') (by go_simp)
      have hNN := hid (((New.refl w).alloc _).trans hN)
      clear hN
      go_wp2_with fail
      go_cut [4, 5] from 12 to 15 (fun u v wx => u = .float .f32 n ∧ v = .complex .f32 d1 d2 ∧ New w wx)
      case first =>
        go_region_held3 (fun w' => w'.cell? ⟨w.heap.size, 0, none⟩ = some (.complex .f32 a0 a1) ∧ w'.cell? ⟨w.heap.size, 1, none⟩ = some (.complex .f32 b0 b1) ∧ w'.cell? ⟨w.heap.size, 2, none⟩ = some (.complex .f32 c0 c1) ∧ w'.cell? ⟨w.heap.size, 3, none⟩ = some (.complex .f32 d0 d1')) (((repeat' apply And.intro) <;> (first | (with_reducible assumption) | (go_simp; done))))
          (first | (go_at_call 196; go_split_ands; (with_reducible refine (K1.out _).mono ?_); rintro e wA ⟨rfl, hNA⟩; have hsA := hNA.size; (try simp at hsA); have u0 := hNA.cell_at (k := w.heap.size) (o := 0) (v := .complex .f32 a0 a1) (by go_simp); have u1 := hNA.cell_at (k := w.heap.size) (o := 1) (v := .complex .f32 b0 b1) (by go_simp); have u2 := hNA.cell_at (k := w.heap.size) (o := 2) (v := .complex .f32 c0 c1) (by go_simp); have u3 := hNA.cell_at (k := w.heap.size) (o := 3) (v := .complex .f32 d0 d1') (by go_simp))
                 | (go_at_call 197; go_split_ands; (with_reducible refine (K2.out _).mono ?_); rintro e wB ⟨rfl, hNB⟩; have hsB := hNB.size; (try simp at hsB); have u0 := hNB.cell_at (k := w.heap.size) (o := 0) (v := .complex .f32 a0 a1) (by go_simp); have u1 := hNB.cell_at (k := w.heap.size) (o := 1) (v := .complex .f32 b0 b1) (by go_simp); have u2 := hNB.cell_at (k := w.heap.size) (o := 2) (v := .complex .f32 c0 c1) (by go_simp); have u3 := hNB.cell_at (k := w.heap.size) (o := 3) (v := .complex .f32 d0 d1') (by go_simp)))
        all_goals
          rename_i hh; clear hh
          go_wp2_with fail
          go_meet
          refine ⟨rfl, rfl, ?_⟩
        all_goals repeat' (with_reducible first | exact hNN.out | apply New.drew | apply New.alloc | apply New.trans (k := hNB) | apply New.trans (k := hNA))
      case rest =>
      obtain ⟨rfl, rfl, hN2⟩ := hcut
      have HN2 := hid hN2
      clear hN2 hNN
      go_wp2_with fail
      (with_reducible refine (F1.out _).mono ?_); rintro e w' ⟨rfl, k1, rfl⟩
      go_wp2_with fail
      (with_reducible refine (F2.out _).mono ?_); rintro e w' ⟨rfl, k2, rfl⟩
      go_wp2_with fail
      (with_reducible refine (S0.out _).mono ?_); rintro e w' ⟨rfl, rfl⟩
      go_wp2_with fail
      (with_reducible refine (S1.out _).mono ?_); rintro e w' ⟨rfl, rfl⟩
      go_wp2_with fail
      (with_reducible refine (S2.out _).mono ?_); rintro e w' ⟨rfl, rfl⟩
      go_wp2
      refine bodyPost_ret (v := .tuple #[.float .f32 r, .int .i64 0]) (by simp [results, Try.results172, go_sem, er.out]) rfl ⟨rfl, ?_⟩
      exact HN2.out.drewN _

theorem specDriftOfTurn_c (t : C8) (w : World) (ht : Fw8 t) (D : DrF t) :
    Calls Try.prog 141 #[t.val] w fun e w' => e = .returned (.tuple #[.float .f32 (zn (driftS t)), .int .i64 0]) ∧ New w w' := by
  have K := hid (fun w => l00DriftOfTurn_c t w ht D)
  clear ht D
  generalize driftS t = r at *
  obtain ⟨tc, a0, a1, b0, b1, c0, c1, d0, d1⟩ := t
  go_enter Try.func141, Try.ntmps141
  go_wp2_with fail
  with_reducible refine (K.out _).mono ?_; rintro e w1 ⟨rfl, hN⟩
  go_wp2_with fail
  with_reducible refine (l00Float_c _ _).mono ?_; rintro e w' ⟨rfl, rfl⟩
  go_wp2
  refine bodyPost_ret (v := .tuple #[.float .f32 (zn r), .int .i64 0]) (by simp [results, Try.results141, go_sem]) rfl ⟨rfl, ?_⟩
  exact ((New.refl w).alloc _).trans hN
end Go.Proofs.Ytmbjomjpnfnbkaa
