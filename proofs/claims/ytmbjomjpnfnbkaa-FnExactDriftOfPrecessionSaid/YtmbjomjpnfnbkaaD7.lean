/-
  Walk of the reference's distance of two tables.
-/
import Derived.Test.YtmbjomjpnfnbkaaD6
import Derived.Deep.CutRange
import Derived.Deep.CutBlock
set_option linter.unusedSimpArgs false
set_option linter.unusedVariables false
namespace Go.Proofs.Ytmbjomjpnfnbkaa
open Go.RowKit Flt

/-- The distance, bare. -/
def distS (a b : C8) : Nat :=
  upS (upS (upS (upS (upS (upS (upS (upS 0 (szS (subs a.a0 b.a0))) (szS (subs a.a1 b.a1))) (szS (subs a.b0 b.b0))) (szS (subs a.b1 b.b1))) (szS (subs a.c0 b.c0))) (szS (subs a.c1 b.c1))) (szS (subs a.d0 b.d0))) (szS (subs a.d1 b.d1))
/-- All differences are numbers. -/
structure Df8 (a b : C8) : Prop where
  a0 : fin S (subs a.a0 b.a0) = true
  a1 : fin S (subs a.a1 b.a1) = true
  b0 : fin S (subs a.b0 b.b0) = true
  b1 : fin S (subs a.b1 b.b1) = true
  c0 : fin S (subs a.c0 b.c0) = true
  c1 : fin S (subs a.c1 b.c1) = true
  d0 : fin S (subs a.d0 b.d0) = true
  d1 : fin S (subs a.d1 b.d1) = true

set_option maxHeartbeats 8000000 in
theorem l05Distance_c (s t : C8) (w : World) (hs : Fw8 s) (ht : Fw8 t) (hd : Df8 s t) :
    Calls Try.prog 166 #[s.val, t.val] w fun e w' => e = .returned (.tuple #[.float .f32 (distS s t), .bool true]) ∧ New w w' := by
  have E : distS s t = distS s t := rfl
  conv at E => rhs; unfold distS
  have L0 := fun w => l01Less_c s.a0 s.a1 t.a0 t.a1 w hs.a0.2 hs.a1.2 ht.a0.2 ht.a1.2
  have W0 := fun w => l01Whole_c (subs s.a0 t.a0) (subs s.a1 t.a1) w
  rw [hd.a0, hd.a1] at W0
  have Z0 := fun w => l03Size_c (subs s.a0 t.a0) w
  have Z1 := fun w => l03Size_c (subs s.a1 t.a1) w
  have L1 := fun w => l01Less_c s.b0 s.b1 t.b0 t.b1 w hs.b0.2 hs.b1.2 ht.b0.2 ht.b1.2
  have W1 := fun w => l01Whole_c (subs s.b0 t.b0) (subs s.b1 t.b1) w
  rw [hd.b0, hd.b1] at W1
  have Z2 := fun w => l03Size_c (subs s.b0 t.b0) w
  have Z3 := fun w => l03Size_c (subs s.b1 t.b1) w
  have L2 := fun w => l01Less_c s.c0 s.c1 t.c0 t.c1 w hs.c0.2 hs.c1.2 ht.c0.2 ht.c1.2
  have W2 := fun w => l01Whole_c (subs s.c0 t.c0) (subs s.c1 t.c1) w
  rw [hd.c0, hd.c1] at W2
  have Z4 := fun w => l03Size_c (subs s.c0 t.c0) w
  have Z5 := fun w => l03Size_c (subs s.c1 t.c1) w
  have L3 := fun w => l01Less_c s.d0 s.d1 t.d0 t.d1 w hs.d0.2 hs.d1.2 ht.d0.2 ht.d1.2
  have W3 := fun w => l01Whole_c (subs s.d0 t.d0) (subs s.d1 t.d1) w
  rw [hd.d0, hd.d1] at W3
  have Z6 := fun w => l03Size_c (subs s.d0 t.d0) w
  have Z7 := fun w => l03Size_c (subs s.d1 t.d1) w
  clear hs ht hd
  generalize subs s.a0 t.a0 = x0 at *
  generalize subs s.a1 t.a1 = x1 at *
  generalize subs s.b0 t.b0 = x2 at *
  generalize subs s.b1 t.b1 = x3 at *
  generalize subs s.c0 t.c0 = x4 at *
  generalize subs s.c1 t.c1 = x5 at *
  generalize subs s.d0 t.d0 = x6 at *
  generalize subs s.d1 t.d1 = x7 at *
  generalize szS x0 = z0 at *
  generalize szS x1 = z1 at *
  generalize szS x2 = z2 at *
  generalize szS x3 = z3 at *
  generalize szS x4 = z4 at *
  generalize szS x5 = z5 at *
  generalize szS x6 = z6 at *
  generalize szS x7 = z7 at *
  generalize hm0 : upS (upS 0 z0) z1 = m0 at *
  have HM0 := hid hm0.symm
  clear hm0
  generalize hm1 : upS (upS m0 z2) z3 = m1 at *
  have HM1 := hid hm1.symm
  clear hm1
  generalize hm2 : upS (upS m1 z4) z5 = m2 at *
  have HM2 := hid hm2.symm
  clear hm2
  generalize hm3 : upS (upS m2 z6) z7 = m3 at *
  have HM3 := hid hm3.symm
  clear hm3
  rw [E]
  clear E
  obtain ⟨sc, s0, s1, s2, s3, s4, s5, s6, s7⟩ := s
  obtain ⟨tc, t0, t1, t2, t3, t4, t5, t6, t7⟩ := t
  simp only [Bool.and_true] at L0 L1 L2 L3 W0 W1 W2 W3
  go_enter Try.func166, Try.ntmps166
  go_wp2_with fail
  refine wp_loop_rounds 3 ?_; rw [rounds_succ]
  go_wp2_with fail
  refine wp_loop_rounds 3 ?_; rw [rounds_succ]
  go_upto_block 3 with fail
  go_cut [6] from 20 to 47 (fun vv wx => vv = .float .f32 m0 ∧ Drw ((w.alloc (.cells #[.complex .f32 s0 s1, .complex .f32 s2 s3, .complex .f32 s4 s5, .complex .f32 s6 s7] 26)).alloc (.cells #[.complex .f32 t0 t1, .complex .f32 t2 t3, .complex .f32 t4 t5, .complex .f32 t6 t7] 26)) wx)
  case first =>
    cases ha : (FloatKind.f32.format.order z0 0 == some .gt) with
    | true =>
      cases hb : (FloatKind.f32.format.order z1 z0 == some .gt) with
      | true =>
        go_wp2_with fail
        go_region_held3 (fun w' => w'.cell? ⟨w.heap.size, 0, none⟩ = some (.complex .f32 s0 s1) ∧ w'.cell? ⟨w.heap.size + 1, 0, none⟩ = some (.complex .f32 t0 t1)) (((repeat' apply And.intro) <;> (first | (with_reducible assumption) | (go_simp; done))))
          (first | (go_at_call 189; with_reducible refine (L0 _).mono ?_; rintro e w' ⟨rfl, rfl⟩))
        rename_i hh; clear hh
        go_wp2_with fail
        refine (W0 _).mono ?_; rintro e w' ⟨rfl, mm, rfl⟩
        go_wp2_with fail
        refine (Z0 _).mono ?_; rintro e w' ⟨rfl, rfl⟩
        go_wp2_with fail
        refine (Z1 _).mono ?_; rintro e w' ⟨rfl, rfl⟩
        go_wp2_with fail
        go_meet
        refine ⟨by rw [HM0.out]; simp [upS, ha, hb], ⟨_, rfl⟩⟩
      | false =>
        go_wp2_with fail
        go_region_held3 (fun w' => w'.cell? ⟨w.heap.size, 0, none⟩ = some (.complex .f32 s0 s1) ∧ w'.cell? ⟨w.heap.size + 1, 0, none⟩ = some (.complex .f32 t0 t1)) (((repeat' apply And.intro) <;> (first | (with_reducible assumption) | (go_simp; done))))
          (first | (go_at_call 189; with_reducible refine (L0 _).mono ?_; rintro e w' ⟨rfl, rfl⟩))
        rename_i hh; clear hh
        go_wp2_with fail
        refine (W0 _).mono ?_; rintro e w' ⟨rfl, mm, rfl⟩
        go_wp2_with fail
        refine (Z0 _).mono ?_; rintro e w' ⟨rfl, rfl⟩
        go_wp2_with fail
        refine (Z1 _).mono ?_; rintro e w' ⟨rfl, rfl⟩
        go_wp2_with fail
        go_meet
        refine ⟨by rw [HM0.out]; simp [upS, ha, hb], ⟨_, rfl⟩⟩
    | false =>
      cases hb : (FloatKind.f32.format.order z1 0 == some .gt) with
      | true =>
        go_wp2_with fail
        go_region_held3 (fun w' => w'.cell? ⟨w.heap.size, 0, none⟩ = some (.complex .f32 s0 s1) ∧ w'.cell? ⟨w.heap.size + 1, 0, none⟩ = some (.complex .f32 t0 t1)) (((repeat' apply And.intro) <;> (first | (with_reducible assumption) | (go_simp; done))))
          (first | (go_at_call 189; with_reducible refine (L0 _).mono ?_; rintro e w' ⟨rfl, rfl⟩))
        rename_i hh; clear hh
        go_wp2_with fail
        refine (W0 _).mono ?_; rintro e w' ⟨rfl, mm, rfl⟩
        go_wp2_with fail
        refine (Z0 _).mono ?_; rintro e w' ⟨rfl, rfl⟩
        go_wp2_with fail
        refine (Z1 _).mono ?_; rintro e w' ⟨rfl, rfl⟩
        go_wp2_with fail
        go_meet
        refine ⟨by rw [HM0.out]; simp [upS, ha, hb], ⟨_, rfl⟩⟩
      | false =>
        go_wp2_with fail
        go_region_held3 (fun w' => w'.cell? ⟨w.heap.size, 0, none⟩ = some (.complex .f32 s0 s1) ∧ w'.cell? ⟨w.heap.size + 1, 0, none⟩ = some (.complex .f32 t0 t1)) (((repeat' apply And.intro) <;> (first | (with_reducible assumption) | (go_simp; done))))
          (first | (go_at_call 189; with_reducible refine (L0 _).mono ?_; rintro e w' ⟨rfl, rfl⟩))
        rename_i hh; clear hh
        go_wp2_with fail
        refine (W0 _).mono ?_; rintro e w' ⟨rfl, mm, rfl⟩
        go_wp2_with fail
        refine (Z0 _).mono ?_; rintro e w' ⟨rfl, rfl⟩
        go_wp2_with fail
        refine (Z1 _).mono ?_; rintro e w' ⟨rfl, rfl⟩
        go_wp2_with fail
        go_meet
        refine ⟨by rw [HM0.out]; simp [upS, ha, hb], ⟨_, rfl⟩⟩
  case rest =>
  obtain ⟨rfl, nn0, rfl⟩ := hcut
  go_wp2_with fail
  rw [rounds_succ]
  go_upto_block 3 with fail
  go_cut [6] from 20 to 47 (fun vv wx => vv = .float .f32 m1 ∧ Drw ((w.alloc (.cells #[.complex .f32 s0 s1, .complex .f32 s2 s3, .complex .f32 s4 s5, .complex .f32 s6 s7] 26)).alloc (.cells #[.complex .f32 t0 t1, .complex .f32 t2 t3, .complex .f32 t4 t5, .complex .f32 t6 t7] 26)) wx)
  case first =>
    cases ha : (FloatKind.f32.format.order z2 m0 == some .gt) with
    | true =>
      cases hb : (FloatKind.f32.format.order z3 z2 == some .gt) with
      | true =>
        go_wp2_with fail
        go_region_held3 (fun w' => w'.cell? ⟨w.heap.size, 1, none⟩ = some (.complex .f32 s2 s3) ∧ w'.cell? ⟨w.heap.size + 1, 1, none⟩ = some (.complex .f32 t2 t3)) (((repeat' apply And.intro) <;> (first | (with_reducible assumption) | (go_simp; done))))
          (first | (go_at_call 189; with_reducible refine (L1 _).mono ?_; rintro e w' ⟨rfl, rfl⟩))
        rename_i hh; clear hh
        go_wp2_with fail
        refine (W1 _).mono ?_; rintro e w' ⟨rfl, mm, rfl⟩
        go_wp2_with fail
        refine (Z2 _).mono ?_; rintro e w' ⟨rfl, rfl⟩
        go_wp2_with fail
        refine (Z3 _).mono ?_; rintro e w' ⟨rfl, rfl⟩
        go_wp2_with fail
        go_meet
        refine ⟨by rw [HM1.out]; simp [upS, ha, hb], ⟨_, rfl⟩⟩
      | false =>
        go_wp2_with fail
        go_region_held3 (fun w' => w'.cell? ⟨w.heap.size, 1, none⟩ = some (.complex .f32 s2 s3) ∧ w'.cell? ⟨w.heap.size + 1, 1, none⟩ = some (.complex .f32 t2 t3)) (((repeat' apply And.intro) <;> (first | (with_reducible assumption) | (go_simp; done))))
          (first | (go_at_call 189; with_reducible refine (L1 _).mono ?_; rintro e w' ⟨rfl, rfl⟩))
        rename_i hh; clear hh
        go_wp2_with fail
        refine (W1 _).mono ?_; rintro e w' ⟨rfl, mm, rfl⟩
        go_wp2_with fail
        refine (Z2 _).mono ?_; rintro e w' ⟨rfl, rfl⟩
        go_wp2_with fail
        refine (Z3 _).mono ?_; rintro e w' ⟨rfl, rfl⟩
        go_wp2_with fail
        go_meet
        refine ⟨by rw [HM1.out]; simp [upS, ha, hb], ⟨_, rfl⟩⟩
    | false =>
      cases hb : (FloatKind.f32.format.order z3 m0 == some .gt) with
      | true =>
        go_wp2_with fail
        go_region_held3 (fun w' => w'.cell? ⟨w.heap.size, 1, none⟩ = some (.complex .f32 s2 s3) ∧ w'.cell? ⟨w.heap.size + 1, 1, none⟩ = some (.complex .f32 t2 t3)) (((repeat' apply And.intro) <;> (first | (with_reducible assumption) | (go_simp; done))))
          (first | (go_at_call 189; with_reducible refine (L1 _).mono ?_; rintro e w' ⟨rfl, rfl⟩))
        rename_i hh; clear hh
        go_wp2_with fail
        refine (W1 _).mono ?_; rintro e w' ⟨rfl, mm, rfl⟩
        go_wp2_with fail
        refine (Z2 _).mono ?_; rintro e w' ⟨rfl, rfl⟩
        go_wp2_with fail
        refine (Z3 _).mono ?_; rintro e w' ⟨rfl, rfl⟩
        go_wp2_with fail
        go_meet
        refine ⟨by rw [HM1.out]; simp [upS, ha, hb], ⟨_, rfl⟩⟩
      | false =>
        go_wp2_with fail
        go_region_held3 (fun w' => w'.cell? ⟨w.heap.size, 1, none⟩ = some (.complex .f32 s2 s3) ∧ w'.cell? ⟨w.heap.size + 1, 1, none⟩ = some (.complex .f32 t2 t3)) (((repeat' apply And.intro) <;> (first | (with_reducible assumption) | (go_simp; done))))
          (first | (go_at_call 189; with_reducible refine (L1 _).mono ?_; rintro e w' ⟨rfl, rfl⟩))
        rename_i hh; clear hh
        go_wp2_with fail
        refine (W1 _).mono ?_; rintro e w' ⟨rfl, mm, rfl⟩
        go_wp2_with fail
        refine (Z2 _).mono ?_; rintro e w' ⟨rfl, rfl⟩
        go_wp2_with fail
        refine (Z3 _).mono ?_; rintro e w' ⟨rfl, rfl⟩
        go_wp2_with fail
        go_meet
        refine ⟨by rw [HM1.out]; simp [upS, ha, hb], ⟨_, rfl⟩⟩
  case rest =>
  obtain ⟨rfl, nn1, rfl⟩ := hcut
  go_wp2_with fail
  rw [rounds_succ]
  go_wp2_with fail
  rw [rounds_succ]
  go_wp2_with fail
  refine wp_loop_rounds 3 ?_; rw [rounds_succ]
  go_upto_block 3 with fail
  go_cut [6] from 20 to 47 (fun vv wx => vv = .float .f32 m2 ∧ Drw ((w.alloc (.cells #[.complex .f32 s0 s1, .complex .f32 s2 s3, .complex .f32 s4 s5, .complex .f32 s6 s7] 26)).alloc (.cells #[.complex .f32 t0 t1, .complex .f32 t2 t3, .complex .f32 t4 t5, .complex .f32 t6 t7] 26)) wx)
  case first =>
    cases ha : (FloatKind.f32.format.order z4 m1 == some .gt) with
    | true =>
      cases hb : (FloatKind.f32.format.order z5 z4 == some .gt) with
      | true =>
        go_wp2_with fail
        go_region_held3 (fun w' => w'.cell? ⟨w.heap.size, 2, none⟩ = some (.complex .f32 s4 s5) ∧ w'.cell? ⟨w.heap.size + 1, 2, none⟩ = some (.complex .f32 t4 t5)) (((repeat' apply And.intro) <;> (first | (with_reducible assumption) | (go_simp; done))))
          (first | (go_at_call 189; with_reducible refine (L2 _).mono ?_; rintro e w' ⟨rfl, rfl⟩))
        rename_i hh; clear hh
        go_wp2_with fail
        refine (W2 _).mono ?_; rintro e w' ⟨rfl, mm, rfl⟩
        go_wp2_with fail
        refine (Z4 _).mono ?_; rintro e w' ⟨rfl, rfl⟩
        go_wp2_with fail
        refine (Z5 _).mono ?_; rintro e w' ⟨rfl, rfl⟩
        go_wp2_with fail
        go_meet
        refine ⟨by rw [HM2.out]; simp [upS, ha, hb], ⟨_, rfl⟩⟩
      | false =>
        go_wp2_with fail
        go_region_held3 (fun w' => w'.cell? ⟨w.heap.size, 2, none⟩ = some (.complex .f32 s4 s5) ∧ w'.cell? ⟨w.heap.size + 1, 2, none⟩ = some (.complex .f32 t4 t5)) (((repeat' apply And.intro) <;> (first | (with_reducible assumption) | (go_simp; done))))
          (first | (go_at_call 189; with_reducible refine (L2 _).mono ?_; rintro e w' ⟨rfl, rfl⟩))
        rename_i hh; clear hh
        go_wp2_with fail
        refine (W2 _).mono ?_; rintro e w' ⟨rfl, mm, rfl⟩
        go_wp2_with fail
        refine (Z4 _).mono ?_; rintro e w' ⟨rfl, rfl⟩
        go_wp2_with fail
        refine (Z5 _).mono ?_; rintro e w' ⟨rfl, rfl⟩
        go_wp2_with fail
        go_meet
        refine ⟨by rw [HM2.out]; simp [upS, ha, hb], ⟨_, rfl⟩⟩
    | false =>
      cases hb : (FloatKind.f32.format.order z5 m1 == some .gt) with
      | true =>
        go_wp2_with fail
        go_region_held3 (fun w' => w'.cell? ⟨w.heap.size, 2, none⟩ = some (.complex .f32 s4 s5) ∧ w'.cell? ⟨w.heap.size + 1, 2, none⟩ = some (.complex .f32 t4 t5)) (((repeat' apply And.intro) <;> (first | (with_reducible assumption) | (go_simp; done))))
          (first | (go_at_call 189; with_reducible refine (L2 _).mono ?_; rintro e w' ⟨rfl, rfl⟩))
        rename_i hh; clear hh
        go_wp2_with fail
        refine (W2 _).mono ?_; rintro e w' ⟨rfl, mm, rfl⟩
        go_wp2_with fail
        refine (Z4 _).mono ?_; rintro e w' ⟨rfl, rfl⟩
        go_wp2_with fail
        refine (Z5 _).mono ?_; rintro e w' ⟨rfl, rfl⟩
        go_wp2_with fail
        go_meet
        refine ⟨by rw [HM2.out]; simp [upS, ha, hb], ⟨_, rfl⟩⟩
      | false =>
        go_wp2_with fail
        go_region_held3 (fun w' => w'.cell? ⟨w.heap.size, 2, none⟩ = some (.complex .f32 s4 s5) ∧ w'.cell? ⟨w.heap.size + 1, 2, none⟩ = some (.complex .f32 t4 t5)) (((repeat' apply And.intro) <;> (first | (with_reducible assumption) | (go_simp; done))))
          (first | (go_at_call 189; with_reducible refine (L2 _).mono ?_; rintro e w' ⟨rfl, rfl⟩))
        rename_i hh; clear hh
        go_wp2_with fail
        refine (W2 _).mono ?_; rintro e w' ⟨rfl, mm, rfl⟩
        go_wp2_with fail
        refine (Z4 _).mono ?_; rintro e w' ⟨rfl, rfl⟩
        go_wp2_with fail
        refine (Z5 _).mono ?_; rintro e w' ⟨rfl, rfl⟩
        go_wp2_with fail
        go_meet
        refine ⟨by rw [HM2.out]; simp [upS, ha, hb], ⟨_, rfl⟩⟩
  case rest =>
  obtain ⟨rfl, nn2, rfl⟩ := hcut
  go_wp2_with fail
  rw [rounds_succ]
  go_upto_block 3 with fail
  go_cut [6] from 20 to 47 (fun vv wx => vv = .float .f32 m3 ∧ Drw ((w.alloc (.cells #[.complex .f32 s0 s1, .complex .f32 s2 s3, .complex .f32 s4 s5, .complex .f32 s6 s7] 26)).alloc (.cells #[.complex .f32 t0 t1, .complex .f32 t2 t3, .complex .f32 t4 t5, .complex .f32 t6 t7] 26)) wx)
  case first =>
    cases ha : (FloatKind.f32.format.order z6 m2 == some .gt) with
    | true =>
      cases hb : (FloatKind.f32.format.order z7 z6 == some .gt) with
      | true =>
        go_wp2_with fail
        go_region_held3 (fun w' => w'.cell? ⟨w.heap.size, 3, none⟩ = some (.complex .f32 s6 s7) ∧ w'.cell? ⟨w.heap.size + 1, 3, none⟩ = some (.complex .f32 t6 t7)) (((repeat' apply And.intro) <;> (first | (with_reducible assumption) | (go_simp; done))))
          (first | (go_at_call 189; with_reducible refine (L3 _).mono ?_; rintro e w' ⟨rfl, rfl⟩))
        rename_i hh; clear hh
        go_wp2_with fail
        refine (W3 _).mono ?_; rintro e w' ⟨rfl, mm, rfl⟩
        go_wp2_with fail
        refine (Z6 _).mono ?_; rintro e w' ⟨rfl, rfl⟩
        go_wp2_with fail
        refine (Z7 _).mono ?_; rintro e w' ⟨rfl, rfl⟩
        go_wp2_with fail
        go_meet
        refine ⟨by rw [HM3.out]; simp [upS, ha, hb], ⟨_, rfl⟩⟩
      | false =>
        go_wp2_with fail
        go_region_held3 (fun w' => w'.cell? ⟨w.heap.size, 3, none⟩ = some (.complex .f32 s6 s7) ∧ w'.cell? ⟨w.heap.size + 1, 3, none⟩ = some (.complex .f32 t6 t7)) (((repeat' apply And.intro) <;> (first | (with_reducible assumption) | (go_simp; done))))
          (first | (go_at_call 189; with_reducible refine (L3 _).mono ?_; rintro e w' ⟨rfl, rfl⟩))
        rename_i hh; clear hh
        go_wp2_with fail
        refine (W3 _).mono ?_; rintro e w' ⟨rfl, mm, rfl⟩
        go_wp2_with fail
        refine (Z6 _).mono ?_; rintro e w' ⟨rfl, rfl⟩
        go_wp2_with fail
        refine (Z7 _).mono ?_; rintro e w' ⟨rfl, rfl⟩
        go_wp2_with fail
        go_meet
        refine ⟨by rw [HM3.out]; simp [upS, ha, hb], ⟨_, rfl⟩⟩
    | false =>
      cases hb : (FloatKind.f32.format.order z7 m2 == some .gt) with
      | true =>
        go_wp2_with fail
        go_region_held3 (fun w' => w'.cell? ⟨w.heap.size, 3, none⟩ = some (.complex .f32 s6 s7) ∧ w'.cell? ⟨w.heap.size + 1, 3, none⟩ = some (.complex .f32 t6 t7)) (((repeat' apply And.intro) <;> (first | (with_reducible assumption) | (go_simp; done))))
          (first | (go_at_call 189; with_reducible refine (L3 _).mono ?_; rintro e w' ⟨rfl, rfl⟩))
        rename_i hh; clear hh
        go_wp2_with fail
        refine (W3 _).mono ?_; rintro e w' ⟨rfl, mm, rfl⟩
        go_wp2_with fail
        refine (Z6 _).mono ?_; rintro e w' ⟨rfl, rfl⟩
        go_wp2_with fail
        refine (Z7 _).mono ?_; rintro e w' ⟨rfl, rfl⟩
        go_wp2_with fail
        go_meet
        refine ⟨by rw [HM3.out]; simp [upS, ha, hb], ⟨_, rfl⟩⟩
      | false =>
        go_wp2_with fail
        go_region_held3 (fun w' => w'.cell? ⟨w.heap.size, 3, none⟩ = some (.complex .f32 s6 s7) ∧ w'.cell? ⟨w.heap.size + 1, 3, none⟩ = some (.complex .f32 t6 t7)) (((repeat' apply And.intro) <;> (first | (with_reducible assumption) | (go_simp; done))))
          (first | (go_at_call 189; with_reducible refine (L3 _).mono ?_; rintro e w' ⟨rfl, rfl⟩))
        rename_i hh; clear hh
        go_wp2_with fail
        refine (W3 _).mono ?_; rintro e w' ⟨rfl, mm, rfl⟩
        go_wp2_with fail
        refine (Z6 _).mono ?_; rintro e w' ⟨rfl, rfl⟩
        go_wp2_with fail
        refine (Z7 _).mono ?_; rintro e w' ⟨rfl, rfl⟩
        go_wp2_with fail
        go_meet
        refine ⟨by rw [HM3.out]; simp [upS, ha, hb], ⟨_, rfl⟩⟩
  case rest =>
  obtain ⟨rfl, nn3, rfl⟩ := hcut
  go_wp2_with fail
  rw [rounds_succ]
  go_wp2_with fail
  rw [rounds_succ]
  go_wp2
  refine bodyPost_ret (v := .tuple #[.float .f32 m3, .bool true]) (by simp [results, Try.results166, go_sem]) rfl ⟨rfl, ?_⟩
  exact (((New.refl w).alloc _).alloc _).drewN _
end Go.Proofs.Ytmbjomjpnfnbkaa
