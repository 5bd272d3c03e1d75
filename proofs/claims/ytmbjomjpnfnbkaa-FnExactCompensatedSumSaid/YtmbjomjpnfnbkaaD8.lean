/-
  Walks of the reference's error of a step.
-/
import Derived.Test.YtmbjomjpnfnbkaaP4
import Derived.Test.YtmbjomjpnfnbkaaD4
import Derived.Test.YtmbjomjpnfnbkaaE2
set_option linter.unusedSimpArgs false
set_option linter.unusedVariables false
namespace Go.Proofs.Ytmbjomjpnfnbkaa
open Go.RowKit Flt

abbrev toldF (r : Int × Nat) : Value := .tuple #[.float .f32 r.2, .int .i64 r.1]

set_option maxHeartbeats 2000000 in
theorem l09Error_c (x y z h : Nat) (w : World) (hx : fin S x = true) (hy : fin S y = true) (hz : fin S z = true) (hh : fin S h = true) :
    Calls Try.prog 134 #[V3 x y z, .float .f32 h] w fun e w' => e = .returned (toldF (errS x y z h)) ∧ New w w' := by
  have fk := half_fin hh
  have k0 := fun (t : TypeId) (w : World) => run_float_arith (P := Try.prog) w .quo t .f32 h 1073741824 _ (divs_eq hh fin_2 (by rw [val2]; decide)).1
  have C1 := fun w => l09Step_c x y z h w hx hy hz hh
  have C2 := fun w => l09Step_c x y z _ w hx hy hz fk
  have E : errS x y z h = errS x y z h := rfl
  conv at E => rhs; unfold errS
  simp only at E
  obtain ⟨la, ea⟩ := stepS_lw hx hy hz hh
  obtain ⟨lf, ef⟩ := stepS_lw hx hy hz fk
  generalize divs h 1073741824 = k at *
  generalize stepS x y z h = a at *
  generalize stepS x y z k = f at *
  clear hx hy hz hh fk
  rcases ea with ea | ea
  · rcases ef with ef | ef
    · rw [if_neg (by rw [ea]; simp), if_neg (by rw [ef]; simp)] at E
      have hp := (product_law lf lf (by decide) (by decide)).2
      have hd := (dist_law (k := 8) (la.mono (by decide)) hp (by decide) (by decide)).2
      have C3 := fun w => l03Times_c f f 3 3 w lf lf (by decide) (by decide)
      have C4 := fun w => l03Is_c (productS f f) w hp.fw
      have C5 := fun w => l05Distance_c a (productS f f) w la.fw hp.fw hd
      rw [E]
      clear E hp hd la lf
      obtain ⟨ac, a0, a1, a2, a3, a4, a5, a6, a7⟩ := a
      obtain ⟨fc, f0, f1, f2, f3, f4, f5, f6, f7⟩ := f
      simp only at ea ef
      subst ea; subst ef
      generalize productS ⟨0, f0, f1, f2, f3, f4, f5, f6, f7⟩ ⟨0, f0, f1, f2, f3, f4, f5, f6, f7⟩ = p at *
      obtain ⟨pc, p0, p1, p2, p3, p4, p5, p6, p7⟩ := p
      generalize distS _ _ = d at *
      go_enter Try.func134, Try.ntmps134
      go_wp2_with fail
      refine (C1 _).mono ?_; rintro e w1 ⟨rfl, hN1⟩
      obtain ⟨l1, l2, l3⟩ := hN1.laws
      go_wp2_with fail
      refine (C2 _).mono ?_; rintro e w2 ⟨rfl, hN2⟩
      obtain ⟨k1, k2, k3⟩ := ((hN1.alloc _).trans hN2).laws
      obtain ⟨i1, i2, i3⟩ := hN2.laws
      go_wp2_with fail
      refine (C3 _).mono ?_; rintro e w3 ⟨rfl, hN3⟩
      obtain ⟨j1, j2, j3⟩ := hN3.laws
      obtain ⟨m1, m2, m3⟩ := ((hN2.alloc _).trans hN3).laws
      go_wp2_with fail
      refine (C4 _).mono ?_; rintro e w4 ⟨rfl, hN4⟩
      obtain ⟨n1, n2, n3⟩ := hN4.laws
      obtain ⟨o1, o2, o3⟩ := ((hN2.alloc _).trans ((hN3.alloc _).trans hN4)).laws
      go_wp2_with fail
      refine (C5 _).mono ?_; rintro e w5 ⟨rfl, hN5⟩
      go_wp2
      refine bodyPost_ret (v := toldF (0, d)) (by simp [results, Try.results134, go_sem]) rfl ⟨rfl, ?_⟩
      exact ((((((((New.refl w).alloc _).trans hN1).alloc _).trans hN2).alloc _).trans hN3).alloc _).trans (hN4.trans hN5)
    · subst ef
      rw [if_neg (by rw [ea]; simp), if_pos (by decide)] at E
      rw [E]
      clear E la lf
      obtain ⟨ac, a0, a1, a2, a3, a4, a5, a6, a7⟩ := a
      simp only at ea
      subst ea
      go_enter Try.func134, Try.ntmps134
      go_wp2_with fail
      refine (C1 _).mono ?_; rintro e w1 ⟨rfl, hN1⟩
      obtain ⟨l1, l2, l3⟩ := hN1.laws
      go_wp2_with fail
      refine (C2 _).mono ?_; rintro e w2 ⟨rfl, hN2⟩
      simp only [bad8, C8.told]
      go_wp2
      refine bodyPost_ret (v := toldF (3, 0)) (by simp [results, Try.results134, go_sem]) rfl ⟨rfl, ?_⟩
      exact ((((((New.refl w).alloc _).trans hN1).alloc _).trans hN2).alloc _)
  · subst ea
    rw [if_pos (by decide)] at E
    rw [E]
    clear E la lf ef C2
    go_enter Try.func134, Try.ntmps134
    go_wp2_with fail
    refine (C1 _).mono ?_; rintro e w1 ⟨rfl, hN1⟩
    simp only [bad8, C8.told]
    go_wp2
    refine bodyPost_ret (v := toldF (3, 0)) (by simp [results, Try.results134, go_sem]) rfl ⟨rfl, ?_⟩
    exact ((((New.refl w).alloc _).trans hN1).alloc _)

/-- The reference's answer, its zero as it comes. -/
def errW (x y z h : Nat) : Int × Nat := if isFin4 x y z h = true then errS x y z h else (1, 0)

set_option maxHeartbeats 1000000 in
theorem l00ErrorOfStep_c (x y z h : Nat) (w : World) :
    Calls Try.prog 88 #[V3 x y z, .float .f32 h] w fun e w' => e = .returned (toldF (errW x y z h)) ∧ New w w' := by
  cases hv : (fin S x && fin S y && fin S z) with
  | false =>
    have hR : errW x y z h = (1, 0) := if_neg (by simp only [isFin4, hv]; simp)
    rw [hR]
    have Hv := hid hv
    clear hR hv
    go_enter Try.func88, Try.ntmps88
    go_wp2_with fail
    refine (l09Is_c x y z _).mono ?_; rintro e w1 ⟨rfl, hN⟩; rw [Hv.out]
    go_wp2
    refine bodyPost_ret (v := toldF (1, 0)) (by simp [results, Try.results88, go_sem]) rfl ⟨rfl, ?_⟩
    exact ((New.refl w).alloc _).trans hN
  | true =>
    cases hh : fin S h with
    | false =>
      have hR : errW x y z h = (1, 0) := if_neg (by simp only [isFin4, hv, hh]; simp)
      rw [hR]
      have Hv := hid hv
      have Hh := hid hh
      clear hR hv hh
      go_enter Try.func88, Try.ntmps88
      go_wp2_with fail
      refine (l09Is_c x y z _).mono ?_; rintro e w1 ⟨rfl, hN⟩; rw [Hv.out]
      go_wp2_with fail
      refine (fine_any h _).mono ?_; rintro e w' ⟨rfl, m, rfl⟩; rw [Hh.out]
      go_wp2
      refine bodyPost_ret (v := toldF (1, 0)) (by simp [results, Try.results88, go_sem]) rfl ⟨rfl, ?_⟩
      exact (((New.refl w).alloc _).trans hN).drewN _
    | true =>
      have hR : errW x y z h = errS x y z h := if_pos (by simp only [isFin4, hv, hh]; rfl)
      rw [hR]
      have Hv := hid hv
      have Hh := hid hh
      have hx : fin S x = true := by cases hc : fin S x <;> simp_all
      have hy : fin S y = true := by cases hc : fin S y <;> simp_all
      have hz : fin S z = true := by cases hc : fin S z <;> simp_all
      have hc := fun w => l09Error_c x y z h w hx hy hz hh
      clear hR hv
      generalize errS x y z h = R at *
      obtain ⟨r1, r2⟩ := R
      go_enter Try.func88, Try.ntmps88
      go_wp2_with fail
      refine (l09Is_c x y z _).mono ?_; rintro e w1 ⟨rfl, hN⟩; rw [Hv.out]
      obtain ⟨l1, l2, l3⟩ := hN.laws
      go_wp2_with fail
      refine (fine_any h _).mono ?_; rintro e w' ⟨rfl, m, rfl⟩; rw [Hh.out]
      go_wp2_with fail
      refine (hc _).mono ?_; rintro e w2 ⟨rfl, hN2⟩
      go_wp2
      refine bodyPost_ret (v := toldF (r1, r2)) (by simp [results, Try.results88, go_sem]) rfl ⟨rfl, ?_⟩
      exact (((New.refl w).alloc _).trans hN).trans ((Drw.new ⟨_, rfl⟩).trans hN2)

theorem specErrorOfStep_c (x y z h : Nat) (w : World) :
    Calls Try.prog 37 #[V3 x y z, .float .f32 h] w fun e w' => e = .returned (toldF ((errW x y z h).1, zn (errW x y z h).2)) ∧ New w w' := by
  have hc := fun w => l00ErrorOfStep_c x y z h w
  generalize errW x y z h = R at *
  obtain ⟨r1, r2⟩ := R
  go_enter Try.func37, Try.ntmps37
  go_wp2_with fail
  refine (hc _).mono ?_; rintro e w1 ⟨rfl, hN⟩
  go_wp2_with fail
  refine (l00Float_c r2 _).mono ?_; rintro e w2 ⟨rfl, rfl⟩
  go_wp2
  refine bodyPost_ret (v := toldF (r1, zn r2)) (by simp [results, Try.results37, go_sem]) rfl ⟨rfl, ?_⟩
  exact ((New.refl w).alloc _).trans hN
end Go.Proofs.Ytmbjomjpnfnbkaa
