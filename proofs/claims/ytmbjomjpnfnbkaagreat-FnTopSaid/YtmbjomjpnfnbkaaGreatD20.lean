/-
  Walks of the reference's numbers of halvings and tables of pulses.
-/
import Derived.Test.YtmbjomjpnfnbkaaGreatD19
set_option linter.unusedSimpArgs false
set_option linter.unusedVariables false
namespace Go.Proofs.YtmbjomjpnfnbkaaGreat
open Go.RowKit Flt

/-- What is known of the numbers of halvings. -/
structure Half (k : Nat) : Prop where
  ok : okR (hX k) = true
  q : rootQ (hX k) = hC (k + 1)
  sq : D.sqrt (cv (hX k)) = some (sqD (hX k))
  fsq : fin D (sqD (hX k)) = true
  froot : fin S (rootS (hX k)) = true
  fc : fin S (hC k) = true
  fs : fin S (hS k) = true
  lc : hC k < 2 ^ 32
  ls : hS k < 2 ^ 32
  rc : rg S (hC k) ≤ rg S 1065353216
  rs : rg S (hS k) ≤ rg S 1065353216
  zc : zn (hC k) = hC k
  zs : zn (hS k) = hS k
  zx : zn (hX k) = hX k
  f1 : fin S (adds 1065353216 (hC k)) = true
  z1 : zn (adds 1065353216 (hC k)) = adds 1065353216 (hC k)
  fx : fin S (hX k) = true
  fd : fin S (adds (hC (k + 1)) (hC (k + 1))) = true
  zd : zn (adds (hC (k + 1)) (hC (k + 1))) = adds (hC (k + 1)) (hC (k + 1))
  nd : isZ (adds (hC (k + 1)) (hC (k + 1))) = false
  m2 : S.mul 1073741824 (hC (k + 1)) = some (adds (hC (k + 1)) (hC (k + 1)))
theorem half_of {k : Nat} (h : k < 25) : Half k := by
  have := okH_of h
  unfold okH at this
  simp only [Bool.and_eq_true, beq_iff_eq, decide_eq_true_eq] at this
  obtain ⟨⟨⟨⟨⟨⟨⟨⟨⟨⟨⟨⟨⟨⟨⟨⟨⟨⟨⟨⟨a1, a2⟩, a3⟩, a4⟩, a5⟩, a6⟩, a7⟩, a8⟩, a9⟩, a10⟩, a11⟩, a12⟩, a13⟩, a14⟩, a15⟩, a16⟩, a17⟩, a18⟩, a19⟩, a20⟩, a21⟩ := this
  exact ⟨a1, a2, a3, a4, a5, a6, a7, a8, a9, a10, a11, a12, a13, a14, a15, a16, a17, a18, a19, a20, a21⟩
theorem nz_val {x : Nat} (hf : fin S x = true) (h : isZ x = false) : val S x ≠ 0 := fun hc => by
  rw [(isZ_iff hf).2 hc] at h; cases h

set_option maxHeartbeats 2000000 in
theorem l03Halved_c (n : Nat) (w : World) (hn : n ≤ 24) :
    Calls Tryz.prog 88 #[.int .i64 n] w fun e w' => e = .returned (.tuple #[.float .f32 (hC n), .float .f32 (hS n)]) ∧ w = w' := by
  go_enter Tryz.func88, Tryz.ntmps88
  go_wp2_with fail
  go_loopw [0, 4, 5] (fun i c s wr => ∃ k : Nat, k ≤ n ∧ i = .int .i64 ((n : Int) - k) ∧ c = .float .f32 (hC k) ∧ s = .float .f32 (hS k) ∧ w = wr) (fun i _ _ _ => (intOf i).toNat)
  case atStart => exact ⟨0, Nat.zero_le _, by simp, rfl, rfl, rfl⟩
  case round =>
    obtain ⟨k, hk, rfl, rfl, rfl, rfl⟩ := hrel
    by_cases hlt : k < n
    · have H := half_of (k := k) (by omega)
      have H' := half_of (k := k + 1) (by omega)
      have hpos : (0 : Int) < (n : Int) - k := by omega
      have hw : IntKind.i64.wrap ((n : Int) - k - 1) = (n : Int) - k - 1 := wrap_small (by omega) (by omega)
      have k1 := fun (t : TypeId) (w : World) => run_float_arith (P := Tryz.prog) w .add t .f32 _ _ _ (adds_eq fin_1 H.fc).1
      have k2 := fun (t : TypeId) (w : World) => run_float_arith (P := Tryz.prog) w .quo t .f32 _ _ (hX k) (divs_eq H.f1 fin_2 (by rw [val2]; decide)).1
      have k3 := fun (t : TypeId) (w : World) => run_float_arith (P := Tryz.prog) w .mul t .f32 _ _ _ H.m2
      have k4 := fun (t : TypeId) (w : World) => run_float_arith (P := Tryz.prog) w .quo t .f32 _ _ (hS (k + 1)) (divs_eq H.fs H.fd (nz_val H.fd H.nd)).1
      have K := hid (fun w => l01Root_c (hX k) w H.ok)
      have HQ := hid H.q
      clear H H'
      go_wp2_with fail
      with_reducible refine (K.out _).mono ?_; rintro e w' ⟨rfl, rfl⟩
      rw [HQ.out]
      go_wp2_with fail
      go_roundw
      case rel => exact ⟨k + 1, by omega, by go_num, rfl, rfl, trivial⟩
      case measure => simp [intOf]; omega
    · have hk' : k = n := by omega
      subst hk'
      have hpos : ¬ (0 : Int) < (k : Int) - k := by omega
      go_wp2
      refine bodyPost_ret (v := .tuple #[.float .f32 (hC k), .float .f32 (hS k)]) (by simp [results, Tryz.results88, go_sem]) rfl ⟨rfl, rfl⟩

/-- The table of a pulse, bare. -/
def aboutS (axis : Nat) (c s : Nat) : C8 := if axis = 0 then tabS c s 0 0 else if axis = 1 then tabS c 0 s 0 else tabS c 0 0 s
set_option maxHeartbeats 1000000 in
theorem l03About_c (a c s : Nat) (w : World) (ha : a ≤ 2) :
    Calls Tryz.prog 89 #[.int .i64 a, .float .f32 c, .float .f32 s] w fun e w' => e = .returned (aboutS a c s).val ∧ New w w' := by
  have h3 : a = 0 ∨ a = 1 ∨ a = 2 := by omega
  rcases h3 with rfl | rfl | rfl
  · show Calls Tryz.prog 89 #[.int .i64 0, .float .f32 c, .float .f32 s] w fun e w' => e = .returned (tabS c s 0 0).val ∧ New w w'
    have K := hid (l03Table_c c s 0 0)
    generalize tabS c s 0 0 = t at *
    go_enter Tryz.func89, Tryz.ntmps89
    go_wp2_with fail
    with_reducible refine (K.out _).mono ?_; rintro e w1 ⟨rfl, hN⟩
    obtain ⟨l1, l2, l3⟩ := hN.laws
    go_wp2
    refine bodyPost_ret (v := t.val) (by simp [results, Tryz.results89, go_sem, l1, l2, l3]) rfl ⟨rfl, ?_⟩
    exact New.set4 (((New.refl w).alloc _).trans hN) (Nat.le_refl _) _ _ _ _
  · show Calls Tryz.prog 89 #[.int .i64 1, .float .f32 c, .float .f32 s] w fun e w' => e = .returned (tabS c 0 s 0).val ∧ New w w'
    have K := hid (l03Table_c c 0 s 0)
    generalize tabS c 0 s 0 = t at *
    go_enter Tryz.func89, Tryz.ntmps89
    go_wp2_with fail
    with_reducible refine (K.out _).mono ?_; rintro e w1 ⟨rfl, hN⟩
    obtain ⟨l1, l2, l3⟩ := hN.laws
    go_wp2
    refine bodyPost_ret (v := t.val) (by simp [results, Tryz.results89, go_sem, l1, l2, l3]) rfl ⟨rfl, ?_⟩
    exact New.set4 (((New.refl w).alloc _).trans hN) (Nat.le_refl _) _ _ _ _
  · show Calls Tryz.prog 89 #[.int .i64 2, .float .f32 c, .float .f32 s] w fun e w' => e = .returned (tabS c 0 0 s).val ∧ New w w'
    have K := hid (l03Table_c c 0 0 s)
    generalize tabS c 0 0 s = t at *
    go_enter Tryz.func89, Tryz.ntmps89
    go_wp2_with fail
    with_reducible refine (K.out _).mono ?_; rintro e w1 ⟨rfl, hN⟩
    obtain ⟨l1, l2, l3⟩ := hN.laws
    go_wp2
    refine bodyPost_ret (v := t.val) (by simp [results, Tryz.results89, go_sem, l1, l2, l3]) rfl ⟨rfl, ?_⟩
    exact New.set4 (((New.refl w).alloc _).trans hN) (Nat.le_refl _) _ _ _ _

theorem l03Unit_c (w : World) :
    Calls Tryz.prog 64 #[] w fun e w' => e = .returned (tabS 1065353216 0 0 0).val ∧ New w w' := by
  have K := hid (l03Table_c 1065353216 0 0 0)
  generalize tabS 1065353216 0 0 0 = t at *
  go_enter Tryz.func64, Tryz.ntmps64
  go_wp2_with fail
  with_reducible refine (K.out _).mono ?_; rintro e w1 ⟨rfl, hN⟩
  obtain ⟨l1, l2, l3⟩ := hN.laws
  go_wp2
  refine bodyPost_ret (v := t.val) (by simp [results, Tryz.results64, go_sem, l1, l2, l3]) rfl ⟨rfl, ?_⟩
  exact New.set4 (((New.refl w).alloc _).trans hN) (Nat.le_refl _) _ _ _ _

/-- The adjoint of a table, bare. -/
def adjS (t : C8) : C8 := ⟨t.c, t.a0, ng t.a1, t.c0, ng t.c1, t.b0, ng t.b1, t.d0, ng t.d1⟩
end Go.Proofs.YtmbjomjpnfnbkaaGreat
