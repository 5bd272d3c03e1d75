/-
  Walks of the reference's powers of two, roots and numbers of halvings.
-/
import Derived.Test.YtmbjomjpnfnbkaaGreatP15
import Derived.Test.YtmbjomjpnfnbkaaGreatD2
import Derived.Test.YtmbjomjpnfnbkaaGreatK2
set_option linter.unusedSimpArgs false
set_option linter.unusedVariables false
namespace Go.Proofs.YtmbjomjpnfnbkaaGreat
open Go.RowKit Flt

set_option maxHeartbeats 1000000 in
theorem l01TwoU_c (n : Nat) (w : World) (hn : n ≤ 60) :
    Calls Tryz.prog 111 #[.int .i64 n] w fun e w' => e = .returned (.float .f64 (twoU n)) ∧ w = w' := by
  go_enter Tryz.func111, Tryz.ntmps111
  go_wp2_with fail
  go_loopw [0, 3] (fun i y wr => ∃ k : Nat, k ≤ n ∧ i = .int .i64 ((n : Int) - k) ∧ y = .float .f64 (twoU k) ∧ w = wr) (fun i _ _ => (intOf i).toNat)
  case atStart => exact ⟨0, Nat.zero_le _, by simp, rfl, rfl⟩
  case round =>
    obtain ⟨k, hk, rfl, rfl, rfl⟩ := hrel
    by_cases hlt : k < n
    · have hpos : (0 : Int) < (n : Int) - k := by omega
      have hw : IntKind.i64.wrap ((n : Int) - k - 1) = (n : Int) - k - 1 := wrap_small (by omega) (by omega)
      have km := fun (t : TypeId) (w : World) => run_float_arith (P := Tryz.prog) w .mul t .f64 (twoU k) 4611686018427387904 (twoU (k + 1)) (two_of (by omega)).1
      generalize h1 : twoU (k + 1) = y1 at *
      have H1 := hid h1
      clear h1
      go_wp2_with fail
      go_roundw
      case rel => exact ⟨k + 1, by omega, by go_num, by rw [H1.out], trivial⟩
      case measure => simp [intOf]; omega
    · have hk' : k = n := by omega
      subst hk'
      have hpos : ¬ (0 : Int) < (k : Int) - k := by omega
      have hpos2 : ¬ (k : Int) - k < 0 := by omega
      go_wp2_with fail
      refine wp_loop_rounds 1 ?_; rw [rounds_succ]
      go_wp2
      go_ret
      exact ⟨rfl, rfl⟩

set_option maxHeartbeats 1000000 in
theorem l01TwoD_c (n : Nat) (w : World) (hn : n ≤ 60) :
    Calls Tryz.prog 111 #[.int .i64 (-(n : Int))] w fun e w' => e = .returned (.float .f64 (twoD n)) ∧ w = w' := by
  have hneg : ¬ (0 : Int) < -(n : Int) := by omega
  go_enter Tryz.func111, Tryz.ntmps111
  go_wp2_with fail
  refine wp_loop_rounds 1 ?_; rw [rounds_succ]
  go_wp2_with fail
  go_loopw [0, 3] (fun i y wr => ∃ k : Nat, k ≤ n ∧ i = .int .i64 ((k : Int) - n) ∧ y = .float .f64 (twoD k) ∧ w = wr) (fun i _ _ => (- intOf i).toNat)
  case atStart => exact ⟨0, Nat.zero_le _, by simp, rfl, rfl⟩
  case round =>
    obtain ⟨k, hk, rfl, rfl, rfl⟩ := hrel
    by_cases hlt : k < n
    · have hpos : (k : Int) - n < 0 := by omega
      have hw : IntKind.i64.wrap ((k : Int) - n + 1) = (k : Int) - n + 1 := wrap_small (by omega) (by omega)
      have km := fun (t : TypeId) (w : World) => run_float_arith (P := Tryz.prog) w .quo t .f64 (twoD k) 4611686018427387904 (twoD (k + 1)) (two_of (by omega)).2
      generalize h1 : twoD (k + 1) = y1 at *
      have H1 := hid h1
      clear h1
      go_wp2_with fail
      go_roundw
      case rel => exact ⟨k + 1, by omega, by go_num, by rw [H1.out], trivial⟩
      case measure => simp [intOf]; omega
    · have hk' : k = n := by omega
      subst hk'
      have hpos2 : ¬ (k : Int) - k < 0 := by omega
      go_wp2
      go_ret
      exact ⟨rfl, rfl⟩

theorem l01Two48_c (w : World) : Calls Tryz.prog 111 #[.int .i64 48] w fun e w' => e = .returned (.float .f64 (twoU 48)) ∧ w = w' := l01TwoU_c 48 w (by decide)
theorem l01Two50_c (w : World) : Calls Tryz.prog 111 #[.int .i64 50] w fun e w' => e = .returned (.float .f64 (twoU 50)) ∧ w = w' := l01TwoU_c 50 w (by decide)
/-- The bits of the reference's root. -/
def bF (i : Nat) : Nat := 2 ^ (25 - i) / 2
theorem bF_pow {i : Nat} (h : i < 25) : bF i = 2 ^ (24 - i) := by
  unfold bF
  rw [show 25 - i = (24 - i) + 1 by omega, Nat.pow_succ]; omega
theorem bF_succ {i : Nat} (h : i < 25) : bF (i + 1) = bF i / 2 := by
  unfold bF
  rw [show 25 - i = (25 - (i + 1)) + 1 by omega, Nat.pow_succ]; omega
theorem bF_le {i : Nat} : bF i ≤ 16777216 := by
  unfold bF
  have : 2 ^ (25 - i) ≤ 2 ^ 25 := Nat.pow_le_pow_right (by decide) (by omega)
  omega
theorem bF_pos {i : Nat} (h : i < 25) : 0 < bF i := by rw [bF_pow h]; exact Nat.two_pow_pos _
theorem rF_lt (n : Nat) : ∀ i, i ≤ 25 → rF n i + 2 ^ (25 - i) ≤ 2 ^ 25
  | 0, _ => by simp [rF]
  | i + 1, h => by
    have ih := rF_lt n i (by omega)
    have e : 2 ^ (25 - i) = 2 ^ (24 - i) + 2 ^ (24 - i) := by rw [show 25 - i = (24 - i) + 1 by omega, Nat.pow_succ]; omega
    have e2 : 2 ^ (25 - (i + 1)) = 2 ^ (24 - i) := by rw [show 25 - (i + 1) = 24 - i by omega]
    rw [e] at ih
    rw [e2]
    have er : rF n (i + 1) = rF n i + 2 ^ (24 - i) ∨ rF n (i + 1) = rF n i := by
      unfold rF
      split
      · exact .inl (by cases i <;> rfl)
      · exact .inr (by cases i <;> rfl)
    generalize (2 : Nat) ^ (24 - i) = P at *
    generalize (2 : Nat) ^ 25 = Q at *
    omega
theorem rF_le {n i : Nat} (h : i ≤ 25) : rF n i ≤ 33554432 := by
  have h1 := rF_lt n i h
  have e : (2 : Nat) ^ 25 = 33554432 := by decide
  rw [e] at h1
  exact Nat.le_trans (Nat.le_add_right _ _) h1
theorem rF_succ {n i : Nat} (h : i < 25) : rF n (i + 1) = if (rF n i + bF i) * (rF n i + bF i) ≤ n then rF n i + bF i else rF n i := by
  rw [bF_pow h]; rfl
theorem sq_le {r b : Nat} (h1 : r ≤ 33554432) (h2 : b ≤ 16777216) : (r + b) * (r + b) ≤ 2533274790395904 := by
  have := Nat.mul_le_mul (show r + b ≤ 50331648 by omega) (show r + b ≤ 50331648 by omega)
  omega

theorem even_facts (n : Nat) (h : rF n 25 ≤ 33554432) : ∃ e : Nat, ((rF n 25 : Nat) : Int) - ((rF n 25 : Nat) : Int) % 2 = (e : Int) ∧ e ≤ 33554432 ∧ evenOf n = if (e + 1) * (e + 1) < n then e + 2 else e :=
  ⟨rF n 25 - rF n 25 % 2, by omega, by omega, rfl⟩
set_option maxHeartbeats 4000000 in
set_option maxRecDepth 5000 in
theorem l01Root_c (x : Nat) (w : World) (hx : okR x = true) :
    Calls Tryz.prog 94 #[.float .f32 x] w fun e w' => e = .returned (.float .f32 (rootQ x)) ∧ w = w' := by
  unfold okR at hx
  simp only [Bool.and_eq_true, Bool.or_eq_true, beq_iff_eq, decide_eq_true_eq, List.all_eq_true, List.mem_range] at hx
  obtain ⟨⟨⟨⟨⟨⟨⟨⟨⟨f0, o0⟩, A1⟩, A2⟩, A3⟩, A4⟩, A5⟩, A6⟩, A7⟩, A8⟩ := hx
  have hcnt : cnt x ≤ 25 := by unfold cnt; split <;> omega
  have c0 := conv_run (nn_of_fin f0)
  have A1' := hid A1
  have Y0 := hid (show yF x 0 = cv x from rfl)
  have H8 := hid (conv64_run A7 A8)
  have km := fun (t : TypeId) (w : World) => run_float_arith (P := Tryz.prog) w .mul t .f64 _ _ _ A6
  have kc := fun w => run_convert_float_int (P := Tryz.prog) (w := w) 103 2 .f64 .i64 _ _ (by kernel_rfl) Tryz.underlying2 A4
  have hE : Hid (rootQ x = S.write (D.read (muld (floatOfInt .f64 (evenOf (nOf x) : Int)) (twoD (cnt x))))) := hid rfl
  generalize rootQ x = q at *
  rw [← hE.out] at H8
  clear A1 A4 A6 A7 A8 f0 hE
  generalize muld (floatOfInt .f64 (evenOf (nOf x) : Int)) (twoD (cnt x)) = m at *
  generalize hn : nOf x = n at *
  generalize hc : cnt x = c at *
  clear hn hc
  have hEv := hid (rfl : evenOf n = evenOf n)
  go_enter Tryz.func94, Tryz.ntmps94
  go_wp2_with fail
  rw [← Y0.out]
  go_loopw [3, 4] (fun y k wr => ∃ j : Nat, j ≤ c ∧ y = .float .f64 (yF x j) ∧ k = .int .i64 j ∧ w = wr) (fun _ k _ => c - (intOf k).toNat)
  case atStart => exact ⟨0, Nat.zero_le _, rfl, rfl, rfl⟩
  case round =>
    obtain ⟨j, hj, rfl, rfl, rfl⟩ := hrel
    by_cases hlt : j < c
    · obtain ⟨b1, b2⟩ := A1'.out j hlt
      have o1 : FloatKind.f64.format.order (yF x j) (twoU 48) = some .lt := b1
      have ky := fun (t : TypeId) (w : World) => run_float_arith (P := Tryz.prog) w .mul t .f64 _ _ _ b2
      generalize h1 : yF x (j + 1) = y1 at *
      have H1 := hid h1
      clear h1 b1 b2
      go_wp2_with fail
      with_reducible refine (l01Two48_c _).mono ?_; rintro e w' ⟨rfl, rfl⟩
      go_wp2_with fail
      go_roundw
      case rel => exact ⟨j + 1, by omega, by rw [H1.out], by go_num, trivial⟩
      case measure => simp [intOf]; omega
    · have hj' : j = c := by omega
      subst hj'
      have o3 : FloatKind.f64.format.order (yF x j) (twoU 50) = some .lt := A3
      have o2 : (FloatKind.f64.format.order (yF x j) (twoU 48) == some .lt) = false := by
        have e : FloatKind.f64.format.order (yF x j) (twoU 48) = D.order (yF x j) (twoU 48) := rfl
        rw [e]
        rcases A2 with h | h <;> rw [h] <;> rfl
      clear A2 A3
      go_wp2_with fail
      with_reducible refine (l01Two48_c _).mono ?_; rintro e w' ⟨rfl, rfl⟩
      go_wp2_with fail
      refine wp_loop_rounds 1 ?_; rw [rounds_succ]
      go_wp2_with fail
      with_reducible refine (l01Two50_c _).mono ?_; rintro e w' ⟨rfl, rfl⟩
      go_wp2_with fail
      go_loopw [6, 7] (fun r b wr => ∃ i : Nat, i ≤ 25 ∧ r = .int .i64 (rF n i) ∧ b = .int .i64 (bF i) ∧ w = wr) (fun _ b _ => (intOf b).toNat)
      case atStart => exact ⟨0, Nat.zero_le _, rfl, rfl, rfl⟩
      case round =>
        obtain ⟨i, hi, rfl, rfl, rfl⟩ := hrel
        by_cases hl2 : i < 25
        · have hb0 := bF_pos hl2
          have hb1 := bF_le (i := i)
          have hr1 := rF_le (n := n) hi
          have hbs := bF_succ hl2
          have hrs := hid (rF_succ (n := n) hl2)
          have hsq := sq_le hr1 hb1
          have hpos : (0 : Int) < (bF i : Int) := by omega
          have w1 : IntKind.i64.wrap ((rF n i : Int) + (bF i : Int)) = (rF n i : Int) + (bF i : Int) := wrap_small (by omega) (by omega)
          have esq : ((rF n i : Int) + (bF i : Int)) * ((rF n i : Int) + (bF i : Int)) = (((rF n i + bF i) * (rF n i + bF i) : Nat) : Int) := by push_cast; rfl
          have w2 : IntKind.i64.wrap (((rF n i : Int) + (bF i : Int)) * ((rF n i : Int) + (bF i : Int))) = (((rF n i + bF i) * (rF n i + bF i) : Nat) : Int) := by rw [esq]; exact wrap_small (by omega) (by omega)
          have w3 : (bF i : Int).tdiv 2 = ((bF i / 2 : Nat) : Int) := by rw [Int.tdiv_eq_ediv_of_nonneg (by omega)]; rfl
          clear esq
          have HB := hid (show ((bF i : Int) / 2) = ((bF (i + 1) : Nat) : Int) by rw [hbs]; rfl)
          have hlow : bF (i + 1) < bF i := by omega
          clear hbs
          by_cases ht : (rF n i + bF i) * (rF n i + bF i) ≤ n
          · have ht' : (((rF n i + bF i) * (rF n i + bF i) : Nat) : Int) ≤ (n : Int) := Int.ofNat_le.2 ht
            have HR := hid (show ((rF n i : Int) + (bF i : Int)) = ((rF n (i + 1) : Nat) : Int) by rw [hrs.out, if_pos ht]; rfl)
            clear ht hrs hsq
            generalize (rF n i + bF i) * (rF n i + bF i) = sq at *
            go_wp2_with fail
            go_roundw
            case rel => exact ⟨i + 1, by omega, by rw [HR.out], by rw [HB.out], trivial⟩
            case measure => rw [HB.out]; simp [intOf]; omega
          · have ht' : ¬ (((rF n i + bF i) * (rF n i + bF i) : Nat) : Int) ≤ (n : Int) := fun hc => ht (Int.ofNat_le.1 hc)
            have HR := hid (show ((rF n i : Nat) : Int) = ((rF n (i + 1) : Nat) : Int) by rw [hrs.out, if_neg ht])
            clear ht hrs hsq
            generalize (rF n i + bF i) * (rF n i + bF i) = sq at *
            go_wp2_with fail
            go_roundw
            case rel => exact ⟨i + 1, by omega, by rw [HR.out], by rw [HB.out], trivial⟩
            case measure => rw [HB.out]; simp [intOf]; omega
        · have hi' : i = 25 := by omega
          subst hi'
          have hr1 := rF_le (n := n) (i := 25) (Nat.le_refl _)
          have hb0 : bF 25 = 0 := by decide
          have hpos : ¬ (0 : Int) < (bF 25 : Int) := by rw [hb0]; decide
          obtain ⟨e, he, hle, hev⟩ := even_facts n hr1
          have k8 := H8.out
          have w1 : IntKind.i64.wrap ((e : Int) + 1) = (e : Int) + 1 := wrap_small (by omega) (by omega)
          have hsq : (e + 1) * (e + 1) ≤ 1125899973951489 := Nat.mul_le_mul (show e + 1 ≤ 33554433 by omega) (show e + 1 ≤ 33554433 by omega)
          have esq : ((e : Int) + 1) * ((e : Int) + 1) = (((e + 1) * (e + 1) : Nat) : Int) := by push_cast; rfl
          have w2 : IntKind.i64.wrap (((e : Int) + 1) * ((e : Int) + 1)) = (((e + 1) * (e + 1) : Nat) : Int) := by rw [esq]; exact wrap_small (by omega) (by omega)
          clear esq
          by_cases ht : (e + 1) * (e + 1) < n
          · have ht' : (((e + 1) * (e + 1) : Nat) : Int) < (n : Int) := Int.ofNat_lt.2 ht
            have ee : ((evenOf n : Nat) : Int) = (e : Int) + 2 := by rw [hev, if_pos ht]; rfl
            rw [ee] at km
            clear ee hev ht hEv
            generalize (e + 1) * (e + 1) = sq at *
            go_wp2_with fail
            with_reducible refine (l01TwoD_c j _ (by omega)).mono ?_; rintro e w' ⟨rfl, rfl⟩
            go_wp2
            go_ret
            exact ⟨rfl, rfl⟩
          · have ht' : ¬ (((e + 1) * (e + 1) : Nat) : Int) < (n : Int) := fun hc => ht (Int.ofNat_lt.1 hc)
            have ee : ((evenOf n : Nat) : Int) = (e : Int) := by rw [hev, if_neg ht]
            rw [ee] at km
            clear ee hev ht hEv
            generalize (e + 1) * (e + 1) = sq at *
            go_wp2_with fail
            with_reducible refine (l01TwoD_c j _ (by omega)).mono ?_; rintro e w' ⟨rfl, rfl⟩
            go_wp2
            go_ret
            exact ⟨rfl, rfl⟩
end Go.Proofs.YtmbjomjpnfnbkaaGreat
