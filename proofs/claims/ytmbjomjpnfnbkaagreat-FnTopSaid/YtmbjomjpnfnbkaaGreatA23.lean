/-
  Walks of the program's root and numbers of halvings.
-/
import Derived.Test.YtmbjomjpnfnbkaaGreatD20
import Derived.Test.YtmbjomjpnfnbkaaGreatK2
import Derived.Test.YtmbjomjpnfnbkaaGreatP1
import Derived.Test.YtmbjomjpnfnbkaaGreatA9
set_option linter.unusedSimpArgs false
set_option linter.unusedVariables false
namespace Go.Proofs.YtmbjomjpnfnbkaaGreat
open Go.RowKit Flt

theorem sqrt_run {x r : Nat} (h : D.sqrt x = some r) (w : World) : (callFunc 115 #[.float .f64 x]).run Tryz.prog w = .ok (.value (.float .f64 r)) w := by
  rw [run_callFunc_extern (e := Extern.MathSqrt.sqrt) Tryz.func115 (by kernel_rfl) (by kernel_rfl) (by kernel_rfl) (by kernel_rfl)]
  have e : FloatKind.f64.format.sqrt x = some r := h
  have e2 : Extern.MathSqrt.sqrt #[.float .f64 x] = (match FloatKind.f64.format.sqrt x with | some r => pure (.float .f64 r) | none => do pure (.float .f64 (← choose (.nanBits .f64 x x)))) := rfl
  rw [e2, e]
  rfl
theorem mathSqrt_c {x r : Nat} (h : D.sqrt x = some r) (w : World) :
    Calls Tryz.prog 106 #[.float .f64 x] w fun e w' => e = .returned (.float .f64 r) ∧ w = w' := by
  have hr := fun w => sqrt_run h w
  clear h
  go_enter Tryz.func106, Tryz.ntmps106
  go_wp2
  go_ret; exact ⟨rfl, rfl⟩

theorem root_c (b : Nat) (c : Int) (x : Nat) (w : World) (hx : fin S x = true) (h1 : D.sqrt (cv x) = some (sqD x)) (h2 : fin D (sqD x) = true) (h3 : fin S (rootS x) = true) (hA : At b c w) :
    Calls Tryz.prog 81 #[.pointer (some ⟨b, 0, none⟩), .float .f32 x] w fun e w' => e = .returned (.float .f32 (rnd (rootS x) c).2) ∧ w' = w.setCell ⟨b, 0, none⟩ (.int .i64 (rnd (rootS x) c).1) := by
  have k1 := conv_run (nn_of_fin hx)
  have K := hid (fun w => mathSqrt_c h1 w)
  have k2 : ∀ w : World, (convert 103 38 (.float .f64 (sqD x))).run Tryz.prog w = .ok (.float .f32 (rootS x)) w := fun w => conv64_run h2 h3 w
  have KR := hid (fun w hA => round_c b c (rootS x) w (nn_of_fin h3) hA)
  clear h1 h2 h3 hx
  generalize rootS x = r at *
  generalize sqD x = d at *
  go_enter Tryz.func81, Tryz.ntmps81
  go_wp2_with fail
  with_reducible refine (K.out _).mono ?_; rintro e w' ⟨rfl, rfl⟩
  go_wp2_with fail
  with_reducible refine (KR.out _ hA).mono ?_; rintro e w' ⟨rfl, rfl⟩
  go_wp2
  go_ret; exact ⟨rfl, rfl⟩

theorem rnd_id {x : Nat} (hf : fin S x = true) (hz : zn x = x) : rnd x 0 = (0, x) := by rw [rnd_g hf, hz]
set_option maxHeartbeats 2000000 in
theorem halved_c (b : Nat) (n : Nat) (w : World) (hn : n ≤ 24) (hA : At b 0 w) :
    Calls Tryz.prog 104 #[.pointer (some ⟨b, 0, none⟩), .int .i64 n] w fun e w' => e = .returned (.tuple #[.float .f32 (hC n), .float .f32 (hS n)]) ∧ w = w' := by
  have hs := hid hA.self
  go_enter Tryz.func104, Tryz.ntmps104
  go_wp2_with fail
  go_loopw [6, 7, 9] (fun c s i wr => ∃ k : Nat, k ≤ n ∧ i = .int .i64 k ∧ c = .float .f32 (hC k) ∧ s = .float .f32 (hS k) ∧ w = wr) (fun _ _ i _ => n - (intOf i).toNat)
  case atStart => exact ⟨0, Nat.zero_le _, rfl, rfl, rfl, rfl⟩
  case round =>
    obtain ⟨k, hk, rfl, rfl, rfl, rfl⟩ := hrel
    by_cases hlt : k < n
    · have H := half_of (k := k) (by omega)
      have H' := half_of (k := k + 1) (by omega)
      have hkn : (k : Int) < (n : Int) := by omega
      have e1 : addM 1065353216 (hC k) 0 = (0, adds 1065353216 (hC k)) := rnd_id H.f1 H.z1
      have e2 : divM (adds 1065353216 (hC k)) 1073741824 0 = (0, hX k) := by
        rw [divM_e (Eqv.refl H.f1) (Eqv.refl fin_2) (by rw [val2]; decide) 0]; exact rnd_id H.fx H.zx
      have e3 : rnd (rootS (hX k)) 0 = (0, hC (k + 1)) := rnd_id H'.fc H'.zc
      have e4 : addM (hC (k + 1)) (hC (k + 1)) 0 = (0, adds (hC (k + 1)) (hC (k + 1))) := rnd_id H.fd H.zd
      have e5 : divM (hS k) (adds (hC (k + 1)) (hC (k + 1))) 0 = (0, hS (k + 1)) := by
        rw [divM_e (Eqv.refl H.fs) (Eqv.refl H.fd) (nz_val H.fd H.nd) 0]; exact rnd_id H'.fs H'.zs
      have K1 := hid (fun w hA => add_c b 0 1065353216 (hC k) w fin_1 H.fc hA)
      have K2 := hid (fun w hA => div_c b 0 (adds 1065353216 (hC k)) 1073741824 w H.f1 fin_2 hA)
      have K3 := hid (fun w hA => root_c b 0 (hX k) w H.fx H.sq H.fsq H.froot hA)
      have K4 := hid (fun w hA => double_c b 0 (hC (k + 1)) w H'.fc hA)
      have K5 := hid (fun w hA => div_c b 0 (hS k) (adds (hC (k + 1)) (hC (k + 1))) w H.fs H.fd hA)
      have E1 := hid e1
      have E2 := hid e2
      have E3 := hid e3
      have E4 := hid e4
      have E5 := hid e5
      rw [E1.out] at K1
      rw [E2.out] at K2
      rw [E3.out] at K3
      rw [E4.out] at K4
      rw [E5.out] at K5
      clear H H' e1 e2 e3 e4 e5
      generalize hc1 : hC (k + 1) = c1 at *
      generalize hs1 : hS (k + 1) = s1 at *
      have G1 := hid hc1
      have G2 := hid hs1
      clear hc1 hs1
      generalize hX k = x at *
      go_wp2_with fail
      with_reducible refine (K1.out _ hA).mono ?_; rintro e w' ⟨rfl, rfl⟩
      rw [hs.out]
      go_wp2_with fail
      with_reducible refine (K2.out _ hA).mono ?_; rintro e w' ⟨rfl, rfl⟩
      rw [hs.out]
      go_wp2_with fail
      with_reducible refine (K3.out _ hA).mono ?_; rintro e w' ⟨rfl, rfl⟩
      rw [hs.out]
      go_wp2_with fail
      with_reducible refine (K4.out _ hA).mono ?_; rintro e w' ⟨rfl, rfl⟩
      rw [hs.out]
      go_wp2_with fail
      with_reducible refine (K5.out _ hA).mono ?_; rintro e w' ⟨rfl, rfl⟩
      rw [hs.out]
      go_wp2_with fail
      go_roundw
      case rel => exact ⟨k + 1, by omega, by go_num, by rw [G1.out], by rw [G2.out], trivial⟩
      case measure => simp [intOf]; omega
    · have hk' : k = n := by omega
      subst hk'
      have hkn : ¬ (k : Int) < (k : Int) := by omega
      go_wp2
      refine bodyPost_ret (v := .tuple #[.float .f32 (hC k), .float .f32 (hS k)]) (by simp [results, Tryz.results104, go_sem]) rfl ⟨rfl, rfl⟩

/-- The parts of a table about an axis. -/
theorem ofParts_zn {p x y z : Nat} (hp : Lw 0 p) (hx : Lw 0 x) (hy : Lw 0 y) (hz : Lw 0 z) : ofPartsM p x y z 0 = nz (tabS p x y z) :=
  ofPartsM_g (Eqv.refl hp.2.1) (Eqv.refl hx.2.1) (Eqv.refl hy.2.1) (Eqv.refl hz.2.1) hp.1 hx.1 hy.1 hz.1 hp.1 hx.1 hy.1 hz.1
end Go.Proofs.YtmbjomjpnfnbkaaGreat
