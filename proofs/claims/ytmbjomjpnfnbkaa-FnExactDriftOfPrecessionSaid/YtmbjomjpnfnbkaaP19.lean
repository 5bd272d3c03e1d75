/-
  The sum of the squares of the four parts of a step of a field is at most 5/4.
-/
import Derived.Test.YtmbjomjpnfnbkaaP18
set_option linter.unusedSimpArgs false
set_option linter.unusedVariables false
namespace Flt
open Ieee Go

theorem nat_quo {X N C q : Nat} (h1 : N * q ≤ X) (h2 : N * C ≤ X) : (2 * q + 1) * N * C ≤ 2 * X * (C + 1) := by
  have e1 : (2 * q + 1) * N * C = 2 * (N * q) * C + N * C := by
    rw [Nat.add_mul, Nat.add_mul, Nat.one_mul, Nat.mul_assoc 2 q N, Nat.mul_comm q N]
  have e2 : 2 * (N * q) * C ≤ 2 * X * C := Nat.mul_le_mul_right _ (Nat.mul_le_mul_left _ h1)
  rw [e1, Nat.mul_add, Nat.mul_one]
  omega
theorem nat_quo0 {X N C q : Nat} (h1 : N * q ≤ X) : (2 * q) * N * C ≤ 2 * X * (C + 1) := by
  have e1 : (2 * q) * N * C = 2 * (N * q) * C := by rw [Nat.mul_assoc 2 q N, Nat.mul_comm q N]
  have e2 : 2 * (N * q) * C ≤ 2 * X * C := Nat.mul_le_mul_right _ (Nat.mul_le_mul_left _ h1)
  rw [e1, Nat.mul_add, Nat.mul_one]
  omega
theorem pow_split (N a : Nat) : 2 ^ (a + 1 + 24) = 2 ^ (a + 1) * 16 * 1048576 := by rw [Nat.pow_add]; rw [Nat.mul_assoc]
/-- A quotient's number is not much greater than the quotient. -/
theorem quo_up {x y : Nat} (hx : fin S x = true) (hy : fin S y = true) (h0 : val S y ≠ 0) : ab (dv (quo S x y)) * ab (val S y) ≤ ab (val S x) * (1048577 / 1048576) := by
  rw [dv_quo_abs, val_ab S S_good hx, val_ab S S_good hy]
  have hN0 : rmag S (rg S y) ≠ 0 := rmag_ne S (fun hc => h0 ((val_zero_iff S S_good hy).2 hc))
  have lM := rmag_S_log (rg S x)
  unfold rv
  generalize rmag S (rg S x) = M at *
  generalize rmag S (rg S y) = N at *
  generalize rplace S (rg S x) = i at *
  generalize rplace S (rg S y) = j at *
  have e4 : S.fractionBits = 23 := rfl
  rw [e4]
  generalize hmore : 23 + 2 + N.log2 - M.log2 = more at *
  generalize hX : M <<< more = X
  have hXv : mg X (i - more) = mg M i := by rw [← hX, mg_shl, show i - (more : Int) + more = i by omega]
  have hmag : (2 * (X / N) + (X % N != 0).toNat) * N * 1048576 ≤ 2 * X * 1048577 := by
    have q1 := Nat.div_add_mod X N
    by_cases hr : X % N = 0
    · have e : (X % N != 0).toNat = 0 := by simp [hr]
      rw [e, Nat.add_zero]
      exact nat_quo0 (Nat.mul_div_le X N)
    · have e : (X % N != 0).toNat = 1 := by simp [hr]
      have hX0 : X ≠ 0 := fun hc => by rw [hc] at hr; simp at hr
      have hM0 : M ≠ 0 := fun hc => by rw [hc] at hX; simp at hX; exact hX0 hX.symm
      have hbig : N * 1048576 ≤ X := by
        have a1 : 2 ^ M.log2 ≤ M := Nat.log2_self_le hM0
        have a2 : N < 2 ^ (N.log2 + 1) := Nat.lt_log2_self
        have a3 : M * 2 ^ more = X := by rw [← hX, Nat.shiftLeft_eq]
        have a4 : 2 ^ M.log2 * 2 ^ more ≤ M * 2 ^ more := Nat.mul_le_mul_right _ a1
        rw [← Nat.pow_add, show M.log2 + more = N.log2 + 1 + 24 by omega, pow_split N, a3] at a4
        refine Nat.le_trans (Nat.mul_le_mul_right _ ?_) a4
        omega
      rw [e]
      exact nat_quo (Nat.mul_div_le X N) hbig
  generalize 2 * (X / N) + (X % N != 0).toNat = q at *
  have hr : (q : Rat) * N * 1048576 ≤ 2 * X * 1048577 := by exact_mod_cast hmag
  have e1 : mg q (i - j - more - 1) * mg N j = ((q : Rat) * N) * 2 ^ (i - more - 1) := by
    unfold mg
    rw [show i - (more : Int) - 1 = (i - j - more - 1) + j by omega, zp_add]; grind
  have e2 : mg M i = (2 * X : Rat) * 2 ^ (i - more - 1) := by
    rw [← hXv]
    unfold mg
    have e7 : (2 : Rat) ^ (i - (more : Int)) = 2 ^ (i - (more : Int) - 1) * 2 := by
      have := zp_add (i - (more : Int) - 1) 1
      rw [Rat.zpow_one] at this
      rw [← this]; congr 1; omega
    rw [e7]; grind
  rw [e1, e2]
  have hp := Rat.le_of_lt (zp_pos (i - more - 1))
  have e3 := rmul_r hr hp
  grind

theorem tau_pos : 0 < tau := zp_pos _
theorem tau_small : tau ≤ 1 / 1048576 := by decide +kernel
theorem tau_128 {x : Nat} (h : fin S x = true) : tau * ab (val S x) ≤ 1 / 4096 := by
  have h1 := Rat.le_of_lt (lt_128 h)
  have h2 := rmul_l h1 (Rat.le_of_lt tau_pos)
  have h3 : tau * 2 ^ (128 : Int) = 1 / 4096 := by decide +kernel
  grind
theorem eps1 : (1 : Rat) + eps = 1048577 / 1048576 := by decide +kernel
theorem eps2 : (1 : Rat) - eps = 1048575 / 1048576 := by decide +kernel

end Flt
namespace Go.Proofs.Ytmbjomjpnfnbkaa
open Flt

/-- The step's quantities, and what is known of them. -/
theorem step_core {x y z h : Nat} (hx : fin S x = true) (hy : fin S y = true) (hz : fin S z = true) (hh : fin S h = true)
    (h1 : fin S (sqS x y z) = true) (h2 : fin S (muls (divs h 1073741824) (divs h 1073741824)) = true) (h3 : fin S (muls (muls (divs h 1073741824) (divs h 1073741824)) (sqS x y z)) = true)
    {d p f X Y Z : Nat} (ed : adds 1065353216 (muls (muls (divs h 1073741824) (divs h 1073741824)) (sqS x y z)) = d) (ep : divs (subs 1065353216 (muls (muls (divs h 1073741824) (divs h 1073741824)) (sqS x y z))) d = p) (ef : divs h d = f)
    (eX : muls f x = X) (eY : muls f y = Y) (eZ : muls f z = Z) (fX : fin S X = true) (fY : fin S Y = true) (fZ : fin S Z = true) :
    val S p * val S p + (val S X * val S X + val S Y * val S Y + val S Z * val S Z) ≤ 5 / 4 := by
  obtain ⟨_, _, _, md, md1, ms, mp, mf⟩ := stepS_mid hx hy hz hh h1 h2 h3
  obtain ⟨s1, s2, s3, s4⟩ := sqS_parts hx hy hz h1
  have pk := (muls_pos (half_fin hh)).val h2
  have pm := (sqS_pos hx hy hz).val h1
  have pq := (muls_pos2 h2 h1 pk pm).val h3
  have t0 := Rat.le_of_lt tau_pos
  have r0 := err_dn ((muls_eq hx hx).2.errS s1)
  have r1 := err_dn ((muls_eq hy hy).2.errS s2)
  have r2 := err_dn ((muls_eq hz hz).2.errS s3)
  have r3 := err_dn ((adds_eq s1 s2).2.errS s4)
  have r4 := err_dn ((adds_eq s4 s3).2.errS h1)
  have v0 := (muls_pos hx).val s1
  have v1 := (muls_pos hy).val s2
  have v2 := (muls_pos hz).val s3
  have v3 := (adds_pos (muls_pos hx) (muls_pos hy)).2.1.val s4
  have eM : val S (adds (adds (muls x x) (muls y y)) (muls z z)) = val S (sqS x y z) := rfl
  have fk := half_fin hh
  have n2 : val S 1073741824 ≠ 0 := by rw [val2]; decide
  have q1 := err_dn ((divs_eq hh fin_2 n2).2.errS fk)
  have q2 := half_quo hh
  have q3 := err_dn ((muls_eq fk fk).2.errS h2)
  have q4 := err_dn ((muls_eq h2 h1).2.errS h3)
  have q5 := err_dn ((adds_eq fin_1 h3).2.errS md)
  have d0 : val S (adds 1065353216 (muls (muls (divs h 1073741824) (divs h 1073741824)) (sqS x y z))) ≠ 0 := by grind
  have g1 := quo_up hh md d0
  have g2 := err_up ((divs_eq hh md d0).2.errS mf)
  have w1 := err_up ((subs_eq fin_1 h3).2.errS ms)
  have w2 := quo_up ms md d0
  have w3 := err_up ((divs_eq ms md d0).2.errS mp)
  have bK := tau_128 h2
  have bM := tau_128 h1
  rw [eM] at r4
  subst ed
  subst ef
  subst ep
  have x1 := err_up ((muls_eq mf hx).2.errS (by rw [eX]; exact fX))
  have y1 := err_up ((muls_eq mf hy).2.errS (by rw [eY]; exact fY))
  have z1 := err_up ((muls_eq mf hz).2.errS (by rw [eZ]; exact fZ))
  subst eX eY eZ
  rw [eps2] at r0 r1 r2 r3 r4 q1 q3 q4 q5
  rw [eps1] at g2 w1 w3 x1 y1 z1
  rw [val1] at q5 w1
  rw [ab_mul] at x1 y1 z1
  generalize val S (divs (subs 1065353216 (muls (muls (divs h 1073741824) (divs h 1073741824)) (sqS x y z))) (adds 1065353216 (muls (muls (divs h 1073741824) (divs h 1073741824)) (sqS x y z)))) = W at *
  generalize val S (muls (divs h (adds 1065353216 (muls (muls (divs h 1073741824) (divs h 1073741824)) (sqS x y z)))) x) = Xv at *
  generalize val S (muls (divs h (adds 1065353216 (muls (muls (divs h 1073741824) (divs h 1073741824)) (sqS x y z)))) y) = Yv at *
  generalize val S (muls (divs h (adds 1065353216 (muls (muls (divs h 1073741824) (divs h 1073741824)) (sqS x y z)))) z) = Zv at *
  generalize val S (divs h (adds 1065353216 (muls (muls (divs h 1073741824) (divs h 1073741824)) (sqS x y z)))) = F at *
  generalize dv (quo S h (adds 1065353216 (muls (muls (divs h 1073741824) (divs h 1073741824)) (sqS x y z)))) = G at *
  generalize dv (quo S (subs 1065353216 (muls (muls (divs h 1073741824) (divs h 1073741824)) (sqS x y z))) (adds 1065353216 (muls (muls (divs h 1073741824) (divs h 1073741824)) (sqS x y z)))) = G3 at *
  generalize val S (subs 1065353216 (muls (muls (divs h 1073741824) (divs h 1073741824)) (sqS x y z))) = s at *
  generalize val S (adds 1065353216 (muls (muls (divs h 1073741824) (divs h 1073741824)) (sqS x y z))) = d at *
  generalize val S (muls (muls (divs h 1073741824) (divs h 1073741824)) (sqS x y z)) = Q at *
  generalize val S (sqS x y z) = M at *
  generalize val S (muls (divs h 1073741824) (divs h 1073741824)) = K at *
  generalize val S (divs h 1073741824) = k at *
  generalize dv (quo S h 1073741824) = kq at *
  generalize val S (adds (muls x x) (muls y y)) = m01 at *
  generalize val S (muls x x) = m0 at *
  generalize val S (muls y y) = m1 at *
  generalize val S (muls z z) = m2 at *
  generalize val S x = B0 at *
  generalize val S y = B1 at *
  generalize val S z = B2 at *
  generalize val S h = H at *
  have ts := tau_small
  generalize tau = t at *
  have dd : ab d = d := ab_of_nonneg (by grind)
  have t1 : t ≤ 1 / 4096 := by grind
  rw [ab_of_nonneg (sq_nonneg B0), ab_of_nonneg v0] at r0
  rw [ab_of_nonneg (sq_nonneg B1), ab_of_nonneg v1] at r1
  rw [ab_of_nonneg (sq_nonneg B2), ab_of_nonneg v2] at r2
  rw [ab_of_nonneg (show 0 ≤ m0 + m1 by grind), ab_of_nonneg v3] at r3
  rw [ab_of_nonneg (show 0 ≤ m01 + m2 by grind), ab_of_nonneg pm] at r4
  rw [ab_of_nonneg (sq_nonneg k), ab_of_nonneg pk] at q3
  rw [ab_of_nonneg (Rat.mul_nonneg pk pm), ab_of_nonneg pq] at q4
  rw [ab_of_nonneg (show 0 ≤ 1 + Q by grind), dd] at q5
  rw [ab_of_nonneg pm] at bM
  rw [ab_of_nonneg pk] at bK
  rw [dd] at g1 w2
  have b0 := sq_nonneg B0
  have b1 := sq_nonneg B1
  have b2 := sq_nonneg B2
  have ka := ab_sq k
  have a2 : B0 * B0 + B1 * B1 + B2 * B2 ≤ (M + 5 * t) * (1025 / 1024) := by grind
  have hb : 0 ≤ B0 * B0 + B1 * B1 + B2 * B2 := by grind
  have tb : t * (B0 * B0 + B1 * B1 + B2 * B2) ≤ 1 / 1024 := by
    have e1 := rmul_l a2 t0
    have e2 := rmul_l t1 t0
    grind
  have a1 : ab k * ab k ≤ K * (1025 / 1024) + 2 * t := by rw [ka]; grind
  have a3 : K * M ≤ (Q + t) * (1025 / 1024) := by grind
  have kb := core_kb pk pm pq hb t0 t1 a1 a2 a3 bK tb
  have ha : ab H ≤ 2 * ab k * (1025 / 1024) + 4 * t := by
    have := ab_nonneg k
    have := ab_nonneg H
    grind
  have hAB := core_ab (ab_nonneg H) (ab_nonneg k) rfl rfl hb t0 ts pq ha tb kb
  have hF := core_F (ab_nonneg F) (ab_nonneg G) (show 0 ≤ d by grind) (ab_nonneg H) t0 g2 g1
  have pX := core_part (ab_nonneg Xv) t0 x1
  have pY := core_part (ab_nonneg Yv) t0 y1
  have pZ := core_part (ab_nonneg Zv) t0 z1
  rw [ab_sq B0] at pX
  rw [ab_sq B1] at pY
  rw [ab_sq B2] at pZ
  have hS := core_sum (sq_nonneg (ab H)) rfl t0 ts tb pX pY pZ hF
  have hW := core_W (ab_nonneg W) (ab_nonneg G3) md1 (ab_nonneg s) (ab_nonneg (1 - Q)) t0 ts w3 w2 w1
  rw [ab_sq (1 - Q)] at hW
  have := core_all md1 pq t0 ts rfl hS hW hAB q5
  rw [ab_sq, ab_sq, ab_sq, ab_sq] at this
  exact this
end Go.Proofs.Ytmbjomjpnfnbkaa
