/-
  The walk of the reference's step of a field.
-/
import Derived.Test.YtmbjomjpnfnbkaaD2
set_option linter.unusedSimpArgs false
set_option linter.unusedVariables false
namespace Go.Proofs.Ytmbjomjpnfnbkaa
open Go.RowKit Flt

/-- The reference's step. -/
def stepS (x y z h : Nat) : C8 :=
  let k := divs h 1073741824
  let kk := muls k k
  let sq := sqS x y z
  let q := muls kk sq
  if fin S sq = false ∨ fin S kk = false ∨ fin S q = false then bad8 3 else
  let d := adds 1065353216 q
  let p := divs (subs 1065353216 q) d
  let f := divs h d
  if fin S (muls f x) = false ∨ fin S (muls f y) = false ∨ fin S (muls f z) = false then bad8 3 else tabS p (muls f x) (muls f y) (muls f z)

set_option maxHeartbeats 1000000 in
theorem l09Step_bad (x y z h : Nat) (w : World) (hx : fin S x = true) (hy : fin S y = true) (hz : fin S z = true) (hh : fin S h = true)
    (hb : fin S (sqS x y z) = false ∨ fin S (muls (divs h 1073741824) (divs h 1073741824)) = false ∨ fin S (muls (muls (divs h 1073741824) (divs h 1073741824)) (sqS x y z)) = false) :
    Calls Try.prog 122 #[V3 x y z, .float .f32 h] w fun e w' => e = .returned (bad8 3).told ∧ New w w' := by
  have k0 := fun (t : TypeId) (w : World) => run_float_arith (P := Try.prog) w .quo t .f32 h 1073741824 _ (divs_eq hh fin_2 (by rw [val2]; decide)).1
  have fk := half_fin hh
  generalize divs h 1073741824 = k at *
  have k1 := fun (t : TypeId) (w : World) => run_float_arith (P := Try.prog) w .mul t .f32 k k _ (muls_eq fk fk).1
  generalize hkk : muls k k = kk at *
  have Hkk := hid hkk
  have Hb := hid hb
  clear hkk hb
  go_enter Try.func122, Try.ntmps122
  go_wp2_with fail
  refine (l09Inner_c x y z _ hx hy hz).mono ?_; rintro e w1 ⟨rfl, hN⟩
  have hs := hN.size
  simp at hs
  have r0 := hN.cell_at (k := w.heap.size + 1) (o := 0) (v := .complex .f32 0 0) (by go_simp)
  have r1 := hN.cell_at (k := w.heap.size + 1) (o := 1) (v := .complex .f32 0 0) (by go_simp)
  have r2 := hN.cell_at (k := w.heap.size + 1) (o := 2) (v := .complex .f32 0 0) (by go_simp)
  have r3 := hN.cell_at (k := w.heap.size + 1) (o := 3) (v := .complex .f32 0 0) (by go_simp)
  have q0 := hN.frozen_at (k := w.heap.size + 1) (o := 0) (by simp) (by go_simp)
  have q1 := hN.frozen_at (k := w.heap.size + 1) (o := 1) (by simp) (by go_simp)
  have q2 := hN.frozen_at (k := w.heap.size + 1) (o := 2) (by simp) (by go_simp)
  have q3 := hN.frozen_at (k := w.heap.size + 1) (o := 3) (by simp) (by go_simp)
  have v0 := hN.cell_at (k := w.heap.size) (o := 0) (v := .float .f32 x) (by go_simp)
  have v1 := hN.cell_at (k := w.heap.size) (o := 1) (v := .float .f32 y) (by go_simp)
  have v2 := hN.cell_at (k := w.heap.size) (o := 2) (v := .float .f32 z) (by go_simp)
  generalize sqS x y z = sq at *
  go_wp2_with fail
  refine upon_raw (by simp) ?_
  rintro q n hq
  have Hq := hid hq.mul
  clear hq
  cases hsq : fin S sq with
  | false =>
    have Hsq := hid hsq
    clear hsq
    go_wp2_with fail
    refine (fine_any sq _).mono ?_; rintro e w' ⟨rfl, m, rfl⟩; rw [Hsq.out]
    go_wp2
    refine bodyPost_ret (v := (bad8 3).told) (by simp [results, Try.results122, go_sem, bad8, r0, r1, r2, r3]) rfl ⟨rfl, ?_⟩
    refine New.drewN ?_ _
    have g1 : w.heap.size ≤ w.heap.size + 1 := Nat.le_succ _
    refine New.set (p := ⟨w.heap.size + 1, 3, none⟩) ?_ g1 _
    refine New.set (p := ⟨w.heap.size + 1, 2, none⟩) ?_ g1 _
    refine New.set (p := ⟨w.heap.size + 1, 1, none⟩) ?_ g1 _
    refine New.set (p := ⟨w.heap.size + 1, 0, none⟩) ?_ g1 _
    exact (((New.refl w).alloc _).alloc _).trans hN
  | true =>
    have Hsq := hid hsq
    clear hsq
    cases hkf : fin S kk with
    | false =>
      have Hkf := hid hkf
      clear hkf
      go_wp2_with fail
      refine (fine_any sq _).mono ?_; rintro e w' ⟨rfl, m, rfl⟩; rw [Hsq.out]
      go_wp2_with fail
      refine (fine_any kk _).mono ?_; rintro e w' ⟨rfl, m', rfl⟩; rw [Hkf.out]
      go_wp2
      refine bodyPost_ret (v := (bad8 3).told) (by simp [results, Try.results122, go_sem, bad8, r0, r1, r2, r3]) rfl ⟨rfl, ?_⟩
      refine New.drewN ?_ _
      have g1 : w.heap.size ≤ w.heap.size + 1 := Nat.le_succ _
      refine New.set (p := ⟨w.heap.size + 1, 3, none⟩) ?_ g1 _
      refine New.set (p := ⟨w.heap.size + 1, 2, none⟩) ?_ g1 _
      refine New.set (p := ⟨w.heap.size + 1, 1, none⟩) ?_ g1 _
      refine New.set (p := ⟨w.heap.size + 1, 0, none⟩) ?_ g1 _
      exact (((New.refl w).alloc _).alloc _).trans hN
    | true =>
      have hqf : fin S q = false := by
        rw [Hq.out.1]
        rcases Hb.out with h | h | h
        · rw [Hsq.out] at h; cases h
        · rw [hkf] at h; cases h
        · exact h
      have Hkf := hid hkf
      have Hqf := hid hqf
      clear hkf hqf
      go_wp2_with fail
      refine (fine_any sq _).mono ?_; rintro e w' ⟨rfl, m, rfl⟩; rw [Hsq.out]
      go_wp2_with fail
      refine (fine_any kk _).mono ?_; rintro e w' ⟨rfl, m', rfl⟩; rw [Hkf.out]
      go_wp2_with fail
      refine (fine_any q _).mono ?_; rintro e w' ⟨rfl, m'', rfl⟩; rw [Hqf.out]
      go_wp2
      refine bodyPost_ret (v := (bad8 3).told) (by simp [results, Try.results122, go_sem, bad8, r0, r1, r2, r3]) rfl ⟨rfl, ?_⟩
      refine New.drewN ?_ _
      have g1 : w.heap.size ≤ w.heap.size + 1 := Nat.le_succ _
      refine New.set (p := ⟨w.heap.size + 1, 3, none⟩) ?_ g1 _
      refine New.set (p := ⟨w.heap.size + 1, 2, none⟩) ?_ g1 _
      refine New.set (p := ⟨w.heap.size + 1, 1, none⟩) ?_ g1 _
      refine New.set (p := ⟨w.heap.size + 1, 0, none⟩) ?_ g1 _
      exact (((New.refl w).alloc _).alloc _).trans hN

/-- What the reference finds on the way, where the square, k k and q are numbers. -/
structure Mid (kk sq q d s p f : Nat) : Prop where
  hkk : fin S kk = true
  hsq : fin S sq = true
  hq : fin S q = true
  hd : fin S d = true
  hd1 : 1 ≤ val S d
  hs : fin S s = true
  hp : fin S p = true
  hf : fin S f = true

set_option maxHeartbeats 2000000 in
theorem l09Step_good (x y z h : Nat) (w : World) (hx : fin S x = true) (hy : fin S y = true) (hz : fin S z = true) (hh : fin S h = true) (k kk sq q d s p f : Nat)
    (ek : divs h 1073741824 = k) (ekk : muls k k = kk) (esq : sqS x y z = sq) (eq : muls kk sq = q) (ed : adds 1065353216 q = d) (es : subs 1065353216 q = s) (ep : divs s d = p) (ef : divs h d = f)
    (hm : Mid kk sq q d s p f) (R : C8)
    (hR : (if fin S (muls f x) = false ∨ fin S (muls f y) = false ∨ fin S (muls f z) = false then bad8 3 else tabS p (muls f x) (muls f y) (muls f z)) = R) :
    Calls Try.prog 122 #[V3 x y z, .float .f32 h] w fun e w' => e = .returned R.told ∧ New w w' := by
  have fk := half_fin hh
  have k0 := fun (t : TypeId) (w : World) => run_float_arith (P := Try.prog) w .quo t .f32 h 1073741824 _ (divs_eq hh fin_2 (by rw [val2]; decide)).1
  rw [ek] at k0 fk
  have k1 := fun (t : TypeId) (w : World) => run_float_arith (P := Try.prog) w .mul t .f32 k k _ (muls_eq fk fk).1
  rw [ekk] at k1
  have k2 := fun (t : TypeId) (w : World) => run_float_arith (P := Try.prog) w .mul t .f32 kk sq _ (muls_eq hm.hkk hm.hsq).1
  rw [eq] at k2
  have k3 := fun (t : TypeId) (w : World) => run_float_arith (P := Try.prog) w .add t .f32 1065353216 q _ (adds_eq fin_1 hm.hq).1
  rw [ed] at k3
  have k4 := fun (t : TypeId) (w : World) => run_float_arith (P := Try.prog) w .sub t .f32 1065353216 q _ (subs_eq fin_1 hm.hq).1
  rw [es] at k4
  have d0 : val S d ≠ 0 := by have := hm.hd1; grind
  have k5 := fun (t : TypeId) (w : World) => run_float_arith (P := Try.prog) w .quo t .f32 s d _ (divs_eq hm.hs hm.hd d0).1
  rw [ep] at k5
  have k6 := fun (t : TypeId) (w : World) => run_float_arith (P := Try.prog) w .quo t .f32 h d _ (divs_eq hh hm.hd d0).1
  rw [ef] at k6
  have k7 := fun (t : TypeId) (w : World) => run_float_arith (P := Try.prog) w .mul t .f32 f x _ (muls_eq hm.hf hx).1
  have k8 := fun (t : TypeId) (w : World) => run_float_arith (P := Try.prog) w .mul t .f32 f y _ (muls_eq hm.hf hy).1
  have k9 := fun (t : TypeId) (w : World) => run_float_arith (P := Try.prog) w .mul t .f32 f z _ (muls_eq hm.hf hz).1
  have Esq := hid esq
  clear ek ekk esq eq ed es ep ef d0
  generalize muls f x = X at *
  generalize muls f y = Y at *
  generalize muls f z = Z at *
  have H1 := hid hm.hkk
  have H2 := hid hm.hsq
  have H3 := hid hm.hq
  have H4 := hid hm.hd
  have H5 := hid hm.hp
  have H6 := hid hm.hf
  clear hm
  have HR0 := hid hR
  clear hR
  go_enter Try.func122, Try.ntmps122
  go_wp2_with fail
  refine (l09Inner_c x y z _ hx hy hz).mono ?_; rintro e w1 ⟨rfl, hN⟩
  rw [Esq.out]
  have hs := hN.size
  simp at hs
  have r0 := hN.cell_at (k := w.heap.size + 1) (o := 0) (v := .complex .f32 0 0) (by go_simp)
  have r1 := hN.cell_at (k := w.heap.size + 1) (o := 1) (v := .complex .f32 0 0) (by go_simp)
  have r2 := hN.cell_at (k := w.heap.size + 1) (o := 2) (v := .complex .f32 0 0) (by go_simp)
  have r3 := hN.cell_at (k := w.heap.size + 1) (o := 3) (v := .complex .f32 0 0) (by go_simp)
  have q0 := hN.frozen_at (k := w.heap.size + 1) (o := 0) (by simp) (by go_simp)
  have q1 := hN.frozen_at (k := w.heap.size + 1) (o := 1) (by simp) (by go_simp)
  have q2 := hN.frozen_at (k := w.heap.size + 1) (o := 2) (by simp) (by go_simp)
  have q3 := hN.frozen_at (k := w.heap.size + 1) (o := 3) (by simp) (by go_simp)
  have v0 := hN.cell_at (k := w.heap.size) (o := 0) (v := .float .f32 x) (by go_simp)
  have v1 := hN.cell_at (k := w.heap.size) (o := 1) (v := .float .f32 y) (by go_simp)
  have v2 := hN.cell_at (k := w.heap.size) (o := 2) (v := .float .f32 z) (by go_simp)
  go_wp2_with fail
  refine (fine_any sq _).mono ?_; rintro e w' ⟨rfl, m, rfl⟩; rw [H2.out]
  go_wp2_with fail
  refine (fine_any kk _).mono ?_; rintro e w' ⟨rfl, m2, rfl⟩; rw [H1.out]
  go_wp2_with fail
  refine (fine_any q _).mono ?_; rintro e w' ⟨rfl, m3, rfl⟩; rw [H3.out]
  go_wp2_with fail
  go_quiet (fail)
  go_wp2_with fail
  refine (fine_any d _).mono ?_; rintro e w' ⟨rfl, m4, rfl⟩; rw [H4.out]
  go_wp2_with fail
  refine (fine_any p _).mono ?_; rintro e w' ⟨rfl, m5, rfl⟩; rw [H5.out]
  go_wp2_with fail
  refine (fine_any f _).mono ?_; rintro e w' ⟨rfl, m6, rfl⟩; rw [H6.out]
  have hR := HR0.out
  clear HR0
  cases hX : fin S X with
  | false =>
    have HX := hid hX
    rw [if_pos (.inl hX)] at hR
    have HR := hid hR.symm
    clear hX hR
    go_wp2_with fail
    refine (fine_any X _).mono ?_; rintro e w' ⟨rfl, m7, rfl⟩; rw [HX.out]
    go_wp2
    refine bodyPost_ret (v := (bad8 3).told) (by simp [results, Try.results122, go_sem, bad8, r0, r1, r2, r3]) rfl ⟨by first | rfl | rw [HR.out], ?_⟩
    refine New.drewN ?_ _
    have g1 : w.heap.size ≤ w.heap.size + 1 := Nat.le_succ _
    refine New.set (p := ⟨w.heap.size + 1, 3, none⟩) ?_ g1 _
    refine New.set (p := ⟨w.heap.size + 1, 2, none⟩) ?_ g1 _
    refine New.set (p := ⟨w.heap.size + 1, 1, none⟩) ?_ g1 _
    refine New.set (p := ⟨w.heap.size + 1, 0, none⟩) ?_ g1 _
    exact (((New.refl w).alloc _).alloc _).trans hN
  | true =>
    cases hY : fin S Y with
    | false =>
      have HX := hid hX
      have HY := hid hY
      rw [if_pos (.inr (.inl hY))] at hR
      have HR := hid hR.symm
      clear hX hY hR
      go_wp2_with fail
      refine (fine_any X _).mono ?_; rintro e w' ⟨rfl, m7, rfl⟩; rw [HX.out]
      go_wp2_with fail
      refine (fine_any Y _).mono ?_; rintro e w' ⟨rfl, m8, rfl⟩; rw [HY.out]
      go_wp2
      refine bodyPost_ret (v := (bad8 3).told) (by simp [results, Try.results122, go_sem, bad8, r0, r1, r2, r3]) rfl ⟨by first | rfl | rw [HR.out], ?_⟩
      refine New.drewN ?_ _
      have g1 : w.heap.size ≤ w.heap.size + 1 := Nat.le_succ _
      refine New.set (p := ⟨w.heap.size + 1, 3, none⟩) ?_ g1 _
      refine New.set (p := ⟨w.heap.size + 1, 2, none⟩) ?_ g1 _
      refine New.set (p := ⟨w.heap.size + 1, 1, none⟩) ?_ g1 _
      refine New.set (p := ⟨w.heap.size + 1, 0, none⟩) ?_ g1 _
      exact (((New.refl w).alloc _).alloc _).trans hN
    | true =>
      cases hZ : fin S Z with
      | false =>
        have HX := hid hX
        have HY := hid hY
        have HZ := hid hZ
        rw [if_pos (.inr (.inr hZ))] at hR
        have HR := hid hR.symm
        clear hX hY hZ hR
        go_wp2_with fail
        refine (fine_any X _).mono ?_; rintro e w' ⟨rfl, m7, rfl⟩; rw [HX.out]
        go_wp2_with fail
        refine (fine_any Y _).mono ?_; rintro e w' ⟨rfl, m8, rfl⟩; rw [HY.out]
        go_wp2_with fail
        refine (fine_any Z _).mono ?_; rintro e w' ⟨rfl, m9, rfl⟩; rw [HZ.out]
        go_wp2
        refine bodyPost_ret (v := (bad8 3).told) (by simp [results, Try.results122, go_sem, bad8, r0, r1, r2, r3]) rfl ⟨by first | rfl | rw [HR.out], ?_⟩
        refine New.drewN ?_ _
        have g1 : w.heap.size ≤ w.heap.size + 1 := Nat.le_succ _
        refine New.set (p := ⟨w.heap.size + 1, 3, none⟩) ?_ g1 _
        refine New.set (p := ⟨w.heap.size + 1, 2, none⟩) ?_ g1 _
        refine New.set (p := ⟨w.heap.size + 1, 1, none⟩) ?_ g1 _
        refine New.set (p := ⟨w.heap.size + 1, 0, none⟩) ?_ g1 _
        exact (((New.refl w).alloc _).alloc _).trans hN
      | true =>
        have HX := hid hX
        have HY := hid hY
        have HZ := hid hZ
        rw [if_neg (by rw [hX, hY, hZ]; simp)] at hR
        have HR := hid hR.symm
        clear hX hY hZ hR
        go_wp2_with fail
        refine (fine_any X _).mono ?_; rintro e w' ⟨rfl, m7, rfl⟩; rw [HX.out]
        go_wp2_with fail
        refine (fine_any Y _).mono ?_; rintro e w' ⟨rfl, m8, rfl⟩; rw [HY.out]
        go_wp2_with fail
        refine (fine_any Z _).mono ?_; rintro e w' ⟨rfl, m9, rfl⟩; rw [HZ.out]
        go_wp2_with fail
        refine (l03Table_c p X Y Z _).mono ?_; rintro e w2 ⟨rfl, hN2⟩
        have r0' := hN2.cell_at (k := w.heap.size + 1) (o := 0) (v := .complex .f32 0 0) (by go_simp)
        have r1' := hN2.cell_at (k := w.heap.size + 1) (o := 1) (v := .complex .f32 0 0) (by go_simp)
        have r2' := hN2.cell_at (k := w.heap.size + 1) (o := 2) (v := .complex .f32 0 0) (by go_simp)
        have r3' := hN2.cell_at (k := w.heap.size + 1) (o := 3) (v := .complex .f32 0 0) (by go_simp)
        have q0' := hN2.frozen_at (k := w.heap.size + 1) (o := 0) (by simp; omega) (by go_simp)
        have q1' := hN2.frozen_at (k := w.heap.size + 1) (o := 1) (by simp; omega) (by go_simp)
        have q2' := hN2.frozen_at (k := w.heap.size + 1) (o := 2) (by simp; omega) (by go_simp)
        have q3' := hN2.frozen_at (k := w.heap.size + 1) (o := 3) (by simp; omega) (by go_simp)
        go_wp2
        refine bodyPost_ret (v := (tabS p X Y Z).told) (by simp [results, Try.results122, go_sem, r0', r1', r2', r3']; rfl) rfl ⟨by first | rfl | rw [HR.out], ?_⟩
        have g1 : w.heap.size ≤ w.heap.size + 1 := Nat.le_succ _
        refine New.set (p := ⟨w.heap.size + 1, 3, none⟩) ?_ g1 _
        refine New.set (p := ⟨w.heap.size + 1, 2, none⟩) ?_ g1 _
        refine New.set (p := ⟨w.heap.size + 1, 1, none⟩) ?_ g1 _
        refine New.set (p := ⟨w.heap.size + 1, 0, none⟩) ?_ g1 _
        exact ((((New.refl w).alloc _).alloc _).trans hN).trans ((Drw.new ⟨_, rfl⟩).trans hN2)

theorem stepS_mid {x y z h : Nat} (hx : fin S x = true) (hy : fin S y = true) (hz : fin S z = true) (hh : fin S h = true)
    (h1 : fin S (sqS x y z) = true) (h2 : fin S (muls (divs h 1073741824) (divs h 1073741824)) = true)
    (h3 : fin S (muls (muls (divs h 1073741824) (divs h 1073741824)) (sqS x y z)) = true) :
    let k := divs h 1073741824
    let kk := muls k k
    let sq := sqS x y z
    let q := muls kk sq
    let d := adds 1065353216 q
    let s := subs 1065353216 q
    Mid kk sq q d s (divs s d) (divs h d) := by
  have fk := half_fin hh
  have pk := (muls_pos fk).val h2
  have ps := (sqS_pos hx hy hz).val h1
  have pq := (muls_pos2 h2 h1 pk ps).val h3
  have hd := adds1 h3
  have hd1 := adds1_ge h3 pq
  have hd2 : 1 ≤ ab (val S (adds 1065353216 (muls (muls (divs h 1073741824) (divs h 1073741824)) (sqS x y z)))) := by
    unfold ab; split <;> grind
  exact ⟨h2, h1, h3, hd, hd1, subs1 h3, (divs_le (subs1 h3) hd hd2).1, (divs_le hh hd hd2).1⟩

theorem l09Step_c (x y z h : Nat) (w : World) (hx : fin S x = true) (hy : fin S y = true) (hz : fin S z = true) (hh : fin S h = true) :
    Calls Try.prog 122 #[V3 x y z, .float .f32 h] w fun e w' => e = .returned (stepS x y z h).told ∧ New w w' := by
  by_cases hb : fin S (sqS x y z) = false ∨ fin S (muls (divs h 1073741824) (divs h 1073741824)) = false ∨ fin S (muls (muls (divs h 1073741824) (divs h 1073741824)) (sqS x y z)) = false
  · unfold stepS
    simp only [if_pos hb]
    exact l09Step_bad x y z h w hx hy hz hh hb
  · have h1 : fin S (sqS x y z) = true := by cases h : fin S (sqS x y z) <;> simp_all
    have h2 : fin S (muls (divs h 1073741824) (divs h 1073741824)) = true := by cases h : fin S (muls (divs h 1073741824) (divs h 1073741824)) <;> simp_all
    have h3 : fin S (muls (muls (divs h 1073741824) (divs h 1073741824)) (sqS x y z)) = true := by cases h : fin S (muls (muls (divs h 1073741824) (divs h 1073741824)) (sqS x y z)) <;> simp_all
    have hm := stepS_mid hx hy hz hh h1 h2 h3
    refine l09Step_good x y z h w hx hy hz hh _ _ _ _ _ _ _ _ rfl rfl rfl rfl rfl rfl rfl rfl hm _ ?_
    unfold stepS
    simp only [if_neg hb]
end Go.Proofs.Ytmbjomjpnfnbkaa
