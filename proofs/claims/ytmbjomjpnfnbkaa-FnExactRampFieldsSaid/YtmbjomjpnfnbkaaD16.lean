/-
  Walks of the reference's fields of a ramp.
-/
import Derived.Test.YtmbjomjpnfnbkaaP13
import Derived.Test.YtmbjomjpnfnbkaaA21
import Derived.Test.YtmbjomjpnfnbkaaA22
import Derived.Test.YtmbjomjpnfnbkaaD2
import Derived.Test.YtmbjomjpnfnbkaaD4
set_option linter.unusedSimpArgs false
set_option linter.unusedVariables false
namespace Go.Proofs.Ytmbjomjpnfnbkaa
open Go.RowKit Flt

theorem l01In_c (n l h : Int) (w : World) :
    Calls Try.prog 127 #[.int .i64 n, .int .i64 l, .int .i64 h] w fun e w' => e = .returned (.bool (inB n l h)) ∧ w = w' := by
  unfold inB
  by_cases h1 : l ≤ n
  · by_cases h2 : n ≤ h
    · have e : (decide (l ≤ n) && decide (n ≤ h)) = true := by simp [h1, h2]
      rw [e]
      clear e
      go_enter Try.func127, Try.ntmps127
      go_wp2
      go_ret; exact ⟨rfl, rfl⟩
    · have e : (decide (l ≤ n) && decide (n ≤ h)) = false := by simp [h1, h2]
      rw [e]
      clear e
      go_enter Try.func127, Try.ntmps127
      go_wp2
      go_ret; exact ⟨rfl, rfl⟩
  · have e : (decide (l ≤ n) && decide (n ≤ h)) = false := by simp [h1]
    rw [e]
    clear e
    go_enter Try.func127, Try.ntmps127
    go_wp2
    go_ret; exact ⟨rfl, rfl⟩

/-- The reference's fields, gathered. -/
def rampT (a v : V3N) : List Nat → List V3N → Int × List V3N
  | [], acc => (0, acc)
  | t :: ts, acc => if (vecS a v t).fin = true then rampT a v ts (acc ++ [vecS a v t]) else (3, [])
theorem rampT_eq (a v : V3N) : ∀ (ts : List Nat) (acc : List V3N), rampT a v ts acc = if (rampS a v ts).1 = 0 then (0, acc ++ (rampS a v ts).2) else ((rampS a v ts).1, [])
  | [], acc => by simp [rampT, rampS]
  | t :: ts, acc => by
    unfold rampT rampS
    by_cases h : (vecS a v t).fin = true
    · rw [if_pos h, if_pos h, rampT_eq a v ts]
      by_cases h0 : (rampS a v ts).1 = 0
      · simp [h0]
      · simp [h0]
    · rw [if_neg h, if_neg h]; simp
def times0 (n : Nat) : List Nat := (List.range n).map fun i => tq n i
theorem times0_drop {n k : Nat} (h : k < n) : (times0 n).drop k = tq n k :: (times0 n).drop (k + 1) := by
  have hl : k < (times0 n).length := by simp [times0, h]
  rw [List.drop_eq_getElem_cons hl]
  simp [times0]
theorem times0_end (n : Nat) : (times0 n).drop n = [] := by
  apply List.drop_eq_nil_of_le; simp [times0]

theorem rampT_bad {a v : V3N} {t : Nat} {ts rs : List Nat} {acc : List V3N} {R : Int × List V3N} (h : rs = t :: ts) (hf : (vecS a v t).fin = false) (hR : rampT a v rs acc = R) : R = (3, []) := by
  rw [← hR, h]; unfold rampT; rw [if_neg (by simp [hf])]
theorem rampT_good {a v : V3N} {t : Nat} {ts rs : List Nat} {acc : List V3N} {R : Int × List V3N} (h : rs = t :: ts) (hf : (vecS a v t).fin = true) (hR : rampT a v rs acc = R) : rampT a v ts (acc ++ [vecS a v t]) = R := by
  rw [← hR, h]; unfold rampT; rw [if_pos hf]; cases ts <;> rfl
set_option maxHeartbeats 4000000 in
set_option maxRecDepth 5000 in
theorem l09Ramp_c (a v : V3N) (n : Nat) (w : World) (ha : a.fw) (hv : v.fw) (hn : n ≤ 300) :
    Calls Try.prog 128 #[V3 a.x a.y a.z, V3 v.x v.y v.z, .int .i64 n] w fun e w' => ∃ u, e = .returned (.tuple #[u, .int .i64 (rampT a v (times0 n) []).1]) ∧ w'.ownsRow w.heap.size 38 3 u (rampT a v (times0 n) []).2.length (flat (rampT a v (times0 n) []).2) ∧ New w w' := by
  generalize hR : rampT a v (times0 n) [] = R
  have HR := hid hR
  clear hR
  go_enter Try.func128, Try.ntmps128
  go_wp2_with fail
  go_loopw [8, 9] (fun u i wr => ∃ (k : Nat) (acc : List V3N), k ≤ n ∧ i = .int .i64 k ∧ Hid (wr.ownsRow (w.heap.size + 2) 38 3 u k (flat acc)) ∧ Hid (acc.length = k ∧ rampT a v ((times0 n).drop k) acc = R) ∧ New ((w.alloc (.cells #[.float .f32 a.x, .float .f32 a.y, .float .f32 a.z] 38)).alloc (.cells #[.float .f32 v.x, .float .f32 v.y, .float .f32 v.z] 38)) wr) (fun _ i _ => n - (intOf i).toNat)
  case atStart =>
    refine ⟨0, [], Nat.zero_le _, rfl, hid ?_, ⟨rfl, HR.out⟩, (New.refl _).alloc _⟩
    exact own_lit0 _ _ _ (by simp) (Nat.le_refl _)
  case round =>
    obtain ⟨k, acc, hk, rfl, HO, HM, hX⟩ := hrel
    have hsz := hX.size
    simp at hsz
    have na1 : w.heap.size ≠ wr.heap.size := by omega
    have na2 : w.heap.size + 1 ≠ wr.heap.size := by omega
    have nl1 : w.heap.size < wr.heap.size := by omega
    have nl2 : w.heap.size + 1 < wr.heap.size := by omega
    by_cases hkn : k < n
    · have ca0 := hX.cell_at (k := w.heap.size) (o := 0) (v := .float .f32 a.x) (by go_simp)
      have ca1 := hX.cell_at (k := w.heap.size) (o := 1) (v := .float .f32 a.y) (by go_simp)
      have ca2 := hX.cell_at (k := w.heap.size) (o := 2) (v := .float .f32 a.z) (by go_simp)
      have cv0 := hX.cell_at (k := w.heap.size + 1) (o := 0) (v := .float .f32 v.x) (by go_simp)
      have cv1 := hX.cell_at (k := w.heap.size + 1) (o := 1) (v := .float .f32 v.y) (by go_simp)
      have cv2 := hX.cell_at (k := w.heap.size + 1) (o := 2) (v := .float .f32 v.z) (by go_simp)
      have hkn' : (k : Int) < (n : Int) := by omega
      have e1 : IntKind.i64.wrap (2 * (k : Int)) = 2 * (k : Int) := wrap_small (by omega) (by omega)
      have e2 : IntKind.i64.wrap (2 * (k : Int) + 1) = 2 * (k : Int) + 1 := wrap_small (by omega) (by omega)
      have e3 : IntKind.i64.wrap (2 * (n : Int)) = 2 * (n : Int) := wrap_small (by omega) (by omega)
      have e4 : floatOfInt .f32 (2 * (k : Int) + 1) = fi (2 * k + 1) := by unfold fi; congr 1
      have e5 : floatOfInt .f32 (2 * (n : Int)) = fi (2 * n) := by unfold fi; congr 1
      have Fx := fi_all (2 * k + 1) (by omega) (by omega)
      have Fn := fi_all (2 * n) (by omega) (by omega)
      have kq := fun (t : TypeId) (w : World) => run_float_arith (P := Try.prog) w .quo t .f32 (fi (2 * k + 1)) (fi (2 * n)) (tq n k) (divs_eq Fx.1 Fn.1 (fi_val (by omega) (by omega))).1
      have ft := tq_fin hn hkn
      have t0 := tq_ne hn hkn
      have hT := hid (times0_drop hkn)
      generalize tq n k = t at *
      have sx := comp_some ha.1 hv.1 ft t0
      have sy := comp_some ha.2.1 hv.2.1 ft t0
      have sz := comp_some ha.2.2 hv.2.2 ft t0
      have x1 := fun (t : TypeId) (w : World) => run_float_arith (P := Try.prog) w .sub t .f32 _ _ _ sx.1
      have x2 := fun (t : TypeId) (w : World) => run_float_arith (P := Try.prog) w .mul t .f32 _ _ _ sx.2.1
      have x3 := fun (t : TypeId) (w : World) => run_float_arith (P := Try.prog) w .add t .f32 _ _ _ sx.2.2
      have y1 := fun (t : TypeId) (w : World) => run_float_arith (P := Try.prog) w .sub t .f32 _ _ _ sy.1
      have y2 := fun (t : TypeId) (w : World) => run_float_arith (P := Try.prog) w .mul t .f32 _ _ _ sy.2.1
      have y3 := fun (t : TypeId) (w : World) => run_float_arith (P := Try.prog) w .add t .f32 _ _ _ sy.2.2
      have z1 := fun (t : TypeId) (w : World) => run_float_arith (P := Try.prog) w .sub t .f32 _ _ _ sz.1
      have z2 := fun (t : TypeId) (w : World) => run_float_arith (P := Try.prog) w .mul t .f32 _ _ _ sz.2.1
      have z3 := fun (t : TypeId) (w : World) => run_float_arith (P := Try.prog) w .add t .f32 _ _ _ sz.2.2
      clear sx sy sz Fx Fn ft t0
      generalize g0 : compS a.x v.x t = q0 at *
      generalize g1 : compS a.y v.y t = q1 at *
      generalize g2 : compS a.z v.z t = q2 at *
      have eV := hid (show vecS a v t = ⟨q0, q1, q2⟩ by unfold vecS; rw [g0, g1, g2])
      clear g0 g1 g2
      go_wp2_with fail
      refine wp_loop_rounds 4 ?_; rw [rounds_succ]
      go_wp2_with fail
      go_region
      go_wp2_with fail
      rw [rounds_succ]
      go_wp2_with fail
      go_region
      go_wp2_with fail
      rw [rounds_succ]
      go_wp2_with fail
      go_region
      go_wp2_with fail
      rw [rounds_succ]
      go_wp2_with fail
      cases hf : (vecS a v t).fin with
      | false =>
        have hF := hid (show (fin S q0 && fin S q1 && fin S q2) = false by rw [eV.out] at hf; exact hf)
        have hE := hid (rampT_bad hT.out hf HM.out.2)
        clear hf
        refine (l09Is_c q0 q1 q2 _).mono ?_; rintro e w1 ⟨rfl, hN⟩
        rw [hF.out]
        go_wp2
        refine bodyPost_ret (v := .tuple #[.slice none 0 0, .int .i64 3]) (by simp [results, Try.results128, go_sem]) rfl ⟨_, by rw [hE.out], by rw [hE.out]; exact World.ownsRow_nil _ _ _ _, ?_⟩
        refine New.trans ?_ hN
        refine New.trans (((New.refl w).alloc _).alloc _) (hX.trans ?_)
        repeat (with_reducible first | exact New.refl _ | apply New.drew | apply New.drewN | apply New.alloc)
      | true =>
        have hF := hid (show (fin S q0 && fin S q1 && fin S q2) = true by rw [eV.out] at hf; exact hf)
        have hE := hid (show rampT a v ((times0 n).drop (k + 1)) (acc ++ [⟨q0, q1, q2⟩]) = R by rw [← eV.out]; exact rampT_good hT.out hf HM.out.2)
        have hL := hid (show (acc ++ [(⟨q0, q1, q2⟩ : V3N)]).length = k + 1 by rw [List.length_append, HM.out.1]; rfl)
        have hfl := hid (flat_snoc acc q0 q1 q2)
        clear hf
        refine (l09Is_c q0 q1 q2 _).mono ?_; rintro e w1 ⟨rfl, hN⟩
        rw [hF.out]
        have hN' : New wr w1 := by
          refine New.trans ?_ hN
          repeat (with_reducible first | exact New.refl _ | apply New.drew | apply New.drewN | apply New.alloc)
        obtain ⟨l1, l2, l3⟩ := hN.laws
        obtain ⟨i0, hi, hz0, hz1, hz2⟩ := info_parts infoV
        go_wp2_with (at_builtin; refine wpList_append_own _ rfl _ _ 52 rfl (w.heap.size + 2) 38 i0 (V3 0 0 0) 3 12 Try.underlying52 hi hz0 hz1 hz2 rfl (by decide) _ _ _ rfl (own_new HO.out (hN'.alloc _)) ⟨w1.heap.size, 0, none⟩ 1 1 [.float .f32 q0, .float .f32 q1, .float .f32 q2] rfl rfl ?c1 ?c2 ?c3 ?c4 ?c5 ?_)
        case c1 => exact new_cells _ #[.float .f32 q0, .float .f32 q1, .float .f32 q2] _ rfl
        case c2 => intro u hu; simp at hu; rcases hu with rfl | rfl | rfl <;> rfl
        case c3 => unfold maxLen; omega
        case c4 => omega
        case c5 => have := hN'.size; simp; omega
        intro v' w2 hown' hgrow hnil
        have hO1 := hid (own_new HO.out (hN'.alloc (.cells #[.float .f32 q0, .float .f32 q1, .float .f32 q2] 38)))
        have hX1 := hid (New.grew ((hX.trans hN').alloc (.cells #[.float .f32 q0, .float .f32 q1, .float .f32 q2] 38)) hO1.out hgrow (by simp))
        have hown1 := hid hown'
        clear hown' hgrow hnil hO1 HM HO l1 l2 l3
        go_wp2_with fail
        go_roundw
        case rel => exact ⟨k + 1, acc ++ [⟨q0, q1, q2⟩], by omega, by go_num, hid (by rw [hfl.out]; exact hown1.out), ⟨hL.out, hE.out⟩, hX1.out⟩
        case measure => simp [intOf]; omega
    · have hk' : k = n := by omega
      subst hk'
      have hkn' : ¬ ((k : Int) < (k : Int)) := by omega
      have hE := hid (show R = (0, acc) by rw [← HM.out.2, times0_end]; rfl)
      go_wp2
      refine bodyPost_ret (v := .tuple #[u8, .int .i64 0]) (by simp [results, Try.results128, go_sem]) rfl ⟨_, by rw [hE.out], ?_, ?_⟩
      · rw [hE.out]
        have := HO.out
        rw [HM.out.1]
        exact own_le this (by omega)
      · exact New.trans (((New.refl w).alloc _).alloc _) hX
end Go.Proofs.Ytmbjomjpnfnbkaa
