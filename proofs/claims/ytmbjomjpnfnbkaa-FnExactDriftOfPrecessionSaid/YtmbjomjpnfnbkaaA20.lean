/-
  Walk of the program's ramp.
-/
import Derived.Test.YtmbjomjpnfnbkaaP12
import Derived.Test.YtmbjomjpnfnbkaaA5
import Derived.Test.YtmbjomjpnfnbkaaK1
set_option linter.unusedSimpArgs false
set_option linter.unusedVariables false
namespace Go.Proofs.Ytmbjomjpnfnbkaa
open Go.RowKit Flt

def flat (l : List V3N) : List Value := l.flatMap fun v => [.float .f32 v.x, .float .f32 v.y, .float .f32 v.z]
def times (n : Nat) : List Nat := (List.range n).map fun i => zn (tq n i)

theorem flat_snoc (acc : List V3N) (x y z : Nat) : flat (acc ++ [⟨x, y, z⟩]) = flat acc ++ [.float .f32 x, .float .f32 y, .float .f32 z] := by simp [flat]
theorem times_drop {n k : Nat} (h : k < n) : (times n).drop k = zn (tq n k) :: (times n).drop (k + 1) := by
  have hl : k < (times n).length := by simp [times, h]
  rw [List.drop_eq_getElem_cons hl]
  simp [times]
theorem times_end (n : Nat) : (times n).drop n = [] := by
  apply List.drop_eq_nil_of_le; simp [times]
theorem ramp_next {a v : V3N} {n k : Nat} {c' tc rc : Int} {t : Nat} {q : V3N} {acc : List V3N} {R : Int × List V3N} (h : k < n) (h1 : vecM a v t tc = vecM a v (zn (tq n k)) c') (h2 : vecM a v t tc = (rc, q))
    (h3 : acc ++ (rampM a v ((times n).drop k) c').2 = R.2 ∧ (rampM a v ((times n).drop k) c').1 = R.1) :
    (acc ++ [q]) ++ (rampM a v ((times n).drop (k + 1)) rc).2 = R.2 ∧ (rampM a v ((times n).drop (k + 1)) rc).1 = R.1 := by
  rw [times_drop h] at h3
  unfold rampM at h3
  rw [← h1, h2] at h3
  simpa using h3
theorem ramp_end {a v : V3N} {n : Nat} {c' : Int} {acc : List V3N} {R : Int × List V3N}
    (h3 : acc ++ (rampM a v ((times n).drop n) c').2 = R.2 ∧ (rampM a v ((times n).drop n) c').1 = R.1) : acc = R.2 ∧ c' = R.1 := by
  rw [times_end] at h3
  simpa [rampM] using h3
theorem Ext.of2 {b : Nat} {c : Int} {w w' : World} {o1 o2 : Obj} (h : Ext b c ((w.alloc o1).alloc o2) w') : Ext b c w w' :=
  ⟨h.os, h.tape, h.output, by have := h.size; simp at this; omega, h.at_, fun i hi hne => by
    rw [h.block i (by simp; omega) hne, Below.heap_alloc _ _ _ (by simp; omega), Below.heap_alloc _ _ _ hi]⟩
theorem infoV : (Try.prog.info? 38).map (fun i => (i.zero, i.size, i.bytes)) = some (some (V3 0 0 0), 3, 12) := by kernel_rfl
theorem index_v3_0 (x y z : Nat) (w : World) : (Instr.index 38 (.agg #[.float .f32 x, .float .f32 y, .float .f32 z]) (.int .i64 0)).run Try.prog w = .ok (.float .f32 x) w := by kernel_rfl
theorem index_v3_1 (x y z : Nat) (w : World) : (Instr.index 38 (.agg #[.float .f32 x, .float .f32 y, .float .f32 z]) (.int .i64 1)).run Try.prog w = .ok (.float .f32 y) w := by kernel_rfl
theorem index_v3_2 (x y z : Nat) (w : World) : (Instr.index 38 (.agg #[.float .f32 x, .float .f32 y, .float .f32 z]) (.int .i64 2)).run Try.prog w = .ok (.float .f32 z) w := by kernel_rfl
set_option maxHeartbeats 4000000 in
set_option maxRecDepth 5000 in
theorem ramp_c (b : Nat) (c : Int) (a v : V3N) (n : Nat) (w : World) (ha : a.fw) (hv : v.fw) (hn : n ≤ 300) (hA : At b c w) :
    Calls Try.prog 84 #[.pointer (some ⟨b, 0, none⟩), V3 a.x a.y a.z, V3 v.x v.y v.z, .int .i64 n] w fun e w' => ∃ u, e = .returned u ∧ w'.ownsRow (w.heap.size + 2) 38 3 u n (flat (rampM a v (times n) c).2) ∧ Ext b (rampM a v (times n) c).1 w w' := by
  generalize hR : rampM a v (times n) c = R
  have HR := hid hR
  clear hR
  have hlt := hA.lt
  go_enter Try.func84, Try.ntmps84
  go_wp2_with fail
  go_loopw [9, 16] (fun u i wr => ∃ (k : Nat) (c' : Int) (acc : List V3N), k ≤ n ∧ i = .int .i64 k ∧ Hid (wr.ownsRow (w.heap.size + 2) 38 3 u k (flat acc)) ∧ Hid (acc ++ (rampM a v ((times n).drop k) c').2 = R.2 ∧ (rampM a v ((times n).drop k) c').1 = R.1) ∧ Ext b c' ((w.alloc (.cells #[.float .f32 a.x, .float .f32 a.y, .float .f32 a.z] 38)).alloc (.cells #[.float .f32 v.x, .float .f32 v.y, .float .f32 v.z] 38)) wr) (fun _ i _ => n - (intOf i).toNat)
  case atStart =>
    refine ⟨0, c, [], Nat.zero_le _, rfl, hid (World.ownsRow_nil _ _ _ _), ⟨by simp [HR.out], by simp [HR.out]⟩, Ext.refl ((hA.alloc _).alloc _)⟩
  case round =>
    obtain ⟨k, c', acc, hk, rfl, HO, HM, hX⟩ := hrel
    have hA' := hX.at_
    have ca0 := hX.cell_at (k := w.heap.size) (o := 0) (v := .float .f32 a.x) (by go_simp) (by omega)
    have cv0 := hX.cell_at (k := w.heap.size + 1) (o := 0) (v := .float .f32 v.x) (by go_simp) (by omega)
    have ca1 := hX.cell_at (k := w.heap.size) (o := 1) (v := .float .f32 a.y) (by go_simp) (by omega)
    have cv1 := hX.cell_at (k := w.heap.size + 1) (o := 1) (v := .float .f32 v.y) (by go_simp) (by omega)
    have ca2 := hX.cell_at (k := w.heap.size) (o := 2) (v := .float .f32 a.z) (by go_simp) (by omega)
    have cv2 := hX.cell_at (k := w.heap.size + 1) (o := 2) (v := .float .f32 v.z) (by go_simp) (by omega)
    have hlt2 := hA'.lt
    have hsz := hX.size
    simp at hsz
    have nb : wr.heap.size ≠ b := by omega
    have nb2 : w.heap.size ≠ b := by omega
    have nb3 : w.heap.size + 1 ≠ b := by omega
    have na1 : w.heap.size ≠ wr.heap.size := by omega
    have na2 : w.heap.size + 1 ≠ wr.heap.size := by omega
    have nl1 : w.heap.size < wr.heap.size := by omega
    have nl2 : w.heap.size + 1 < wr.heap.size := by omega
    by_cases hkn : k < n
    · have hkn' : (k : Int) < (n : Int) := by omega
      have e1 : IntKind.i64.wrap (2 * (k : Int)) = 2 * (k : Int) := wrap_small (by omega) (by omega)
      have e2 : IntKind.i64.wrap (2 * (k : Int) + 1) = 2 * (k : Int) + 1 := wrap_small (by omega) (by omega)
      have e3 : IntKind.i64.wrap (2 * (n : Int)) = 2 * (n : Int) := wrap_small (by omega) (by omega)
      have e4 : floatOfInt .f32 (2 * (k : Int) + 1) = fi (2 * k + 1) := by unfold fi; congr 1
      have e5 : floatOfInt .f32 (2 * (n : Int)) = fi (2 * n) := by unfold fi; congr 1
      have ix0 := index_v3_0 a.x a.y a.z
      have ix1 := index_v3_1 a.x a.y a.z
      have ix2 := index_v3_2 a.x a.y a.z
      have Fx := fi_all (2 * k + 1) (by omega) (by omega)
      have Fn := fi_all (2 * n) (by omega) (by omega)
      have HD := hid (div_c b c' (fi (2 * k + 1)) (fi (2 * n)) wr Fx.1 Fn.1 hA')
      have wt := divM_FW Fx.1 Fn.1 c'
      have eT := hid (vecM_tq (a := a) (b := v) hn hkn c')
      generalize divM (fi (2 * k + 1)) (fi (2 * n)) c' = dt at *
      obtain ⟨tc, t⟩ := dt
      have KS0 := hid (fun w hA => sub_c b tc v.x a.x w hv.1.2 ha.1.2 hA)
      have ws0 := subM_FW hv.1.2 ha.1.2 tc
      have es0 := hid (rfl : compM a.x v.x t tc = compM a.x v.x t tc)
      have ec0 : compM a.x v.x t tc = addM a.x (mulM (subM v.x a.x tc).2 t (subM v.x a.x tc).1).2 (mulM (subM v.x a.x tc).2 t (subM v.x a.x tc).1).1 := rfl
      generalize subM v.x a.x tc = s0 at *
      obtain ⟨sc0, sv0⟩ := s0
      have KM0 := hid (fun w hA => mul_c b sc0 sv0 t w ws0.2 wt.2 hA)
      have wm0 : FW (mulM sv0 t sc0).2 := mulM_FW ws0.2 wt.2 sc0
      generalize mulM sv0 t sc0 = m0 at *
      obtain ⟨mc0, mv0⟩ := m0
      have KA0 := hid (fun w hA => add_c b mc0 a.x mv0 w ha.1.2 wm0.2 hA)
      generalize addM a.x mv0 mc0 = r0 at *
      obtain ⟨rc0, rv0⟩ := r0
      clear es0
      have KS1 := hid (fun w hA => sub_c b rc0 v.y a.y w hv.2.1.2 ha.2.1.2 hA)
      have ws1 := subM_FW hv.2.1.2 ha.2.1.2 rc0
      have es1 := hid (rfl : compM a.y v.y t rc0 = compM a.y v.y t rc0)
      have ec1 : compM a.y v.y t rc0 = addM a.y (mulM (subM v.y a.y rc0).2 t (subM v.y a.y rc0).1).2 (mulM (subM v.y a.y rc0).2 t (subM v.y a.y rc0).1).1 := rfl
      generalize subM v.y a.y rc0 = s1 at *
      obtain ⟨sc1, sv1⟩ := s1
      have KM1 := hid (fun w hA => mul_c b sc1 sv1 t w ws1.2 wt.2 hA)
      have wm1 : FW (mulM sv1 t sc1).2 := mulM_FW ws1.2 wt.2 sc1
      generalize mulM sv1 t sc1 = m1 at *
      obtain ⟨mc1, mv1⟩ := m1
      have KA1 := hid (fun w hA => add_c b mc1 a.y mv1 w ha.2.1.2 wm1.2 hA)
      generalize addM a.y mv1 mc1 = r1 at *
      obtain ⟨rc1, rv1⟩ := r1
      clear es1
      have KS2 := hid (fun w hA => sub_c b rc1 v.z a.z w hv.2.2.2 ha.2.2.2 hA)
      have ws2 := subM_FW hv.2.2.2 ha.2.2.2 rc1
      have es2 := hid (rfl : compM a.z v.z t rc1 = compM a.z v.z t rc1)
      have ec2 : compM a.z v.z t rc1 = addM a.z (mulM (subM v.z a.z rc1).2 t (subM v.z a.z rc1).1).2 (mulM (subM v.z a.z rc1).2 t (subM v.z a.z rc1).1).1 := rfl
      generalize subM v.z a.z rc1 = s2 at *
      obtain ⟨sc2, sv2⟩ := s2
      have KM2 := hid (fun w hA => mul_c b sc2 sv2 t w ws2.2 wt.2 hA)
      have wm2 : FW (mulM sv2 t sc2).2 := mulM_FW ws2.2 wt.2 sc2
      generalize mulM sv2 t sc2 = m2 at *
      obtain ⟨mc2, mv2⟩ := m2
      have KA2 := hid (fun w hA => add_c b mc2 a.z mv2 w ha.2.2.2 wm2.2 hA)
      generalize addM a.z mv2 mc2 = r2 at *
      obtain ⟨rc2, rv2⟩ := r2
      clear es2
      have eV : vecM a v t tc = (rc2, ⟨rv0, rv1, rv2⟩) := by
        unfold vecM
        simp only [ec0, ec1, ec2]
      have EV := hid eV
      clear eV ec0 ec1 ec2 Fx Fn wt ws0 ws1 ws2 wm0 wm1 wm2
      go_wp2_with fail
      with_reducible refine HD.out.mono ?_; rintro e w1 ⟨rfl, rfl⟩
      go_wp2_with fail
      refine wp_loop_rounds 4 ?_; rw [rounds_succ]
      go_wp2_with fail
      with_reducible refine (KS0.out _ (by repeat (with_reducible first | exact hA' | apply At.set | apply At.alloc | apply At.setNew | omega))).mono ?_; rintro e w' ⟨rfl, rfl⟩
      go_wp2_with fail
      with_reducible refine (KM0.out _ (by repeat (with_reducible first | exact hA' | apply At.set | apply At.alloc | apply At.setNew | omega))).mono ?_; rintro e w' ⟨rfl, rfl⟩
      go_wp2_with fail
      with_reducible refine (KA0.out _ (by repeat (with_reducible first | exact hA' | apply At.set | apply At.alloc | apply At.setNew | omega))).mono ?_; rintro e w' ⟨rfl, rfl⟩
      go_wp2_with fail
      rw [rounds_succ]
      go_wp2_with fail
      with_reducible refine (KS1.out _ (by repeat (with_reducible first | exact hA' | apply At.set | apply At.alloc | apply At.setNew | omega))).mono ?_; rintro e w' ⟨rfl, rfl⟩
      go_wp2_with fail
      with_reducible refine (KM1.out _ (by repeat (with_reducible first | exact hA' | apply At.set | apply At.alloc | apply At.setNew | omega))).mono ?_; rintro e w' ⟨rfl, rfl⟩
      go_wp2_with fail
      with_reducible refine (KA1.out _ (by repeat (with_reducible first | exact hA' | apply At.set | apply At.alloc | apply At.setNew | omega))).mono ?_; rintro e w' ⟨rfl, rfl⟩
      go_wp2_with fail
      rw [rounds_succ]
      go_wp2_with fail
      with_reducible refine (KS2.out _ (by repeat (with_reducible first | exact hA' | apply At.set | apply At.alloc | apply At.setNew | omega))).mono ?_; rintro e w' ⟨rfl, rfl⟩
      go_wp2_with fail
      with_reducible refine (KM2.out _ (by repeat (with_reducible first | exact hA' | apply At.set | apply At.alloc | apply At.setNew | omega))).mono ?_; rintro e w' ⟨rfl, rfl⟩
      go_wp2_with fail
      with_reducible refine (KA2.out _ (by repeat (with_reducible first | exact hA' | apply At.set | apply At.alloc | apply At.setNew | omega))).mono ?_; rintro e w' ⟨rfl, rfl⟩
      go_wp2_with fail
      rw [rounds_succ]
      obtain ⟨i0, hi, hz0, hz1, hz2⟩ := info_parts infoV
      go_wp2_with (at_builtin; (refine wpList_append_own _ rfl _ _ 52 rfl (w.heap.size + 2) 38 i0 (V3 0 0 0) 3 12 Try.underlying52 hi hz0 hz1 hz2 rfl (by decide) _ _ _ rfl (own_ext (c := rc2) HO.out (show b < w.heap.size + 2 by omega) ?own) ⟨wr.heap.size + 1, 0, none⟩ 1 1 [.float .f32 rv0, .float .f32 rv1, .float .f32 rv2] rfl rfl ?c1 ?c2 ?c3 ?c4 ?c5 ?_))
      case own => exact (((Ext.refl hA').set _).alloc _).alloc _
      case c1 => exact new_cells _ #[.float .f32 rv0, .float .f32 rv1, .float .f32 rv2] _ (by simp)
      case c2 => intro u hu; simp at hu; rcases hu with rfl | rfl | rfl <;> rfl
      case c3 => unfold maxLen; omega
      case c4 => omega
      case c5 => simp; omega
      intro v' w1 hown' hgrow hnil
      have hO' := hid (own_ext (c := rc2) HO.out (show b < w.heap.size + 2 by omega) ((((Ext.refl hA').set rc2).alloc (.cells #[.float .f32 rv0, .float .f32 rv1, .float .f32 rv2] 38)).alloc (.cells #[.float .f32 rv0, .float .f32 rv1, .float .f32 rv2] 38)))
      have hX1 := hid ((((hX.set rc2).alloc (.cells #[.float .f32 rv0, .float .f32 rv1, .float .f32 rv2] 38)).alloc (.cells #[.float .f32 rv0, .float .f32 rv1, .float .f32 rv2] 38)).grew hO'.out hgrow (by omega) (by simp))
      have hM1 := hid (ramp_next (acc := acc) hkn eT.out EV.out HM.out)
      have hF := hid (flat_snoc acc rv0 rv1 rv2)
      have hown1 := hid hown'
      clear hown' hgrow hnil hO' eT EV HM HO
      go_wp2_with fail
      go_roundw
      case rel => exact ⟨k + 1, rc2, acc ++ [⟨rv0, rv1, rv2⟩], by omega, by go_num, hid (by rw [hF.out]; exact hown1.out), hM1, hX1.out⟩
      case measure => simp [intOf]; omega
    · have hk' : k = n := by omega
      subst hk'
      have hkn' : ¬ ((k : Int) < (k : Int)) := by omega
      have hM1 := hid (ramp_end HM.out)
      go_wp2
      go_ret
      refine ⟨_, rfl, ?_, ?_⟩
      · rw [← hM1.out.1]; exact HO.out
      · rw [← hM1.out.2]; exact hX.of2
end Go.Proofs.Ytmbjomjpnfnbkaa
