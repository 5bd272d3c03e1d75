/-
  Walk of the program's ChooseStep.
-/
import Derived.Test.YtmbjomjpnfnbkaaA13
import Derived.Test.YtmbjomjpnfnbkaaD10
set_option linter.unusedSimpArgs false
set_option linter.unusedVariables false
namespace Go.Proofs.Ytmbjomjpnfnbkaa
open Go.RowKit Flt

theorem fcode_ch (x y z h e : Nat) (is : Bool) : fcode (fin S x && fin S y && fin S z) ([h, e].all (fin S)) (fin S 0 && fin S 0 && (fin S 0 && fin S 0)) is = if isFin5 x y z h e = true then (if is = true then 0 else 2) else 1 := by
  unfold fcode isFin5 isFin4; rw [fin0]; simp [Bool.and_assoc]

/-- The program's answer. -/
def chR (x y z h e : Nat) : Int × Nat := if isFin5 x y z h e = true then (if (FloatKind.f32.format.order e 0 == some .lt) = true then (2, 0) else chM x y z e 21 h) else (1, 0)

set_option maxRecDepth 20000 in
set_option maxHeartbeats 4000000 in
theorem chooseStep_g (x y z h e : Nat) (w : World) (hx : FW x) (hy : FW y) (hz : FW z) (hh : FW h) (he : fin S e = true) (is : Bool) (hi : is = true) (ho : FloatKind.f32.format.order e 0 = some .gt ∨ FloatKind.f32.format.order e 0 = some .eq) :
    Calls Try.prog 43 #[V3 x y z, .float .f32 h, .float .f32 e] w fun e' w' => e' = .returned (toldF (chM x y z e 21 h)) ∧ New w w' := by
  have h5 : isFin5 x y z h e = true := by unfold isFin5 isFin4; rw [hx.2, hy.2, hz.2, hh.2, he]; rfl
  have HC := hid (fcode_ch x y z h e true)
  have H5 := hid h5
  have c1 := fun (k : Nat) (hk : FW k) b w hA => stepError_c b 0 x y z k w hx hy hz hk hA
  have CX := hid c1
  have hFW := hid hh
  generalize hR : chM x y z e 21 h = R
  have HR := hid hR
  clear hR h5 c1 hx hy hz hh he hi is
  rcases ho with ho | ho
  all_goals
    go_enter Try.func43, Try.ntmps43
    go_wp2_with fail
    refine (fieldCode_c x y z _ 0 [h, e] 2 _ _ _ _ true _ (by simp) (fun j hj => ?_)).mono ?_
    · simp at hj
      match j, hj with
      | 0, _ => go_simp
      | 1, _ => go_simp
    · rintro e' w1 ⟨rfl, hN⟩
      rw [HC.out, H5.out]
      obtain ⟨l1, l2, l3⟩ := hN.laws
      have hN1 := (((New.refl w).alloc _).alloc _).trans hN
      have hs := hN1.size
      have hs2 := hN.size
      simp at hs2
      have hq1 : w.heap.size ≠ w1.heap.size := by omega
      have hq2 : w.heap.size < w1.heap.size := by omega
      go_wp2_with fail
      have hb0 := At.new w1 0 83
      go_loopw [1, 10, 24] (fun p own q wr => ∃ k hk : Nat, k ≤ 21 ∧ q = .int .i64 k ∧ p = .float .f32 hk ∧ Hid (FW hk) ∧ Hid (chM x y z e (21 - k) hk = R) ∧ Ext w1.heap.size 0 (w1.alloc (.cells #[.int .i64 0] 83)) wr) (fun _ _ q _ => 21 - (intOf q).toNat)
      case atStart => exact ⟨0, h, by omega, rfl, rfl, hFW, HR, Ext.refl hb0⟩
      case round =>
        obtain ⟨k, hk, hk1, rfl, rfl, F, HM, hX⟩ := hrel
        have hA := hX.at_
        have hlt0 := hid hA.lt
        have e0 := hX.cell_at (k := w.heap.size) (o := 0) (v := .float .f32 x) (by go_simp) hq1
        have e1 := hX.cell_at (k := w.heap.size) (o := 1) (v := .float .f32 y) (by go_simp) hq1
        have e2 := hX.cell_at (k := w.heap.size) (o := 2) (v := .float .f32 z) (by go_simp) hq1
        by_cases hlt21 : k < 21
        · have hs' := HM.out
          rw [show 21 - k = (21 - (k + 1)) + 1 by omega] at hs'
          unfold chM at hs'
          have C := CX.out hk F.out
          have D := fun w hA => div_c w1.heap.size 0 hk 1073741824 w F.out.2 fin_2 hA
          have Lk := hid (show FW (divM hk 1073741824 0).2 from divM_FW F.out.2 fin_2 0)
          have D0 : (divM hk 1073741824 0).1 = 0 := by rw [divM_e (Eqv.refl F.out.2) (Eqv.refl fin_2) (by rw [val2]; decide) 0, rnd_g (half_fin F.out.2)]
          generalize errM x y z hk 0 = r at *
          generalize divM hk 1073741824 0 = dk at *
          obtain ⟨d1, d2⟩ := dk
          simp only at D0
          subst D0
          have T := fun b w hA => toldN_c b (r.1, zn hk) w hA
          obtain ⟨r1, r2⟩ := r
          simp only at hs' T
          have HC2 := hid C
          have HD := hid D
          have HT := hid T
          clear C D T
          cases hb : leB r2 e with
          | true =>
            rw [if_pos (by rw [hb]; rfl)] at hs'
            have HS := hid (show toldN (r1, zn hk) = R from by rw [← hs']; unfold toldN; by_cases c : r1 = 0 <;> simp [c])
            clear hs'
            rcases leB_true hb with ho2 | ho2
            all_goals
              clear hb
              have hk21 : ((k : Int) < 21) := by omega
              go_wp2_with fail
              with_reducible refine (HC2.out _ _ hA).mono ?_; rintro e' w2 ⟨rfl, hE⟩
              have hA2 := hE.at_
              go_wp2_with fail
              refine (clean_c hk _).mono ?_; rintro e' w3 ⟨rfl, rfl⟩
              go_wp2_with fail
              with_reducible refine (HT.out _ _ hA2).mono ?_; rintro e' w4 ⟨rfl, hN4⟩
              go_wp2
              refine bodyPost_ret (v := toldF (toldN (r1, zn hk))) (by simp [results, Try.results43, go_sem]) rfl ⟨by rw [HS.out], ?_⟩
              exact (hN1.ext (Ext.trans hX hE) hs).trans hN4
          | false =>
            by_cases c0 : r1 = 0
            · subst c0
              rw [if_neg (by rw [hb]; simp)] at hs'
              have HS := hid hs'
              clear hs'
              rcases leB_false hb with ho2 | ho2
              all_goals
                clear hb
                have hk21 : ((k : Int) < 21) := by omega
                go_wp2_with fail
                with_reducible refine (HC2.out _ _ hA).mono ?_; rintro e' w2 ⟨rfl, hE⟩
                have hA2 := hE.at_
                have hc0 : w2.cell? ⟨w1.heap.size, 0, none⟩ = some (.int .i64 0) := hA2.1
                go_wp2_with fail
                with_reducible refine (HD.out _ hA2).mono ?_; rintro e' w3 ⟨rfl, rfl⟩
                go_wp2_with fail
                go_roundw
                case rel => exact ⟨k + 1, _, by omega, by go_num, rfl, Lk, HS, (Ext.trans hX hE).set _⟩
                case measure => simp [intOf]; omega
            · have hc1 : (r1 != 0) = true := by simpa using c0
              rw [if_pos (by simp only [hb, hc1]; rfl)] at hs'
              have HS := hid (show toldN (r1, zn hk) = R from by rw [← hs']; unfold toldN; simp only [if_neg c0])
              clear hs'
              rcases leB_false hb with ho2 | ho2
              all_goals
                clear hb c0
                have hk21 : ((k : Int) < 21) := by omega
                go_wp2_with fail
                with_reducible refine (HC2.out _ _ hA).mono ?_; rintro e' w2 ⟨rfl, hE⟩
                have hA2 := hE.at_
                have hc0 : w2.cell? ⟨w1.heap.size, 0, none⟩ = some (.int .i64 r1) := hA2.1
                go_wp2_with fail
                refine (clean_c hk _).mono ?_; rintro e' w3 ⟨rfl, rfl⟩
                go_wp2_with fail
                with_reducible refine (HT.out _ _ hA2).mono ?_; rintro e' w4 ⟨rfl, hN4⟩
                go_wp2
                refine bodyPost_ret (v := toldF (toldN (r1, zn hk))) (by simp [results, Try.results43, go_sem]) rfl ⟨by rw [HS.out], ?_⟩
                exact (hN1.ext (Ext.trans hX hE) hs).trans hN4
        · have : k = 21 := by omega
          subst this
          have HS := hid (show ((4, 0) : Int × Nat) = R from HM.out)
          go_wp2
          refine bodyPost_ret (v := toldF (4, 0)) (by simp [results, Try.results43, go_sem]) rfl ⟨by rw [HS.out], ?_⟩
          exact hN1.ext hX hs

theorem ne_true {c : Int} (h : c ≠ 0) : (c != 0) = true := by simpa using h
set_option maxHeartbeats 1000000 in
theorem chooseStep_b (x y z h e : Nat) (w : World) (is : Bool) (c : Int) (hc : fcode (fin S x && fin S y && fin S z) ([h, e].all (fin S)) (fin S 0 && fin S 0 && (fin S 0 && fin S 0)) is = c) (h1 : c ≠ 0)
    (ho : (is = true ∧ (FloatKind.f32.format.order e 0 = some .gt ∨ FloatKind.f32.format.order e 0 = some .eq)) ∨ (is = false ∧ (FloatKind.f32.format.order e 0 = some .lt ∨ FloatKind.f32.format.order e 0 = none))) :
    Calls Try.prog 43 #[V3 x y z, .float .f32 h, .float .f32 e] w fun e' w' => e' = .returned (toldF (c, 0)) ∧ New w w' := by
  have HC := hid hc
  have hc1 := ne_true h1
  clear hc h1
  rcases ho with ⟨rfl, ho | ho⟩ | ⟨rfl, ho | ho⟩
  all_goals
    go_enter Try.func43, Try.ntmps43
    go_wp2_with fail
    refine (fieldCode_c x y z _ 0 [h, e] 2 _ _ _ _ _ _ (by simp) (fun j hj => ?_)).mono ?_
    · simp at hj
      match j, hj with
      | 0, _ => go_simp
      | 1, _ => go_simp
    · rintro e' w1 ⟨rfl, hN⟩
      rw [HC.out]
      go_wp2
      refine bodyPost_ret (v := toldF (c, 0)) (by simp [results, Try.results43, go_sem]) rfl ⟨rfl, ?_⟩
      exact (((New.refl w).alloc _).alloc _).trans hN

theorem chooseStep_c (x y z h e : Nat) (w : World) (lx : x < 2 ^ 32) (ly : y < 2 ^ 32) (lz : z < 2 ^ 32) (lh : h < 2 ^ 32) :
    Calls Try.prog 43 #[V3 x y z, .float .f32 h, .float .f32 e] w fun e' w' => e' = .returned (toldF (chR x y z h e)) ∧ New w w' := by
  have ho : ∃ is : Bool, (is = true ∧ (FloatKind.f32.format.order e 0 = some .gt ∨ FloatKind.f32.format.order e 0 = some .eq)) ∨ (is = false ∧ (FloatKind.f32.format.order e 0 = some .lt ∨ FloatKind.f32.format.order e 0 = none)) := by
    rcases FloatKind.f32.format.order e 0 with _ | o
    · exact ⟨false, .inr ⟨rfl, .inr rfl⟩⟩
    · cases o
      · exact ⟨false, .inr ⟨rfl, .inl rfl⟩⟩
      · exact ⟨true, .inl ⟨rfl, .inr rfl⟩⟩
      · exact ⟨true, .inl ⟨rfl, .inl rfl⟩⟩
  obtain ⟨is, ho⟩ := ho
  have F := fcode_ch x y z h e is
  unfold chR
  cases h5 : isFin5 x y z h e with
  | false =>
    rw [h5, if_neg (by simp)] at F
    rw [if_neg (by simp)]
    exact chooseStep_b x y z h e w is 1 F (by decide) ho
  | true =>
    rw [h5, if_pos rfl] at F
    rw [if_pos rfl]
    rcases ho with ⟨rfl, ho⟩ | ⟨rfl, ho⟩
    · have hl : ¬ (FloatKind.f32.format.order e 0 == some .lt) = true := by rcases ho with ho | ho <;> rw [ho] <;> decide
      rw [if_neg hl]
      unfold isFin5 isFin4 at h5
      simp only [Bool.and_eq_true] at h5
      exact chooseStep_g x y z h e w ⟨lx, h5.1.1.1.1⟩ ⟨ly, h5.1.1.1.2⟩ ⟨lz, h5.1.1.2⟩ ⟨lh, h5.1.2⟩ h5.2 true rfl ho
    · have he : fin S e = true := by unfold isFin5 at h5; simp only [Bool.and_eq_true] at h5; exact h5.2
      have hl : (FloatKind.f32.format.order e 0 == some .lt) = true := by
        rcases ho with ho | ho
        · rw [ho]; rfl
        · have := order_fin S he fin0
          have e1 : Go.FloatKind.f32.format.order e 0 = S.order e 0 := rfl
          rw [e1, this] at ho; cases ho
      rw [if_pos hl]
      exact chooseStep_b x y z h e w false 2 (by simpa using F) (by decide) (.inr ⟨rfl, ho⟩)
end Go.Proofs.Ytmbjomjpnfnbkaa
