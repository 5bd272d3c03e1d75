/-
  Walk of the program's RampFields.
-/
import Derived.Test.YtmbjomjpnfnbkaaA21
set_option linter.unusedSimpArgs false
set_option linter.unusedVariables false
namespace Go.Proofs.Ytmbjomjpnfnbkaa
open Go.RowKit Flt

/-- The program's answer. -/
def rampR (a v : V3N) (n : Int) : Int × List V3N := if (a.fin && v.fin) = true then (if inB n 1 300 = true then (if (rampM a v (times n.toNat) 0).1 = 0 then (0, (rampM a v (times n.toNat) 0).2) else ((rampM a v (times n.toNat) 0).1, [])) else (2, [])) else (1, [])
def V3N.lt (v : V3N) : Prop := v.x < 2 ^ 32 ∧ v.y < 2 ^ 32 ∧ v.z < 2 ^ 32
theorem V3N.fw_of {v : V3N} (h : v.lt) (hf : v.fin = true) : v.fw := by
  unfold V3N.fin at hf
  simp only [Bool.and_eq_true] at hf
  exact ⟨⟨h.1, hf.1.1⟩, ⟨h.2.1, hf.1.2⟩, ⟨h.2.2, hf.2⟩⟩
theorem fcode_ramp (a v : V3N) (i : Bool) : fcode (fin S a.x && fin S a.y && fin S a.z) ([v.x, v.y, v.z].all (fin S)) (fin S 0 && fin S 0 && (fin S 0 && fin S 0)) i = if (a.fin && v.fin) = true then (if i = true then 0 else 2) else 1 := by
  unfold fcode V3N.fin
  have : fin S 0 = true := fin0
  simp [this, Bool.and_assoc]
theorem rampM_length (a v : V3N) : ∀ (ts : List Nat) (c : Int), (rampM a v ts c).2.length = ts.length
  | [], c => rfl
  | t :: ts, c => by unfold rampM; simp [rampM_length a v ts]

theorem fieldCode3_c (a v : V3N) (B : Nat) (i : Bool) (w : World) (h0 : w.cell? ⟨B, 0, none⟩ = some (.float .f32 v.x)) (h1 : w.cell? ⟨B, 1, none⟩ = some (.float .f32 v.y)) (h2 : w.cell? ⟨B, 2, none⟩ = some (.float .f32 v.z)) :
    Calls Try.prog 78 #[.agg #[.float .f32 a.x, .float .f32 a.y, .float .f32 a.z], .slice (some ⟨B, 0, none⟩) 3 3, .agg #[.complex .f32 0 0, .complex .f32 0 0], .bool i] w fun e w' => e = .returned (.int .i64 (if (a.fin && v.fin) = true then (if i = true then 0 else 2) else 1)) ∧ New w w' := by
  have := fieldCode_c a.x a.y a.z B 0 [v.x, v.y, v.z] 3 0 0 0 0 i w (by simp) (fun j hj => by
    match j, hj with
    | 0, _ => exact h0
    | 1, _ => exact h1
    | 2, _ => exact h2)
  rw [fcode_ramp] at this
  exact this
theorem rampR_bad1 {a v : V3N} {n : Int} (h : (a.fin && v.fin) = false) : rampR a v n = (1, []) := if_neg (by simp [h])
theorem rampR_bad2 {a v : V3N} {n : Int} (h : (a.fin && v.fin) = true) (h2 : inB n 1 300 = false) : rampR a v n = (2, []) := by unfold rampR; rw [if_pos h, if_neg (by simp [h2])]
theorem rampR_good {a v : V3N} {n : Int} (h : (a.fin && v.fin) = true) (h2 : inB n 1 300 = true) : rampR a v n = (if (rampM a v (times n.toNat) 0).1 = 0 then (0, (rampM a v (times n.toNat) 0).2) else ((rampM a v (times n.toNat) 0).1, [])) := by unfold rampR; rw [if_pos h, if_pos h2]
theorem toldV_own {w : World} {base e : Nat} {u : Value} {c : Int} {l : List V3N} (h : w.ownsRow base e 3 u l.length (flat l)) :
    w.ownsRow base e 3 (toldV u c) (if c = 0 then (0, l) else (c, ([] : List V3N))).2.length (flat (if c = 0 then ((0 : Int), l) else (c, ([] : List V3N))).2) := by
  unfold toldV
  by_cases hc : c = 0
  · simp only [if_pos hc]; exact h
  · simp only [if_neg hc]; exact World.ownsRow_nil _ _ _ _

set_option maxHeartbeats 2000000 in
set_option maxRecDepth 5000 in
theorem rampFields_c (a v : V3N) (n : Int) (w : World) (ha : a.lt) (hv : v.lt) :
    Calls Try.prog 31 #[V3 a.x a.y a.z, V3 v.x v.y v.z, .int .i64 n] w fun e w' => ∃ u, e = .returned (.tuple #[u, .int .i64 (rampR a v n).1]) ∧ w'.ownsRow w.heap.size 38 3 u (rampR a v n).2.length (flat (rampR a v n).2) ∧ New w w' := by
  cases hf : (a.fin && v.fin) with
  | false =>
    rw [rampR_bad1 hf]
    have HF := hid hf
    clear hf
    go_enter Try.func31, Try.ntmps31
    go_wp2_with fail
    go_region_held3 (fun w' => w'.cell? ⟨w.heap.size, 0, none⟩ = some (.float .f32 a.x) ∧ w'.cell? ⟨w.heap.size, 1, none⟩ = some (.float .f32 a.y) ∧ w'.cell? ⟨w.heap.size, 2, none⟩ = some (.float .f32 a.z) ∧ w'.cell? ⟨w.heap.size + 1, 0, none⟩ = some (.float .f32 v.x) ∧ w'.cell? ⟨w.heap.size + 1, 1, none⟩ = some (.float .f32 v.y) ∧ w'.cell? ⟨w.heap.size + 1, 2, none⟩ = some (.float .f32 v.z)) (((repeat' apply And.intro) <;> (first | (with_reducible assumption) | (go_simp; done))))
      (first | (go_at_call 82; (with_reducible refine (isSteps_c _ _ _).mono ?_); rintro e w' ⟨rfl, rfl⟩)
             | (go_at_call 78; go_split_ands; (with_reducible refine (fieldCode3_c a v _ (inB n 1 300) _ (by go_simp) (by go_simp) (by go_simp)).mono ?_); rintro e w1 ⟨rfl, hN⟩; obtain ⟨l1, l2, l3⟩ := hN.laws; rw [HF.out]))
    rename_i hh; clear hh
    go_wp2
    refine bodyPost_ret (v := .tuple #[.slice none 0 0, .int .i64 1]) (by simp [results, Try.results31, go_sem]) rfl ⟨_, rfl, World.ownsRow_nil _ _ _ _, ?_⟩
    exact ((((New.refl w).alloc _).alloc _).drew).trans hN
  | true =>
    cases hi : inB n 1 300 with
    | false =>
      rw [rampR_bad2 hf hi]
      have HF := hid hf
      have HI := hid hi
      clear hf hi
      go_enter Try.func31, Try.ntmps31
      go_wp2_with fail
      go_region_held3 (fun w' => w'.cell? ⟨w.heap.size, 0, none⟩ = some (.float .f32 a.x) ∧ w'.cell? ⟨w.heap.size, 1, none⟩ = some (.float .f32 a.y) ∧ w'.cell? ⟨w.heap.size, 2, none⟩ = some (.float .f32 a.z) ∧ w'.cell? ⟨w.heap.size + 1, 0, none⟩ = some (.float .f32 v.x) ∧ w'.cell? ⟨w.heap.size + 1, 1, none⟩ = some (.float .f32 v.y) ∧ w'.cell? ⟨w.heap.size + 1, 2, none⟩ = some (.float .f32 v.z)) (((repeat' apply And.intro) <;> (first | (with_reducible assumption) | (go_simp; done))))
        (first | (go_at_call 82; (with_reducible refine (isSteps_c _ _ _).mono ?_); rintro e w' ⟨rfl, rfl⟩; rw [HI.out])
               | (go_at_call 78; go_split_ands; (with_reducible refine (fieldCode3_c a v _ false _ (by go_simp) (by go_simp) (by go_simp)).mono ?_); rintro e w1 ⟨rfl, hN⟩; obtain ⟨l1, l2, l3⟩ := hN.laws; rw [HF.out]))
      rename_i hh; clear hh
      go_wp2
      refine bodyPost_ret (v := .tuple #[.slice none 0 0, .int .i64 2]) (by simp [results, Try.results31, go_sem]) rfl ⟨_, rfl, World.ownsRow_nil _ _ _ _, ?_⟩
      exact ((((New.refl w).alloc _).alloc _).drew).trans hN
    | true =>
      rw [rampR_good hf hi]
      have HF := hid hf
      have HI := hid hi
      have f2 := hf
      rw [Bool.and_eq_true] at f2
      have fa := hid (V3N.fw_of ha f2.1)
      have fv := hid (V3N.fw_of hv f2.2)
      unfold inB at hi
      simp only [Bool.and_eq_true, decide_eq_true_eq] at hi
      obtain ⟨m, rfl⟩ : ∃ m : Nat, n = m := ⟨n.toNat, by omega⟩
      have hm : m ≤ 300 := by omega
      simp only [Int.toNat_natCast]
      have hlen := rampM_length a v (times m) 0
      have etl : (times m).length = m := by simp [times]
      rw [etl] at hlen
      have HL := hid hlen
      have KR := hid (fun b w hA => ramp_c b 0 a v m w fa.out fv.out hm hA)
      generalize rampM a v (times m) 0 = R at *
      clear hf hi f2 ha hv fa fv hm hlen etl
      obtain ⟨rc, rl⟩ := R
      simp only
      generalize hQ : (if rc = 0 then ((0 : Int), rl) else (rc, ([] : List V3N))) = Q
      have HQ := hid hQ
      clear hQ
      go_enter Try.func31, Try.ntmps31
      go_wp2_with fail
      go_region_held3 (fun w' => w'.cell? ⟨w.heap.size, 0, none⟩ = some (.float .f32 a.x) ∧ w'.cell? ⟨w.heap.size, 1, none⟩ = some (.float .f32 a.y) ∧ w'.cell? ⟨w.heap.size, 2, none⟩ = some (.float .f32 a.z) ∧ w'.cell? ⟨w.heap.size + 1, 0, none⟩ = some (.float .f32 v.x) ∧ w'.cell? ⟨w.heap.size + 1, 1, none⟩ = some (.float .f32 v.y) ∧ w'.cell? ⟨w.heap.size + 1, 2, none⟩ = some (.float .f32 v.z)) (((repeat' apply And.intro) <;> (first | (with_reducible assumption) | (go_simp; done))))
        (first | (go_at_call 82; (with_reducible refine (isSteps_c _ _ _).mono ?_); rintro e w' ⟨rfl, rfl⟩; rw [HI.out])
               | (go_at_call 78; go_split_ands; (with_reducible refine (fieldCode3_c a v _ true _ (by go_simp) (by go_simp) (by go_simp)).mono ?_); rintro e w1 ⟨rfl, hN⟩; obtain ⟨l1, l2, l3⟩ := hN.laws; rw [HF.out]))
      rename_i hh; clear hh
      have hs := hN.size
      simp at hs
      have a0 := cell_alloc (hN.cell_at (k := w.heap.size) (o := 0) (v := .float .f32 a.x) (by go_simp))
      have a1 := cell_alloc (hN.cell_at (k := w.heap.size) (o := 1) (v := .float .f32 a.y) (by go_simp))
      have a2 := cell_alloc (hN.cell_at (k := w.heap.size) (o := 2) (v := .float .f32 a.z) (by go_simp))
      have v0 := cell_alloc (hN.cell_at (k := w.heap.size + 1) (o := 0) (v := .float .f32 v.x) (by go_simp))
      have v1 := cell_alloc (hN.cell_at (k := w.heap.size + 1) (o := 1) (v := .float .f32 v.y) (by go_simp))
      have v2 := cell_alloc (hN.cell_at (k := w.heap.size + 1) (o := 2) (v := .float .f32 v.z) (by go_simp))
      have hW1 := hid (((((New.refl w).alloc (.cells #[.float .f32 a.x, .float .f32 a.y, .float .f32 a.z] 38)).alloc (.cells #[.float .f32 v.x, .float .f32 v.y, .float .f32 v.z] 38)).drew).trans hN)
      go_wp2_with fail
      with_reducible refine (KR.out w1.heap.size _ (At.new _ _ _)).mono ?_
      rintro e w2 ⟨u, rfl, hO, hE⟩
      have HO := hid hO
      have hE' := hid hE
      clear hO
      go_wp2_with fail
      refine (toldL_c w1.heap.size rc u _ hE.at_).mono ?_
      rintro e w3 ⟨rfl, hN3⟩
      go_wp2
      have eQ : Q.1 = rc := by
        rw [← HQ.out]
        by_cases hc : rc = 0
        · rw [if_pos hc, hc]
        · rw [if_neg hc]
      refine bodyPost_ret (v := .tuple #[toldV u rc, .int .i64 rc]) (by simp [results, Try.results31, go_sem]) rfl ⟨toldV u rc, by rw [eQ], ?_, ?_⟩
      · rw [← HQ.out]
        refine toldV_own ?_
        have := own_new HO.out hN3
        rw [HL.out]
        refine own_le this (by simp; omega)
      · exact (hW1.out.ext hE (by omega)).trans hN3
end Go.Proofs.Ytmbjomjpnfnbkaa
