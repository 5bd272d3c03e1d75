/-
  Walks of the program's drift, and of what is told of a list of numbers and its code.
-/
import Derived.Test.YtmbjomjpnfnbkaaA30
import Derived.Test.YtmbjomjpnfnbkaaA21
set_option linter.unusedSimpArgs false
set_option linter.unusedVariables false
namespace Go.Proofs.Ytmbjomjpnfnbkaa
open Go.RowKit Flt

theorem detM_fin (t : C8) (c : Int) : FW (detM t c).2.1 ∧ FW (detM t c).2.2 :=
  minusM_FW (timesM_fin _ _ _ _ _).1 (timesM_fin _ _ _ _ _).2 (timesM_fin _ _ _ _ _).1 (timesM_fin _ _ _ _ _).2 _

set_option maxHeartbeats 2000000 in
theorem drift_c (b : Nat) (c : Int) (t : C8) (w : World) (ht : Fw8 t) (D : DrF t) (hA : At b c w) :
    Calls Try.prog 99 #[.pointer (some ⟨b, 0, none⟩), t.val] w fun e w' => e = .returned (.float .f32 (driftM t c).2) ∧ Ext b (driftM t c).1 w w' := by
  have hlt := hA.lt
  have hne : w.heap.size ≠ b := by omega
  have E : driftM t c = driftM t c := rfl
  conv at E => rhs; unfold driftM
  simp only at E
  have K1 := hid (fun w hA => rowSquare_c b c t w ht D hA)
  have f1 : fin S (normSqM t.a0 t.a1 t.b0 t.b1 c).2 = true := rnd_fin _ _
  generalize normSqM t.a0 t.a1 t.b0 t.b1 c = n at *
  have K2 := hid (fun w hA => sub_c b n.1 n.2 1065353216 w f1 fin_1 hA)
  have f2 := subM_FW f1 fin_1 n.1
  generalize subM n.2 1065353216 n.1 = q at *
  have K3 := hid (fun w => size_c q.2 w f2)
  have f3 := sizeM_fin f2
  generalize sizeM q.2 = s at *
  have K4 := hid (fun w hA => determinant_c b q.1 t w ht D hA)
  have f4 := detM_fin t q.1
  generalize detM t q.1 = d at *
  have K5 := hid (fun w hA => minus_c b d.1 d.2.1 d.2.2 1065353216 0 w f4.1.2 f4.2.2 fin_1 fin0 hA)
  have f5 := minusM_FW f4.1.2 f4.2.2 fin_1 fin0 d.1
  generalize minusM d.2.1 d.2.2 1065353216 0 d.1 = m at *
  have K6 := hid (fun B cp w hc => greatest_c m.2.1 m.2.2 B cp w f5.1 f5.2 hc)
  have f6 := greatM_fin f5.1 f5.2
  generalize greatM m.2.1 m.2.2 = g at *
  have K7 := fun ats ty w => max_run2 (P := Try.prog) ats ty f3 f6 w
  generalize mx s g = r at *
  rw [E]
  clear E ht D f1 f2 f3 f4 f5 f6
  obtain ⟨n1, n2⟩ := n
  obtain ⟨q1, q2⟩ := q
  obtain ⟨d1, d2, d3⟩ := d
  obtain ⟨m1, m2, m3⟩ := m
  obtain ⟨tc, t0, t1, t2, t3, t4, t5, t6, t7⟩ := t
  simp only at K1 K2 K3 K4 K5 K6
  go_enter Try.func99, Try.ntmps99
  go_wp2_with fail
  with_reducible refine (K1.out _ (hA.alloc _)).mono ?_; rintro e wA ⟨rfl, hEA⟩
  have e0 := hEA.cell_at (k := w.heap.size) (o := 0) (v := .complex .f32 t0 t1) (by go_simp) (by omega)
  have e1 := hEA.cell_at (k := w.heap.size) (o := 1) (v := .complex .f32 t2 t3) (by go_simp) (by omega)
  have e2 := hEA.cell_at (k := w.heap.size) (o := 2) (v := .complex .f32 t4 t5) (by go_simp) (by omega)
  have e3 := hEA.cell_at (k := w.heap.size) (o := 3) (v := .complex .f32 t6 t7) (by go_simp) (by omega)
  have hB := hEA.at_
  have hsA := hEA.size
  simp at hsA
  go_wp2_with fail
  with_reducible refine (K2.out _ hB).mono ?_; rintro e w' ⟨rfl, rfl⟩
  have hX : Ext b q1 w (wA.setCell ⟨b, 0, none⟩ (.int .i64 q1)) := (((Ext.refl hA).alloc _).trans hEA).set q1
  have c0 : (wA.setCell ⟨b, 0, none⟩ (.int .i64 q1)).cell? ⟨w.heap.size, 0, none⟩ = some (.complex .f32 t0 t1) := by go_simp
  have c1 : (wA.setCell ⟨b, 0, none⟩ (.int .i64 q1)).cell? ⟨w.heap.size, 1, none⟩ = some (.complex .f32 t2 t3) := by go_simp
  have c2 : (wA.setCell ⟨b, 0, none⟩ (.int .i64 q1)).cell? ⟨w.heap.size, 2, none⟩ = some (.complex .f32 t4 t5) := by go_simp
  have c3 : (wA.setCell ⟨b, 0, none⟩ (.int .i64 q1)).cell? ⟨w.heap.size, 3, none⟩ = some (.complex .f32 t6 t7) := by go_simp
  have hlB : w.heap.size < (wA.setCell ⟨b, 0, none⟩ (.int .i64 q1)).heap.size := by simp; omega
  generalize wA.setCell ⟨b, 0, none⟩ (.int .i64 q1) = wB at *
  clear e0 e1 e2 e3 hB hsA hEA
  have hC := hX.at_
  have hsB := hX.size
  go_wp2_with fail
  go_region_held3 (fun w' => w'.cell? ⟨w.heap.size, 0, none⟩ = some (.complex .f32 t0 t1) ∧ w'.cell? ⟨w.heap.size, 1, none⟩ = some (.complex .f32 t2 t3) ∧ w'.cell? ⟨w.heap.size, 2, none⟩ = some (.complex .f32 t4 t5) ∧ w'.cell? ⟨w.heap.size, 3, none⟩ = some (.complex .f32 t6 t7)) (((repeat' apply And.intro) <;> (first | (with_reducible assumption) | (go_simp; done))))
    (first | (go_at_call 120; with_reducible refine (K3.out _).mono ?_; rintro e w' ⟨rfl, rfl⟩)
           | (go_at_call 145; with_reducible refine (K4.out _ (by repeat (with_reducible first | assumption | apply At.set | apply At.alloc | apply At.drew | apply At.drewN))).mono ?_; rintro e wD ⟨rfl, hED⟩; go_split_ands; have hBD := hED.at_; have u0 := hED.cell_at (k := w.heap.size) (o := 0) (v := .complex .f32 t0 t1) (by go_simp) hne; have u1 := hED.cell_at (k := w.heap.size) (o := 1) (v := .complex .f32 t2 t3) (by go_simp) hne; have u2 := hED.cell_at (k := w.heap.size) (o := 2) (v := .complex .f32 t4 t5) (by go_simp) hne; have u3 := hED.cell_at (k := w.heap.size) (o := 3) (v := .complex .f32 t6 t7) (by go_simp) hne; have hbD := hED.at_.lt; have hsD := hED.size; simp at hsD; have nD1 : w.heap.size < wD.heap.size := (by omega); have nD2 : w.heap.size ≠ wD.heap.size := (by omega); have nD3 : wD.heap.size ≠ b := (by omega))
           | (go_at_call 144; with_reducible refine (K5.out _ (by repeat (with_reducible first | assumption | apply At.set | apply At.alloc | apply At.drew | apply At.drewN))).mono ?_; rintro e w' ⟨rfl, rfl⟩)
           | (go_at_call 143; with_reducible refine (K6.out _ _ _ (by go_simp)).mono ?_; rintro e w' ⟨rfl, rfl⟩))
  all_goals (rename_i hh; clear hh)
  all_goals go_wp2_with fail
  all_goals go_ret
  all_goals refine ⟨rfl, ?_⟩
  all_goals repeat' (with_reducible first | exact hX | apply Ext.drew | apply Ext.drewN | apply Ext.alloc | apply Ext.set | apply Ext.trans (k := hED))

def toldF (u : Value) (c : Int) : Value := if c = 0 then u else .slice none 0 0
theorem toldF_c (b : Nat) (c : Int) (u : Value) (w : World) (hA : At b c w) :
    Calls Try.prog 100 #[.pointer (some ⟨b, 0, none⟩), u] w fun e w' => e = .returned (.tuple #[toldF u c, .int .i64 c]) ∧ New w w' := by
  have hlt := hA.lt
  have hc := hA.1
  unfold toldF
  by_cases h0 : c = 0
  · subst h0
    rw [if_pos rfl]
    go_enter Try.func100, Try.ntmps100
    go_wp2
    refine bodyPost_ret (v := .tuple #[u, .int .i64 0]) (by simp [results, Try.results100, go_sem]) rfl ⟨rfl, New.refl w⟩
  · rw [if_neg h0]
    have h1 : (c != 0) = true := by simpa using h0
    have e3 : w.cell? ⟨b, 0, none⟩ = some (.int .i64 c) := hc
    clear h0 hc
    go_enter Try.func100, Try.ntmps100
    go_wp2
    go_region
    all_goals
      go_wp2
      refine bodyPost_ret (v := .tuple #[.slice none 0 0, .int .i64 c]) (by simp [results, Try.results100, go_sem]) rfl ⟨rfl, ?_⟩
      exact (New.refl w).drew
end Go.Proofs.Ytmbjomjpnfnbkaa
