/-
  Walk of the program's error of a step.
-/
import Derived.Test.YtmbjomjpnfnbkaaP4
import Derived.Deep.CutRange
set_option linter.unusedSimpArgs false
set_option linter.unusedVariables false
namespace Go.Proofs.Ytmbjomjpnfnbkaa
open Go.RowKit Flt

theorem inTableM_FW (a0 a1 b0 b1 x0 x1 y0 y1 : Nat) (c : Int) : FW (inTableM a0 a1 b0 b1 x0 x1 y0 y1 c).2.1 ∧ FW (inTableM a0 a1 b0 b1 x0 x1 y0 y1 c).2.2 :=
  ⟨addM_FW (timesM_fin _ _ _ _ _).1 (timesM_fin _ _ _ _ _).1 _, addM_FW (timesM_fin _ _ _ _ _).2 (timesM_fin _ _ _ _ _).2 _⟩
theorem productM_FW (s t : C8) (c : Int) : Fw8 (productM s t c) :=
  ⟨(inTableM_FW _ _ _ _ _ _ _ _ _).1, (inTableM_FW _ _ _ _ _ _ _ _ _).2, (inTableM_FW _ _ _ _ _ _ _ _ _).1, (inTableM_FW _ _ _ _ _ _ _ _ _).2, (inTableM_FW _ _ _ _ _ _ _ _ _).1, (inTableM_FW _ _ _ _ _ _ _ _ _).2, (inTableM_FW _ _ _ _ _ _ _ _ _).1, (inTableM_FW _ _ _ _ _ _ _ _ _).2⟩
/-- What is known behind a call that turned the code's cell and made memory. -/
theorem Ext.laws {b : Nat} {c : Int} {w w' : World} (h : Ext b c w w') : (∀ k o, k < w.heap.size → k ≠ b → w'.cell? ⟨k, o, none⟩ = w.cell? ⟨k, o, none⟩) ∧ (∀ k o, k < w.heap.size → k ≠ b → w'.frozen? ⟨k, o, none⟩ = w.frozen? ⟨k, o, none⟩) ∧ (∀ k, k < w.heap.size → k < w'.heap.size) ∧ (∀ k, k < w.heap.size → k ≠ w'.heap.size) ∧ (∀ k, k < w.heap.size → w'.heap.size ≠ k) :=
  ⟨h.cells.1, h.cells.2, fun k hk => Nat.lt_of_lt_of_le hk h.size, fun k hk => by have := h.size; omega, fun k hk => by have := h.size; omega⟩

/-- What stands in a block of four parts. -/
def Box (w : World) (p : Nat) (t : C8) : Prop :=
  w.cell? ⟨p, 0, none⟩ = some (.complex .f32 t.a0 t.a1) ∧ w.cell? ⟨p, 1, none⟩ = some (.complex .f32 t.b0 t.b1) ∧ w.cell? ⟨p, 2, none⟩ = some (.complex .f32 t.c0 t.c1) ∧ w.cell? ⟨p, 3, none⟩ = some (.complex .f32 t.d0 t.d1)

set_option maxHeartbeats 8000000 in
theorem stepError_c (b : Nat) (c : Int) (x y z h : Nat) (w : World) (hx : FW x) (hy : FW y) (hz : FW z) (hh : FW h) (hA : At b c w) :
    Calls Try.prog 89 #[.pointer (some ⟨b, 0, none⟩), V3 x y z, .float .f32 h] w fun e w' => e = .returned (.float .f32 (errM x y z h c).2) ∧ Ext b (errM x y z h c).1 w w' := by
  have hlt := hA.lt
  have E : errM x y z h c = errM x y z h c := rfl
  conv at E => rhs; unfold errM
  simp only at E
  have H1 := fun w hA => step_c b c x y z h w hx hy hz hh hA
  have La := stepM_lw hx hy hz hh c
  generalize ea : stepM x y z h c = a at *
  have H2 := fun w hA => div_c b a.c h 1073741824 w hh.2 fin_2 hA
  have Fk := divM_FW hh.2 fin_2 a.c
  generalize ek : divM h 1073741824 a.c = k at *
  have H3 := fun w hA => step_c b k.1 x y z k.2 w hx hy hz Fk hA
  have Lf := stepM_lw hx hy hz Fk k.1
  generalize ef : stepM x y z k.2 k.1 = f at *
  have H4 := fun w hA => product_c b f.c f f 3 3 w Lf Lf (by decide) (by decide) hA
  have H5 := fun w hA => distance_c b (productM f f f.c).c a (productM f f f.c) w La.fw (productM_FW f f f.c) hA
  rw [E]
  clear E ea ek ef La Lf Fk
  obtain ⟨ac, a0, a1, a2, a3, a4, a5, a6, a7⟩ := a
  obtain ⟨fc, f0, f1, f2, f3, f4, f5, f6, f7⟩ := f
  simp only at H1 H2 H3 H4 H5
  have n0 : w.heap.size ≠ b := by omega
  have n1 : w.heap.size + 1 ≠ b := by omega
  have n2 : w.heap.size + 1 + 1 ≠ b := by omega
  go_enter Try.func89, Try.ntmps89
  go_wp2_with fail
  go_cut [7, 8] from 9 to 18 (fun u v wx => ∃ p q, u = .pointer (some ⟨p, 0, none⟩) ∧ v = .pointer (some ⟨q, 0, none⟩) ∧ Box wx p ⟨ac, a0, a1, a2, a3, a4, a5, a6, a7⟩ ∧ Box wx q ⟨fc, f0, f1, f2, f3, f4, f5, f6, f7⟩ ∧ p ≠ b ∧ q ≠ b ∧ Ext b fc w wx)
  case first =>
    go_region_held3 (fun w' => w'.cell? ⟨w.heap.size, 0, none⟩ = some (.float .f32 x) ∧ w'.cell? ⟨w.heap.size, 1, none⟩ = some (.float .f32 y) ∧ w'.cell? ⟨w.heap.size, 2, none⟩ = some (.float .f32 z)) (((repeat' apply And.intro) <;> (first | (with_reducible assumption) | (go_simp; done))))
      (first | (go_at_call 79; with_reducible refine (H1 _ (by repeat (with_reducible first | assumption | apply At.set | apply At.alloc | apply At.drew | apply At.drewN))).mono ?_; rintro e wA ⟨rfl, hEA⟩; go_split_ands; have hB := hEA.at_; have hb1 := hEA.at_.lt; have hz1 := hEA.size; have e0 := hEA.cell_at (k := w.heap.size) (o := 0) (v := .float .f32 x) (by go_simp) (by omega); have e1 := hEA.cell_at (k := w.heap.size) (o := 1) (v := .float .f32 y) (by go_simp) (by omega); have e2 := hEA.cell_at (k := w.heap.size) (o := 2) (v := .float .f32 z) (by go_simp) (by omega); obtain ⟨l1, l2, l3, l4, l5⟩ := hEA.laws; simp at hz1; have hn1 : w.heap.size ≠ wA.heap.size := (by omega); have hn2 : wA.heap.size ≠ b := (by omega); have hn3 : wA.heap.size + 1 ≠ b := (by omega); have hn4 : w.heap.size < wA.heap.size := (by omega); (try have := show w.heap.size + 1 < wA.heap.size from (by omega)); (try have := show w.heap.size + 1 ≠ wA.heap.size from (by omega)); (try have := show w.heap.size + 1 + 1 < wA.heap.size from (by omega)); (try have := show w.heap.size + 1 + 1 ≠ wA.heap.size from (by omega)))
             | (go_at_call 62; with_reducible refine (H2 _ (by repeat (with_reducible first | assumption | apply At.set | apply At.alloc | apply At.drew | apply At.drewN))).mono ?_; rintro e w' ⟨rfl, rfl⟩)
             | (go_at_call 79; with_reducible refine (H3 _ (by repeat (with_reducible first | assumption | apply At.set | apply At.alloc | apply At.drew | apply At.drewN))).mono ?_; rintro e wB ⟨rfl, hEB⟩; go_split_ands; have hB := hEB.at_; have hb1 := hEB.at_.lt; have hz1 := hEB.size; have e0 := hEB.cell_at (k := w.heap.size) (o := 0) (v := .float .f32 x) (by go_simp) (by omega); have e1 := hEB.cell_at (k := w.heap.size) (o := 1) (v := .float .f32 y) (by go_simp) (by omega); have e2 := hEB.cell_at (k := w.heap.size) (o := 2) (v := .float .f32 z) (by go_simp) (by omega); obtain ⟨l1, l2, l3, l4, l5⟩ := hEB.laws; simp at hz1; have hn1 : w.heap.size ≠ wB.heap.size := (by omega); have hn2 : wB.heap.size ≠ b := (by omega); have hn3 : wB.heap.size + 1 ≠ b := (by omega); have hn4 : w.heap.size < wB.heap.size := (by omega); (try have := show w.heap.size + 1 < wB.heap.size from (by omega)); (try have := show w.heap.size + 1 ≠ wB.heap.size from (by omega)); (try have := show w.heap.size + 1 + 1 < wB.heap.size from (by omega)); (try have := show w.heap.size + 1 + 1 ≠ wB.heap.size from (by omega)); (try have := show wA.heap.size < wB.heap.size from (by omega)); (try have := show wA.heap.size ≠ wB.heap.size from (by omega)); (try have := show wA.heap.size + 1 < wB.heap.size from (by omega)); (try have := show wA.heap.size + 1 ≠ wB.heap.size from (by omega))))
    all_goals
      rename_i hh; clear hh
      go_wp2_with fail
      go_meet
      refine ⟨_, _, rfl, rfl, ⟨?_, ?_, ?_, ?_⟩, ⟨?_, ?_, ?_, ?_⟩, ?_, ?_, ?_⟩
    all_goals first | (go_simp; done) | omega | skip
    all_goals repeat' (with_reducible first | exact Ext.refl hA | apply Ext.drew | apply Ext.drewN | apply Ext.alloc | apply Ext.set | apply Ext.trans (k := hEB) | apply Ext.trans (k := hEA) | apply Ext.setNew | (dsimp only; omega))
  case rest =>
    obtain ⟨p, q, rfl, rfl, ⟨b0, b1, b2, b3⟩, ⟨g0, g1, g2, g3⟩, np, nq, hX⟩ := hcut
    have hB := hX.at_
    simp only at b0 b1 b2 b3 g0 g1 g2 g3
    go_wp2_with fail
    go_region_held3 (fun w' => w'.cell? ⟨p, 0, none⟩ = some (.complex .f32 a0 a1) ∧ w'.cell? ⟨p, 1, none⟩ = some (.complex .f32 a2 a3) ∧ w'.cell? ⟨p, 2, none⟩ = some (.complex .f32 a4 a5) ∧ w'.cell? ⟨p, 3, none⟩ = some (.complex .f32 a6 a7) ∧ w'.cell? ⟨q, 0, none⟩ = some (.complex .f32 f0 f1) ∧ w'.cell? ⟨q, 1, none⟩ = some (.complex .f32 f2 f3) ∧ w'.cell? ⟨q, 2, none⟩ = some (.complex .f32 f4 f5) ∧ w'.cell? ⟨q, 3, none⟩ = some (.complex .f32 f6 f7)) (((repeat' apply And.intro) <;> (first | (with_reducible assumption) | (go_simp; done))))
      (first | (go_at_call 87; with_reducible refine (H4 _ (by repeat (with_reducible first | assumption | apply At.set | apply At.alloc | apply At.drew | apply At.drewN))).mono ?_; rintro e wC ⟨rfl, hEC⟩; go_split_ands; have hBC := hEC.at_; have u0 := hEC.cell_at (k := p) (o := 0) (v := .complex .f32 a0 a1) (by go_simp) np; have u1 := hEC.cell_at (k := p) (o := 1) (v := .complex .f32 a2 a3) (by go_simp) np; have u2 := hEC.cell_at (k := p) (o := 2) (v := .complex .f32 a4 a5) (by go_simp) np; have u3 := hEC.cell_at (k := p) (o := 3) (v := .complex .f32 a6 a7) (by go_simp) np; have v0 := hEC.cell_at (k := q) (o := 0) (v := .complex .f32 f0 f1) (by go_simp) nq; have v1 := hEC.cell_at (k := q) (o := 1) (v := .complex .f32 f2 f3) (by go_simp) nq; have v2 := hEC.cell_at (k := q) (o := 2) (v := .complex .f32 f4 f5) (by go_simp) nq; have v3 := hEC.cell_at (k := q) (o := 3) (v := .complex .f32 f6 f7) (by go_simp) nq)
             | (go_at_call 135; with_reducible refine (H5 _ (by repeat (with_reducible first | assumption | apply At.set | apply At.alloc | apply At.drew | apply At.drewN))).mono ?_; rintro e wD ⟨rfl, hED⟩; go_split_ands; have u0 := hED.cell_at (k := p) (o := 0) (v := .complex .f32 a0 a1) (by go_simp) np; have u1 := hED.cell_at (k := p) (o := 1) (v := .complex .f32 a2 a3) (by go_simp) np; have u2 := hED.cell_at (k := p) (o := 2) (v := .complex .f32 a4 a5) (by go_simp) np; have u3 := hED.cell_at (k := p) (o := 3) (v := .complex .f32 a6 a7) (by go_simp) np; have v0 := hED.cell_at (k := q) (o := 0) (v := .complex .f32 f0 f1) (by go_simp) nq; have v1 := hED.cell_at (k := q) (o := 1) (v := .complex .f32 f2 f3) (by go_simp) nq; have v2 := hED.cell_at (k := q) (o := 2) (v := .complex .f32 f4 f5) (by go_simp) nq; have v3 := hED.cell_at (k := q) (o := 3) (v := .complex .f32 f6 f7) (by go_simp) nq))
    all_goals
      rename_i hh; clear hh
      go_wp2
      go_ret
      refine ⟨rfl, ?_⟩
      apply Ext.trans (k := hED)
      apply Ext.trans (k := hEC)
      first | exact hX.drew | exact hX
end Go.Proofs.Ytmbjomjpnfnbkaa
