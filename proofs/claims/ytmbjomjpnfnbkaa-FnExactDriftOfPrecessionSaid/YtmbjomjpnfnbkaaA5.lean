/-
  The walk of the step of a field.
-/
import Derived.Test.YtmbjomjpnfnbkaaA4
set_option linter.unusedSimpArgs false
set_option linter.unusedVariables false
namespace Go.Proofs.Ytmbjomjpnfnbkaa
open Go.RowKit Flt

/-- 'step'. -/
def one : Nat := 1065353216
def two : Nat := 1073741824
def stepM (b0 b1 b2 h : Nat) (c : Int) : C8 :=
  let k := divM h 1073741824 c
  let kk := mulM k.2 k.2 k.1
  let d0 := dotM b0 b1 b2 b0 b1 b2 kk.1
  let q := mulM kk.2 d0.2 d0.1
  let d := addM 1065353216 q.2 q.1
  let s := subM 1065353216 q.2 d.1
  let p := divM s.2 d.2 s.1
  let f := divM h d.2 p.1
  let x := mulM f.2 b0 f.1
  let y := mulM f.2 b1 x.1
  let z := mulM f.2 b2 y.1
  ofPartsM p.2 x.2 y.2 z.2 z.1
theorem fin1 : fin S 1065353216 = true := by decide
theorem fin2 : fin S 1073741824 = true := by decide
theorem dotM_fin (v0 v1 v2 w0 w1 w2 : Nat) (c : Int) : fin S (dotM v0 v1 v2 w0 w1 w2 c).2 = true := rnd_fin _ _

set_option maxHeartbeats 1000000 in
theorem step_c (b : Nat) (c : Int) (b0 b1 b2 h : Nat) (w : World) (h0 : FW b0) (h1 : FW b1) (h2 : FW b2) (hh : FW h) (hA : At b c w) :
    Calls Try.prog 79 #[.pointer (some ⟨b, 0, none⟩), V3 b0 b1 b2, .float .f32 h] w fun e w' => e = .returned (stepM b0 b1 b2 h c).val ∧ Ext b (stepM b0 b1 b2 h c).c w w' := by
  have hlt := hA.lt
  go_enter Try.func79, Try.ntmps79
  go_wp2_with fail
  refine (div_c b _ _ _ _ hh.2 fin2 (by repeat (with_reducible first | exact hA | exact hE.at_ | apply At.set | apply At.alloc | apply At.drew | apply At.drewN))).mono ?_; rintro e w' ⟨rfl, rfl⟩
  generalize hk : divM h 1073741824 c = k
  have Hk := hid hk
  clear hk
  go_wp2_with fail
  go_region_held3 (fun w' => w'.cell? ⟨w.heap.size, 0, none⟩ = some (.float .f32 b0) ∧ w'.cell? ⟨w.heap.size, 1, none⟩ = some (.float .f32 b1) ∧ w'.cell? ⟨w.heap.size, 2, none⟩ = some (.float .f32 b2)) ((refine ⟨?_, ?_, ?_⟩ <;> go_simp))
    (first | (go_at_call 125; refine (dot_c b _ _ _ _ _ _ _ _ h0.2 h1.2 h2.2 h0.2 h1.2 h2.2 (by repeat (with_reducible first | exact hA | exact hE.at_ | apply At.set | apply At.alloc | apply At.drew | apply At.drewN))).mono ?_; rintro e w1 ⟨rfl, hE⟩; have e0 := hE.cell_at (k := w.heap.size) (o := 0) (v := .float .f32 b0) (by go_simp) (by omega); have e1 := hE.cell_at (k := w.heap.size) (o := 1) (v := .float .f32 b1) (by go_simp) (by omega); have e2 := hE.cell_at (k := w.heap.size) (o := 2) (v := .float .f32 b2) (by go_simp) (by omega))
           | (go_at_call 124; refine (mul_c b _ _ _ _ (by first | exact mulM_fin _ _ _ | exact (Hk.out ▸ divM_fin _ _ _)) (by first | exact dotM_fin _ _ _ _ _ _ _ | exact (Hk.out ▸ divM_fin _ _ _)) (by repeat (with_reducible first | exact hA | exact hE.at_ | apply At.set | apply At.alloc | apply At.drew | apply At.drewN))).mono ?_; rintro e w' ⟨rfl, rfl⟩))
  rename_i hh2; clear hh2
  have r0 := hE.cell_at (k := w.heap.size + 1) (o := 0) (v := .complex .f32 0 0) (by go_simp) (by omega)
  have r1 := hE.cell_at (k := w.heap.size + 1) (o := 1) (v := .complex .f32 0 0) (by go_simp) (by omega)
  have r2 := hE.cell_at (k := w.heap.size + 1) (o := 2) (v := .complex .f32 0 0) (by go_simp) (by omega)
  have r3 := hE.cell_at (k := w.heap.size + 1) (o := 3) (v := .complex .f32 0 0) (by go_simp) (by omega)
  have q0 := hE.frozen_at (k := w.heap.size + 1) (o := 0) (by simp) (by go_simp) (by omega)
  have q1 := hE.frozen_at (k := w.heap.size + 1) (o := 1) (by simp) (by go_simp) (by omega)
  have q2 := hE.frozen_at (k := w.heap.size + 1) (o := 2) (by simp) (by go_simp) (by omega)
  have q3 := hE.frozen_at (k := w.heap.size + 1) (o := 3) (by simp) (by go_simp) (by omega)
  have hs := hE.size
  simp at hs
  generalize hkk : mulM k.2 k.2 k.1 = kk at *
  generalize hd0 : dotM b0 b1 b2 b0 b1 b2 kk.1 = d0 at *
  generalize hq : mulM kk.2 d0.2 d0.1 = q at *
  have Hkk := hid hkk
  have Hd0 := hid hd0
  have Hq := hid hq
  clear hkk hd0 hq
  go_wp2_with fail
  refine (add_c b _ _ _ _ fin1 (Hq.out ▸ mulM_fin _ _ _) (by repeat (with_reducible first | exact hA | exact hE.at_ | exact hE2.at_ | apply At.set | apply At.alloc | apply At.drew | apply At.drewN))).mono ?_; rintro e w' ⟨rfl, rfl⟩
  generalize hd : addM 1065353216 q.2 q.1 = d
  have Hd := hid hd
  clear hd
  go_wp2_with fail
  refine (sub_c b _ _ _ _ fin1 (Hq.out ▸ mulM_fin _ _ _) (by repeat (with_reducible first | exact hA | exact hE.at_ | exact hE2.at_ | apply At.set | apply At.alloc | apply At.drew | apply At.drewN))).mono ?_; rintro e w' ⟨rfl, rfl⟩
  generalize hd : subM 1065353216 q.2 d.1 = s
  have Hs := hid hd
  clear hd
  go_wp2_with fail
  refine (div_c b _ _ _ _ (Hs.out ▸ rnd_fin _ _) (Hd.out ▸ rnd_fin _ _) (by repeat (with_reducible first | exact hA | exact hE.at_ | exact hE2.at_ | apply At.set | apply At.alloc | apply At.drew | apply At.drewN))).mono ?_; rintro e w' ⟨rfl, rfl⟩
  generalize hd : divM s.2 d.2 s.1 = p
  have Hp := hid hd
  clear hd
  go_wp2_with fail
  refine (div_c b _ _ _ _ hh.2 (Hd.out ▸ rnd_fin _ _) (by repeat (with_reducible first | exact hA | exact hE.at_ | exact hE2.at_ | apply At.set | apply At.alloc | apply At.drew | apply At.drewN))).mono ?_; rintro e w' ⟨rfl, rfl⟩
  generalize hd : divM h d.2 p.1 = f
  have Hf := hid hd
  clear hd
  have ff : FW f.2 := Hf.out ▸ divM_FW hh.2 (Hd.out ▸ rnd_fin _ _) _
  have fp : FW p.2 := Hp.out ▸ divM_FW (Hs.out ▸ rnd_fin _ _) (Hd.out ▸ rnd_fin _ _) _
  go_wp2_with fail
  go_region_held3 (fun w' => w'.cell? ⟨w.heap.size, 0, none⟩ = some (.float .f32 b0) ∧ w'.cell? ⟨w.heap.size, 1, none⟩ = some (.float .f32 b1) ∧ w'.cell? ⟨w.heap.size, 2, none⟩ = some (.float .f32 b2)) ((refine ⟨?_, ?_, ?_⟩ <;> go_simp))
    (first | (go_at_call 126; refine (ofParts_c b _ _ _ _ _ _ fp (mulM_FW ff.2 h0.2 _) (mulM_FW ff.2 h1.2 _) (mulM_FW ff.2 h2.2 _) (by repeat (with_reducible first | exact hA | exact hE.at_ | exact hE2.at_ | apply At.set | apply At.alloc | apply At.drew | apply At.drewN))).mono ?_; rintro e w2 ⟨rfl, hE2⟩; have e0' := hE2.cell_at (k := w.heap.size) (o := 0) (v := .float .f32 b0) (by go_simp) (by omega); have e1' := hE2.cell_at (k := w.heap.size) (o := 1) (v := .float .f32 b1) (by go_simp) (by omega); have e2' := hE2.cell_at (k := w.heap.size) (o := 2) (v := .float .f32 b2) (by go_simp) (by omega); have r0' := hE2.cell_at (k := w.heap.size + 1) (o := 0) (v := .complex .f32 0 0) (by go_simp) (by omega); have r1' := hE2.cell_at (k := w.heap.size + 1) (o := 1) (v := .complex .f32 0 0) (by go_simp) (by omega); have r2' := hE2.cell_at (k := w.heap.size + 1) (o := 2) (v := .complex .f32 0 0) (by go_simp) (by omega); have r3' := hE2.cell_at (k := w.heap.size + 1) (o := 3) (v := .complex .f32 0 0) (by go_simp) (by omega); have q0' := hE2.frozen_at (k := w.heap.size + 1) (o := 0) (by simp; omega) (by go_simp) (by omega); have q1' := hE2.frozen_at (k := w.heap.size + 1) (o := 1) (by simp; omega) (by go_simp) (by omega); have q2' := hE2.frozen_at (k := w.heap.size + 1) (o := 2) (by simp; omega) (by go_simp) (by omega); have q3' := hE2.frozen_at (k := w.heap.size + 1) (o := 3) (by simp; omega) (by go_simp) (by omega))
           | (go_at_call 124; refine (mul_c b _ _ _ _ ff.2 (by first | exact h0.2 | exact h1.2 | exact h2.2) (by repeat (with_reducible first | exact hA | exact hE.at_ | exact hE2.at_ | apply At.set | apply At.alloc | apply At.drew | apply At.drewN))).mono ?_; rintro e w' ⟨rfl, rfl⟩))
  rename_i hh2; clear hh2
  have hs2 := hE2.size
  simp at hs2
  have hR : ofPartsM p.snd (mulM f.snd b0 f.fst).snd (mulM f.snd b1 (mulM f.snd b0 f.fst).fst).snd (mulM f.snd b2 (mulM f.snd b1 (mulM f.snd b0 f.fst).fst).fst).snd (mulM f.snd b2 (mulM f.snd b1 (mulM f.snd b0 f.fst).fst).fst).fst = stepM b0 b1 b2 h c := by
    unfold stepM; simp only [Hk.out, Hkk.out, Hd0.out, Hq.out, Hd.out, Hs.out, Hp.out, Hf.out]
  rw [hR] at hE2 ⊢
  clear hR
  go_wp2
  refine bodyPost_ret (v := (stepM b0 b1 b2 h c).val) (by simp [results, Try.results79, go_sem, r0', r1', r2', r3']) rfl ⟨rfl, ?_⟩
  have g1 : w.heap.size ≤ w.heap.size + 1 := Nat.le_succ _
  have g2 : w.heap.size + 1 ≠ b := by omega
  refine Ext.setNew (p := ⟨w.heap.size + 1, 3, none⟩) ?_ g1 g2 _
  refine Ext.setNew (p := ⟨w.heap.size + 1, 2, none⟩) ?_ g1 g2 _
  refine Ext.setNew (p := ⟨w.heap.size + 1, 1, none⟩) ?_ g1 g2 _
  refine Ext.setNew (p := ⟨w.heap.size + 1, 0, none⟩) ?_ g1 g2 _
  refine Ext.trans (c := (mulM f.2 b2 (mulM f.2 b1 (mulM f.2 b0 f.1).1).1).1) ?_ hE2
  repeat (with_reducible first | apply Ext.drew | apply Ext.drewN | apply Ext.alloc)
  refine (Ext.trans (c := kk.1) ?_ hE).set _
  repeat (with_reducible first | apply Ext.drew | apply Ext.drewN | apply Ext.alloc)
  exact (Ext.refl hA).set _
end Go.Proofs.Ytmbjomjpnfnbkaa
