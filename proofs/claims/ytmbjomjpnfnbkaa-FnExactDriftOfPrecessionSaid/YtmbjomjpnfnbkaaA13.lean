/-
  Walks of what is told of a number and its code, and of the program's ErrorOfStep.
-/
import Derived.Test.YtmbjomjpnfnbkaaA12
set_option linter.unusedSimpArgs false
set_option linter.unusedVariables false
namespace Go.Proofs.Ytmbjomjpnfnbkaa
open Go.RowKit Flt

/-- What is told of a number and its code. -/
def toldN (r : Int × Nat) : Int × Nat := if r.1 = 0 then r else (r.1, 0)

set_option maxHeartbeats 400000 in
theorem toldN_c (b : Nat) (r : Int × Nat) (w : World) (hA : At b r.1 w) :
    Calls Try.prog 75 #[.pointer (some ⟨b, 0, none⟩), .float .f32 r.2] w fun e w' => e = .returned (.tuple #[.float .f32 (toldN r).2, .int .i64 (toldN r).1]) ∧ New w w' := by
  have hlt := hA.lt
  obtain ⟨c, x⟩ := r
  have hc := hA.1
  simp only at hc
  by_cases h0 : c = 0
  · subst h0
    have hR : toldN (0, x) = (0, x) := rfl
    rw [hR]
    clear hR
    go_enter Try.func75, Try.ntmps75
    go_wp2
    refine bodyPost_ret (v := .tuple #[.float .f32 x, .int .i64 0]) (by simp [results, Try.results75, go_sem]) rfl ⟨rfl, ?_⟩
    repeat (with_reducible first | exact New.refl w | apply New.alloc | apply New.drew)
  · have hR : toldN (c, x) = (c, 0) := by unfold toldN; rw [if_neg h0]
    rw [hR]
    have h1 : (c != 0) = true := by simpa using h0
    have e3 : ∀ o1, (w.alloc o1).cell? ⟨b, 0, none⟩ = some (.int .i64 c) := fun o1 => (hA.alloc o1).1
    have e4 : ∀ o1 o2, ((w.alloc o1).alloc o2).cell? ⟨b, 0, none⟩ = some (.int .i64 c) := fun o1 o2 => ((hA.alloc o1).alloc o2).1
    clear hR h0
    go_enter Try.func75, Try.ntmps75
    go_wp2
    all_goals try go_region
    all_goals
      go_wp2
      refine bodyPost_ret (v := .tuple #[.float .f32 0, .int .i64 c]) (by simp [results, Try.results75, go_sem]) rfl ⟨rfl, ?_⟩
      repeat (with_reducible first | exact New.refl w | apply New.alloc | apply New.drew)

def errR (x y z h : Nat) : Int × Nat := if isFin4 x y z h = true then toldN (errM x y z h 0) else (1, 0)

set_option maxHeartbeats 1000000 in
theorem errorOfStep_c (x y z h : Nat) (w : World) (hx : x < 2 ^ 32) (hy : y < 2 ^ 32) (hz : z < 2 ^ 32) (hh : h < 2 ^ 32) :
    Calls Try.prog 38 #[V3 x y z, .float .f32 h] w fun e w' => e = .returned (.tuple #[.float .f32 (errR x y z h).2, .int .i64 (errR x y z h).1]) ∧ New w w' := by
  cases hf : isFin4 x y z h with
  | false =>
    have hR : errR x y z h = (1, 0) := if_neg (by simp [hf])
    rw [hR]
    have HC := hid (fcode_step x y z h)
    have HF := hid hf
    clear hR hf hx hy hz hh
    go_enter Try.func38, Try.ntmps38
    go_wp2_with fail
    refine (fieldCode_c x y z _ 0 [h] 1 _ _ _ _ true _ (by simp) (fun j hj => ?_)).mono ?_
    · have : j = 0 := by simp at hj; omega
      subst this; go_simp
    · rintro e w1 ⟨rfl, hN⟩
      rw [HC.out, HF.out]
      go_wp2
      refine bodyPost_ret (v := .tuple #[.float .f32 0, .int .i64 1]) (by simp [results, Try.results38, go_sem]) rfl ⟨rfl, ?_⟩
      exact (((New.refl w).alloc _).alloc _).trans hN
  | true =>
    have hR : errR x y z h = toldN (errM x y z h 0) := if_pos hf
    rw [hR]
    have HC := hid (fcode_step x y z h)
    have HF := hid hf
    simp only [isFin4, Bool.and_eq_true] at hf
    have fx : FW x := ⟨hx, hf.1.1.1⟩
    have fy : FW y := ⟨hy, hf.1.1.2⟩
    have fz : FW z := ⟨hz, hf.1.2⟩
    have fh : FW h := ⟨hh, hf.2⟩
    have c1 := fun b w hA => stepError_c b 0 x y z h w fx fy fz fh hA
    clear hR hf hx hy hz hh fx fy fz fh
    generalize errM x y z h 0 = r at *
    have c2 := fun b w hA => toldN_c b r w hA
    generalize toldN r = t at *
    obtain ⟨t1, t2⟩ := t
    go_enter Try.func38, Try.ntmps38
    go_wp2_with fail
    refine (fieldCode_c x y z _ 0 [h] 1 _ _ _ _ true _ (by simp) (fun j hj => ?_)).mono ?_
    · have : j = 0 := by simp at hj; omega
      subst this; go_simp
    · rintro e w1 ⟨rfl, hN⟩
      rw [HC.out, HF.out]
      obtain ⟨l1, l2, l3⟩ := hN.laws
      have hN1 := (((New.refl w).alloc _).alloc _).trans hN
      have hs := hN1.size
      have hs2 := hN.size
      simp at hs2
      have hq1 : w.heap.size ≠ w1.heap.size := by omega
      have hq2 : w.heap.size < w1.heap.size := by omega
      go_wp2_with fail
      refine (c1 _ _ (At.new _ _ _)).mono ?_; rintro e w2 ⟨rfl, hE⟩
      go_wp2_with fail
      refine (c2 _ _ hE.at_).mono ?_; rintro e w3 ⟨rfl, hN3⟩
      go_wp2
      refine bodyPost_ret (v := .tuple #[.float .f32 t2, .int .i64 t1]) (by simp [results, Try.results38, go_sem]) rfl ⟨rfl, ?_⟩
      exact (hN1.ext hE hs).trans hN3
end Go.Proofs.Ytmbjomjpnfnbkaa
