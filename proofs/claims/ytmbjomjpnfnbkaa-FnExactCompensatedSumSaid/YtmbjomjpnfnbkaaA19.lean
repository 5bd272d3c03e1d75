/-
  Walk of the program's CompensatedSum.
-/
import Derived.Test.YtmbjomjpnfnbkaaA18
set_option linter.unusedSimpArgs false
set_option linter.unusedVariables false
namespace Go.Proofs.Ytmbjomjpnfnbkaa
open Go.RowKit Flt

/-- The program's answer. -/
def csR (xs : List Nat) : Int × Nat := if xs.all (fin S) = true then (if 100 < xs.length then (2, 0) else toldN (csM xs 0 0 0)) else (1, 0)

set_option maxHeartbeats 2000000 in
theorem compensatedSum_c (B o : Nat) (xs : List Nat) (cp : Nat) (w : World) (hlen : xs.length ≤ 9223372036854775807) (hx : ∀ x ∈ xs, x < 2 ^ 32)
    (hc : ∀ j, j < xs.length → w.cell? ⟨B, o + j, none⟩ = some (.float .f32 (xs.getD j 0))) (hB : B < w.heap.size) :
    Calls Try.prog 25 #[.slice (some ⟨B, o, none⟩) xs.length cp] w fun e w' => e = .returned (.tuple #[.float .f32 (csR xs).2, .int .i64 (csR xs).1]) ∧ New w w' := by
  have Hc := hid hc
  have C := hid (fun w hc => areNum_c B o xs cp w hlen hc)
  cases hf : xs.all (fin S) with
  | false =>
    have hR : csR xs = (1, 0) := if_neg (by simp [hf])
    rw [hR]
    have HF := hid hf
    clear hR hf hx hc
    go_enter Try.func25, Try.ntmps25
    go_wp2_with fail
    refine (C.out _ Hc.out).mono ?_; rintro e w1 ⟨rfl, hN⟩
    rw [HF.out]
    go_wp2
    refine bodyPost_ret (v := .tuple #[.float .f32 0, .int .i64 1]) (by simp [results, Try.results25, go_sem]) rfl ⟨rfl, hN⟩
  | true =>
    by_cases hl : 100 < xs.length
    · have hR : csR xs = (2, 0) := by unfold csR; rw [if_pos hf, if_pos hl]
      rw [hR]
      have HF := hid hf
      have hl' : (100 : Int) < (xs.length : Int) := by omega
      clear hR hf hx hc
      go_enter Try.func25, Try.ntmps25
      go_wp2_with fail
      refine (C.out _ Hc.out).mono ?_; rintro e w1 ⟨rfl, hN⟩
      rw [HF.out]
      go_wp2
      refine bodyPost_ret (v := .tuple #[.float .f32 0, .int .i64 2]) (by simp [results, Try.results25, go_sem]) rfl ⟨rfl, hN⟩
    · have hR : csR xs = toldN (csM xs 0 0 0) := by unfold csR; rw [if_pos hf, if_neg hl]
      rw [hR]
      have HF := hid hf
      have hl' : ¬ (100 : Int) < (xs.length : Int) := by omega
      have hX : ∀ x ∈ xs, FW x := fun x h => ⟨hx x h, List.all_eq_true.1 hf x h⟩
      have K := hid (fun b w hc hB hA => compensated_c b 0 B o xs cp w hlen hX hc hB hA)
      have HB := hid hB
      clear hR hf hx hX hc hB
      generalize csM xs 0 0 0 = r at *
      have T := hid (fun b w hA => toldN_c b r w hA)
      generalize toldN r = t at *
      obtain ⟨t1, t2⟩ := t
      go_enter Try.func25, Try.ntmps25
      go_wp2_with fail
      refine (C.out _ Hc.out).mono ?_; rintro e w1 ⟨rfl, hN⟩
      rw [HF.out]
      go_wp2_with fail
      have hs := hN.size
      have hB1 := HB.out
      refine (K.out w1.heap.size _ (fun j hj => cell_alloc (hN.cell_at (Hc.out j hj)) _) (by omega) (At.new _ _ _)).mono ?_; rintro e w2 ⟨rfl, hE⟩
      go_wp2_with fail
      refine (T.out _ _ hE.at_).mono ?_; rintro e w3 ⟨rfl, hN3⟩
      go_wp2
      refine bodyPost_ret (v := .tuple #[.float .f32 t2, .int .i64 t1]) (by simp [results, Try.results25, go_sem]) rfl ⟨rfl, ?_⟩
      exact (hN.ext hE hs).trans hN3
end Go.Proofs.Ytmbjomjpnfnbkaa
