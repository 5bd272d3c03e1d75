/-
  Walks of the reference's CompensatedSum.
-/
import Derived.Test.YtmbjomjpnfnbkaaD14
import Derived.Test.YtmbjomjpnfnbkaaD4
set_option linter.unusedSimpArgs false
set_option linter.unusedVariables false
namespace Go.Proofs.Ytmbjomjpnfnbkaa
open Go.RowKit Flt

/-- The reference's answer, its zero as it comes. -/
def csW (xs : List Nat) : Int × Nat := if xs.all (fin S) = true then (if 100 < xs.length then (2, 0) else csS xs 0 0) else (1, 0)

set_option maxHeartbeats 2000000 in
theorem l00CompensatedSum_c (B o : Nat) (xs : List Nat) (cp : Nat) (w : World) (hlen : xs.length ≤ 9223372036854775807) (hx : ∀ x ∈ xs, x < 2 ^ 32)
    (hc : ∀ j, j < xs.length → w.cell? ⟨B, o + j, none⟩ = some (.float .f32 (xs.getD j 0))) :
    Calls Try.prog 71 #[.slice (some ⟨B, o, none⟩) xs.length cp] w fun e w' => e = .returned (toldF (csW xs)) ∧ Drw w w' := by
  have Hc := hid hc
  have HX := hid hx
  generalize hR : csW xs = R
  have HR := hid hR
  clear hc hR hx
  go_enter Try.func71, Try.ntmps71
  go_wp2_with fail
  go_loopw [4] (fun i wr => ∃ k : Nat, k ≤ xs.length ∧ i = .int .i64 k ∧ Hid ((xs.take k).all (fin S) = true) ∧ Drw w wr) (fun i _ => xs.length - (intOf i).toNat)
  case atStart => exact ⟨0, Nat.zero_le _, rfl, hid rfl, Drw.refl w⟩
  case round =>
    obtain ⟨k, hk, rfl, hall, n, rfl⟩ := hrel
    by_cases hlt : k < xs.length
    · have hcell := Hc.out k hlt
      have hkn : ((k : Int) < (xs.length : Int)) := by omega
      have hts := hid (take_all_succ xs k hlt (fin S))
      have e : xs.getD k 0 = xs[k] := by simp [List.getD, hlt]
      rw [e] at hcell
      clear e
      cases hx : fin S xs[k] with
      | true =>
        have hX := hid hx
        clear hx
        go_wp2_with fail
        refine (fine_any _ _).mono ?_; rintro e w' ⟨rfl, m, rfl⟩; rw [hX.out]
        go_wp2_with fail
        go_roundw
        case rel => exact ⟨k + 1, by omega, by go_num, hid (by rw [hts.out, hall.out, hX.out]; rfl), ⟨_, rfl⟩⟩
        case measure => simp [intOf]; omega
      | false =>
        have hX := hid hx
        clear hx
        have HR1 : R = (1, 0) := by
          rw [← HR.out]; unfold csW
          have : xs.all (fin S) = false := by
            rw [List.all_eq_false]
            exact ⟨xs[k], List.getElem_mem _, by rw [hX.out]; simp⟩
          rw [this]; rfl
        have HS := hid HR1
        clear HR1
        go_wp2_with fail
        refine (fine_any _ _).mono ?_; rintro e w' ⟨rfl, m, rfl⟩; rw [hX.out]
        go_wp2
        refine bodyPost_ret (v := toldF (1, 0)) (by simp [results, Try.results71, go_sem]) rfl ⟨by rw [HS.out], ⟨_, rfl⟩⟩
    · have hk' : k = xs.length := by omega
      subst hk'
      have hall' := hall.out
      rw [List.take_of_length_le (Nat.le_refl _)] at hall'
      have hXF : ∀ x ∈ xs, FW x := fun x h => ⟨HX.out x h, List.all_eq_true.1 hall' x h⟩
      have hkn : ¬ ((xs.length : Int) < (xs.length : Int)) := by omega
      by_cases hl : 100 < xs.length
      · have hl' : (100 : Int) < (xs.length : Int) := by omega
        have HS := hid (show R = (2, 0) by rw [← HR.out]; unfold csW; rw [if_pos hall', if_pos hl])
        clear hall' hXF
        go_wp2
        refine bodyPost_ret (v := toldF (2, 0)) (by simp [results, Try.results71, go_sem]) rfl ⟨by rw [HS.out], ⟨_, rfl⟩⟩
      · have hl' : ¬ (100 : Int) < (xs.length : Int) := by omega
        have HS := hid (show csS xs 0 0 = R by rw [← HR.out]; unfold csW; rw [if_pos hall', if_neg hl])
        have K := hid (fun w hc => l10Sum_c B o xs cp w hlen hXF hc)
        clear hall' hXF
        go_wp2_with fail
        refine (K.out _ (fun j hj => by simpa using Hc.out j hj)).mono ?_; rintro e w' ⟨rfl, m, rfl⟩
        rw [HS.out]
        obtain ⟨R1, R2⟩ := R
        go_wp2
        refine bodyPost_ret (v := toldF (R1, R2)) (by simp [results, Try.results71, go_sem]) rfl ⟨rfl, ⟨_, rfl⟩⟩

theorem specCompensatedSum_c (B o : Nat) (xs : List Nat) (cp : Nat) (w : World) (hlen : xs.length ≤ 9223372036854775807) (hx : ∀ x ∈ xs, x < 2 ^ 32)
    (hc : ∀ j, j < xs.length → w.cell? ⟨B, o + j, none⟩ = some (.float .f32 (xs.getD j 0))) :
    Calls Try.prog 23 #[.slice (some ⟨B, o, none⟩) xs.length cp] w fun e w' => e = .returned (toldF ((csW xs).1, zn (csW xs).2)) ∧ New w w' := by
  have K := hid (fun w hc => l00CompensatedSum_c B o xs cp w hlen hx hc)
  have Hc := hid hc
  clear hc hx
  generalize csW xs = R at *
  obtain ⟨r1, r2⟩ := R
  go_enter Try.func23, Try.ntmps23
  go_wp2_with fail
  refine (K.out _ Hc.out).mono ?_; rintro e w1 ⟨rfl, hD⟩
  go_wp2_with fail
  refine (l00Float_c r2 _).mono ?_; rintro e w2 ⟨rfl, rfl⟩
  go_wp2
  refine bodyPost_ret (v := toldF (r1, zn r2)) (by simp [results, Try.results23, go_sem]) rfl ⟨rfl, ?_⟩
  exact hD.new
end Go.Proofs.Ytmbjomjpnfnbkaa
