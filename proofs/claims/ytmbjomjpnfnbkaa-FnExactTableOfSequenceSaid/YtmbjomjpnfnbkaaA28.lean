/-
  Walks of the program's table of a sequence.
-/
import Derived.Test.YtmbjomjpnfnbkaaA27
import Derived.Test.YtmbjomjpnfnbkaaA7
set_option linter.unusedSimpArgs false
set_option linter.unusedVariables false
namespace Go.Proofs.Ytmbjomjpnfnbkaa
open Go.RowKit Flt

theorem isAxis_c (n : Int) (w : World) : Calls Try.prog 178 #[.int .i64 n] w fun e w' => e = .returned (.bool (inB n 0 2)) ∧ w = w' := by
  go_enter Try.func178, Try.ntmps178
  go_wp2_with fail
  refine (within_c _ _ _ _).mono ?_; rintro e w' ⟨rfl, rfl⟩
  go_wp2
  go_ret; exact ⟨rfl, rfl⟩
theorem isHalvings_c (n : Int) (w : World) : Calls Try.prog 179 #[.int .i64 n] w fun e w' => e = .returned (.bool (inB n 0 24)) ∧ w = w' := by
  go_enter Try.func179, Try.ntmps179
  go_wp2_with fail
  refine (within_c _ _ _ _).mono ?_; rintro e w' ⟨rfl, rfl⟩
  go_wp2
  go_ret; exact ⟨rfl, rfl⟩
theorem isPulse_c (p : PuI) (w : World) : Calls Try.prog 149 #[p.val] w fun e w' => e = .returned (.bool p.okB) ∧ New w w' := by
  unfold PuI.okB
  cases h1 : inB p.a 0 2 with
  | false =>
    have H1 := hid h1
    clear h1
    rw [Bool.false_and]
    go_enter Try.func149, Try.ntmps149
    go_wp2_with fail
    with_reducible refine (isAxis_c _ _).mono ?_; rintro e w' ⟨rfl, rfl⟩; rw [H1.out]
    go_wp2
    go_ret
    exact ⟨rfl, (New.refl w).alloc _⟩
  | true =>
    have H1 := hid h1
    clear h1
    rw [Bool.true_and]
    go_enter Try.func149, Try.ntmps149
    go_wp2_with fail
    with_reducible refine (isAxis_c _ _).mono ?_; rintro e w' ⟨rfl, rfl⟩; rw [H1.out]
    go_wp2_with fail
    with_reducible refine (isHalvings_c _ _).mono ?_; rintro e w' ⟨rfl, rfl⟩
    go_wp2
    go_ret
    exact ⟨rfl, (New.refl w).alloc _⟩

theorem allPu1_c (p : PuI) (B : Nat) (w : World) (hB : w.cell? ⟨B, 0, none⟩ = some (.func (.func 149) #[] #[])) :
    Calls Try.prog 177 #[p.val, .pointer (some ⟨B, 0, none⟩)] w fun e w' => e = .returned (.bool (!p.okB)) ∧ New w w' := by
  have hl := cell_lt hB
  have hn : B ≠ w.heap.size := by omega
  have K := hid (isPulse_c p)
  generalize p.okB = q at *
  go_enter Try.func177, Try.ntmps177
  go_wp2_with fail
  with_reducible refine (K.out _).mono ?_; rintro e w1 ⟨rfl, hN⟩
  go_wp2
  go_ret
  exact ⟨rfl, ((New.refl w).alloc _).trans hN⟩

def FoundP (ps : List PuI) (w : World) (e : Ending) (w' : World) : Prop := (∃ r : Int, e = .returned (.int .i64 r) ∧ (decide (0 ≤ r)) = !ps.all PuI.okB) ∧ New w w'

set_option maxHeartbeats 1000000 in
theorem indexPu_c (g cp : Nat) (ps : List PuI) (bx : Nat) (w : World) (hlen : ps.length ≤ 9223372036854775807) (hP : PuHeld w g ps) (hB : w.cell? ⟨bx, 0, none⟩ = some (.func (.func 149) #[] #[])) :
    Calls Try.prog 202 #[.slice (some ⟨g, 0, none⟩) ps.length cp, .func (.func 177) #[] #[.pointer (some ⟨bx, 0, none⟩)]] w (FoundP ps w) := by
  have HP := hid hP
  have HB := hid hB
  clear hP hB
  go_enter Try.func202, Try.ntmps202
  go_wp2
  go_loopw [5, 8] (fun i q wr => ∃ k : Nat, k ≤ ps.length ∧ q = .int .i64 k ∧ Hid ((ps.take k).all PuI.okB = true) ∧ New w wr) (fun _ q _ => ps.length - (intOf q).toNat)
  case atStart => exact ⟨0, Nat.zero_le _, rfl, hid rfl, New.refl w⟩
  case round =>
    obtain ⟨k, hk, rfl, hall, hN⟩ := hrel
    by_cases hlt : k < ps.length
    · obtain ⟨c0, c1, c2⟩ := (HP.out.new hN) k hlt
      have hkn : ((k : Int) < (ps.length : Int)) := by omega
      have hT := hid (all_take hlt)
      have hf0 := hid (fun h : (ps.getD k PuI.zero).okB = false => show ps.all PuI.okB = false by
        rw [List.all_eq_false]
        refine ⟨ps[k], List.getElem_mem _, ?_⟩
        have e : ps.getD k PuI.zero = ps[k] := by simp [List.getD, hlt]
        rw [e] at h; simp [h])
      generalize ps.getD k PuI.zero = p at *
      have K := hid (fun w hB => allPu1_c p bx w hB)
      cases hx : p.okB with
      | true =>
        have hX := hid hx
        clear hx
        go_wp2_with fail
        with_reducible refine (K.out _ (hN.cell_at HB.out)).mono ?_; rintro e w1 ⟨rfl, hN1⟩; rw [hX.out]
        go_wp2_with fail
        go_roundw
        case rel => exact ⟨k + 1, by omega, by go_num, hid (by rw [hT.out, hall.out, hX.out]; rfl), hN.trans hN1⟩
        case measure => simp [intOf]; omega
      | false =>
        have hX := hid hx
        have hF := hid (hf0.out hx)
        clear hx
        go_wp2_with fail
        with_reducible refine (K.out _ (hN.cell_at HB.out)).mono ?_; rintro e w1 ⟨rfl, hN1⟩; rw [hX.out]
        go_wp2
        go_ret
        exact ⟨⟨_, rfl, by rw [hF.out]; simp⟩, hN.trans hN1⟩
    · have hk' : k = ps.length := by omega
      subst hk'
      have hkn : ¬ ((ps.length : Int) < (ps.length : Int)) := by omega
      go_wp2
      go_ret
      have hall' := hall.out
      rw [List.take_of_length_le (Nat.le_refl _)] at hall'
      exact ⟨⟨_, rfl, by rw [hall']; rfl⟩, hN⟩

theorem containsPu_c (g cp : Nat) (ps : List PuI) (bx : Nat) (w : World) (hlen : ps.length ≤ 9223372036854775807) (hP : PuHeld w g ps) (hB : w.cell? ⟨bx, 0, none⟩ = some (.func (.func 149) #[] #[])) :
    Calls Try.prog 176 #[.slice (some ⟨g, 0, none⟩) ps.length cp, .func (.func 177) #[] #[.pointer (some ⟨bx, 0, none⟩)]] w fun e w' => e = .returned (.bool (!ps.all PuI.okB)) ∧ New w w' := by
  have HP := hid hP
  clear hP
  go_enter Try.func176, Try.ntmps176
  go_wp2_with fail
  refine (indexPu_c g cp ps bx _ hlen HP.out hB).mono ?_
  rintro e w' ⟨⟨r, rfl, hr⟩, hN⟩
  have Hr := hid hr
  clear hr
  go_wp2
  go_ret
  exact ⟨ret_bool Hr.out, hN⟩

theorem arePu_c (g cp : Nat) (ps : List PuI) (w : World) (hlen : ps.length ≤ 9223372036854775807) (hP : PuHeld w g ps) :
    Calls Try.prog 148 #[.slice (some ⟨g, 0, none⟩) ps.length cp, .func (.func 149) #[] #[]] w fun e w' => e = .returned (.bool (ps.all PuI.okB)) ∧ New w w' := by
  have HP := hid hP
  clear hP
  go_enter Try.func148, Try.ntmps148
  go_wp2_with fail
  refine (containsPu_c g cp ps _ _ hlen (HP.out.new ((New.refl w).alloc _)) (by go_simp)).mono ?_
  rintro e w' ⟨rfl, hN⟩
  go_wp2
  go_ret
  exact ⟨ret_bool (by simp), ((New.refl w).alloc _).trans hN⟩

theorem isSequence_c (g cp : Nat) (ps : List PuI) (w : World) (hlen : ps.length ≤ 9223372036854775807) (hP : PuHeld w g ps) :
    Calls Try.prog 103 #[.slice (some ⟨g, 0, none⟩) ps.length cp] w fun e w' => e = .returned (.bool (seqB ps)) ∧ New w w' := by
  have HP := hid hP
  clear hP
  unfold seqB
  by_cases hl : ps.length ≤ 60
  · have hl' : (ps.length : Int) ≤ 60 := by omega
    have e : (ps.all PuI.okB && decide (ps.length ≤ 60)) = ps.all PuI.okB := by simp [hl]
    rw [e]
    clear e hl
    generalize hq : ps.all PuI.okB = q at *
    have HQ := hid hq
    clear hq
    go_enter Try.func103, Try.ntmps103
    go_wp2_with fail
    refine (arePu_c g cp ps _ hlen HP.out).mono ?_; rintro e w1 ⟨rfl, hN⟩
    rw [HQ.out]
    go_wp2
    go_ret
    exact ⟨rfl, hN⟩
  · have hl' : ¬ (ps.length : Int) ≤ 60 := by omega
    have e : (ps.all PuI.okB && decide (ps.length ≤ 60)) = false := by simp [hl]
    rw [e]
    clear e hl
    go_enter Try.func103, Try.ntmps103
    go_wp2
    go_ret
    exact ⟨rfl, New.refl w⟩
end Go.Proofs.Ytmbjomjpnfnbkaa
