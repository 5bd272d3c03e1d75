/-
  The walk of the statement FnExactCompensatedSum.
-/
import Derived.Test.YtmbjomjpnfnbkaaA19
import Derived.Test.YtmbjomjpnfnbkaaD15
import Derived.Test.YtmbjomjpnfnbkaaT2
set_option linter.unusedSimpArgs false
set_option linter.unusedVariables false
namespace Go.Proofs.Ytmbjomjpnfnbkaa
open Go.RowKit Flt

theorem csR_eq {xs : List Nat} (hx : ∀ x ∈ xs, x < 2 ^ 32) : csR xs = ((csW xs).1, zn (csW xs).2) := by
  have z0 : zn 0 = 0 := zn_zero fin0 val0
  unfold csR csW
  cases hf : xs.all (fin S) with
  | false => rw [if_neg (by simp), if_neg (by simp)]; simp only [z0]
  | true =>
    rw [if_pos rfl, if_pos rfl]
    split
    · simp only [z0]
    · have := cs_law xs 0 0 (fun x h => ⟨hx x h, List.all_eq_true.1 hf x h⟩) ⟨by decide, fin0⟩ ⟨by decide, fin0⟩
      rw [z0] at this
      exact this
theorem csW_fin {xs : List Nat} (hx : ∀ x ∈ xs, x < 2 ^ 32) : fin S (csW xs).2 = true := by
  unfold csW
  cases hf : xs.all (fin S) with
  | false => rw [if_neg (by simp)]; exact fin0
  | true =>
    rw [if_pos rfl]
    split
    · exact fin0
    · exact csS_FW xs 0 0 ⟨by decide, fin0⟩ ⟨by decide, fin0⟩ (fun x h => ⟨hx x h, List.all_eq_true.1 hf x h⟩)

/-- A list of numbers in memory. -/
def Held (w : World) (v : Value) (xs : List Nat) : Prop := (v = .slice none 0 0 ∧ xs = []) ∨ ∃ (a : Addr) (cp : Nat), v = .slice (some a) xs.length cp ∧ ∀ j, j < xs.length → w.cell? (a.add j) = some (.float .f32 (xs.getD j 0))

theorem toFloatsH (xs : List Nat) (v : Value) (w : World) (hlen : xs.length ≤ 1048576) (h : Held w v xs) :
    Calls Try.prog 24 #[v] w fun e w' => e = .returned (.slice (some ⟨w.heap.size, 0, none⟩) xs.length xs.length) ∧ w'.rowIs w.heap.size 34 xs.length (fun j => .float .f32 (xs.getD j 0)) ∧ New w w' := by
  rcases h with ⟨rfl, rfl⟩ | ⟨a, cp, rfl, hc⟩
  · exact toFloats0_c w
  · exact toFloats_c a xs cp w hlen hc
theorem Held.new {w w' : World} {v : Value} {xs : List Nat} (h : Held w v xs) (hN : New w w') : Held w' v xs :=
  h.imp id fun ⟨a, cp, e, hc⟩ => ⟨a, cp, e, fun j hj => new_cell_any hN (hc j hj)⟩

set_option maxHeartbeats 2000000 in
set_option maxRecDepth 10000 in
theorem law_s (xs : List Nat) (v : Value) (w : World) (hlen : xs.length ≤ 1048576) (hx : ∀ x ∈ xs, x < 2 ^ 32) (h : Held w v xs) (n : Nat) (hv : (v = .slice none 0 0 ∧ xs = []) ∨ ∃ (a : Addr) (cp : Nat), v = .slice (some a) xs.length cp) :
    Calls Try.prog 5 #[v] w fun e w' => e = .returned (.bool true) ∧ New w w' := by
  have hl : xs.length ≤ 9223372036854775807 := by omega
  have T := hid (fun w' (hN : New w w') => toFloatsH xs v w' hlen (h.new hN))
  have K1 := hid (fun B w hc => specCompensatedSum_c B 0 xs xs.length w hl hx hc)
  have c2 := fun B w hc hB => compensatedSum_c B 0 xs xs.length w hl hx hc hB
  have hn : fin S (zn (csW xs).2) = true := zn_fin (csW_fin hx)
  have hm := zn_zn (csW xs).2
  rw [csR_eq hx] at c2
  have K2 := hid c2
  have E := hid (fun p q w hp hq => eqFloats_c p q xs.length (fun j => xs.getD j 0) w hlen (fun j hj => hx _ (by have e : xs.getD j 0 = xs[j] := (by simp [List.getD, hj]); show xs.getD j 0 ∈ xs; rw [e]; exact List.getElem_mem _)) hp hq)
  clear c2
  generalize zn (csW xs).2 = y at *
  generalize (csW xs).1 = r at *
  have k1 := conv_run (nn_of_fin hn)
  have c3 := hid (fun w => sameFloat_c y w hn hm)
  have hgt : ¬ (1048576 : Int) < (xs.length : Int) := by omega
  clear hn hm hx h hl
  have hv' : v = .slice none 0 0 ∨ ∃ (a : Addr) (cp : Nat), v = .slice (some a) xs.length cp := hv.imp And.left id
  clear hv
  rcases hv' with rfl | ⟨a, cp, rfl⟩
  all_goals
    clear hlen
    go_enter Try.func5, Try.ntmps5
    go_wp2_with fail
    refine (T.out _ (New.refl _)).mono ?_; rintro e w1 ⟨rfl, hR1, hN1⟩
    have R1 := hid hR1
    clear hR1
    go_wp2_with fail
    refine (K1.out _ _ (fun j hj => by simpa using R1.out.cell hj)).mono ?_; rintro e w2 ⟨rfl, hN2⟩
    go_wp2_with fail
    refine (T.out _ (hN1.trans hN2)).mono ?_; rintro e w3 ⟨rfl, hR3, hN3⟩
    have R3 := hid hR3
    clear hR3
    go_wp2_with fail
    refine (K2.out _ _ (fun j hj => by simpa using R3.out.cell hj) R3.out.lt).mono ?_; rintro e w4 ⟨rfl, hN4⟩
    go_wp2_with fail
    refine (c3.out _).mono ?_; rintro e w5 ⟨rfl, rfl⟩
    have hN14 := ((hN1.trans hN2).trans hN3).trans hN4
    go_wp2_with fail
    refine (T.out _ hN14).mono ?_; rintro e w6 ⟨rfl, hR6, hN6⟩
    have R6 := hid hR6
    clear hR6
    go_wp2_with fail
    refine (E.out _ _ _ (fun j hj => (hN4.trans hN6).cell_at (R3.out.cell hj)) (fun j hj => R6.out.cell hj)).mono ?_; rintro e w7 ⟨rfl, hN7⟩
    go_wp2
    go_ret
    exact ⟨rfl, (hN14.trans hN6).trans hN7⟩

set_option maxRecDepth 10000 in
theorem law_big (a : Addr) (n cp : Nat) (w : World) (hn : 1048576 < n) :
    Calls Try.prog 5 #[.slice (some a) n cp] w fun e w' => e = .returned (.bool true) ∧ New w w' := by
  have hgt : (1048576 : Int) < (n : Int) := by omega
  go_enter Try.func5, Try.ntmps5
  go_wp2
  go_ret
  exact ⟨rfl, New.refl w⟩
end Go.Proofs.Ytmbjomjpnfnbkaa
