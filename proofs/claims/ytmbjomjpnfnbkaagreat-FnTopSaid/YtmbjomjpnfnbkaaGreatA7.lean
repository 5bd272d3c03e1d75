/-
  Walks of the tests that all elements of a list are complex numbers.
-/
import Derived.Test.YtmbjomjpnfnbkaaGreatA6
set_option linter.unusedSimpArgs false
set_option linter.unusedVariables false
namespace Go.Proofs.YtmbjomjpnfnbkaaGreat
open Go.RowKit Flt

def finC (z : Nat × Nat) : Bool := fin S z.1 && fin S z.2
theorem take_all_succC {α : Type} (xs : List α) (k : Nat) (h : k < xs.length) (p : α → Bool) : (xs.take (k + 1)).all p = ((xs.take k).all p && p (xs[k]'h)) := by
  rw [List.take_succ_eq_append_getElem h, List.all_append]
  simp

theorem allCx1_c (x y : Nat) (B : Nat) (w : World) (hB : w.cell? ⟨B, 0, none⟩ = some (.func (.func 48) #[] #[])) :
    Calls Tryz.prog 71 #[.complex .f32 x y, .pointer (some ⟨B, 0, none⟩)] w fun e w' => e = .returned (.bool (!(fin S x && fin S y))) ∧ Drw w w' := by
  go_enter Tryz.func71, Tryz.ntmps71
  go_wp2_with (go_at_call 48; refine (isComplex_any x y _).mono ?_; rintro e w' ⟨rfl, n, rfl⟩)
  go_ret
  exact ⟨ret_bool (by simp), ⟨n, rfl⟩⟩

def FoundC (xs : List (Nat × Nat)) (w : World) (e : Ending) (w' : World) : Prop := (∃ r : Int, e = .returned (.int .i64 r) ∧ (decide (0 ≤ r)) = !xs.all finC) ∧ Drw w w'

set_option maxHeartbeats 400000 in
theorem indexCx_c (B o : Nat) (xs : List (Nat × Nat)) (cp : Nat) (bx : Nat) (w : World) (hlen : xs.length ≤ 9223372036854775807) (hc : ∀ j, j < xs.length → w.cell? ⟨B, o + j, none⟩ = some (.complex .f32 (xs.getD j (0, 0)).1 (xs.getD j (0, 0)).2)) (hB : w.cell? ⟨bx, 0, none⟩ = some (.func (.func 48) #[] #[])) :
    Calls Tryz.prog 99 #[.slice (some ⟨B, o, none⟩) xs.length cp, .func (.func 71) #[] #[.pointer (some ⟨bx, 0, none⟩)]] w (FoundC xs w) := by
  have Hc := hid hc
  clear hc
  go_enter Tryz.func99, Tryz.ntmps99
  go_wp2
  go_loopw [5, 8] (fun i q wr => ∃ k : Nat, k ≤ xs.length ∧ q = .int .i64 k ∧ Hid ((xs.take k).all finC = true) ∧ Drw w wr) (fun _ q _ => xs.length - (intOf q).toNat)
  case atStart => exact ⟨0, Nat.zero_le _, rfl, hid rfl, Drw.refl w⟩
  case round =>
    obtain ⟨k, hk, rfl, hall, n, rfl⟩ := hrel
    by_cases hlt : k < xs.length
    · have hcell := Hc.out k hlt
      have hts := hid (take_all_succC xs k hlt finC)
      cases hx : finC xs[k] with
      | true =>
        have hX := hid hx
        clear hx
        go_wp2_with (go_at_call 71; refine (allCx1_c _ _ bx _ (by simpa using hB)).mono ?_; rintro e w' ⟨rfl, m, rfl⟩; rw [show (fin S xs[k].1 && fin S xs[k].2) = true from hX.out])
        go_roundw
        case rel => exact ⟨k + 1, by omega, by go_num, hid (by rw [hts.out, hall.out, hX.out]; rfl), ⟨_, rfl⟩⟩
        case measure => simp [intOf]; omega
      | false =>
        have hX := hid hx
        clear hx
        go_wp2_with (go_at_call 71; refine (allCx1_c _ _ bx _ (by simpa using hB)).mono ?_; rintro e w' ⟨rfl, m, rfl⟩; rw [show (fin S xs[k].1 && fin S xs[k].2) = false from hX.out])
        go_ret
        refine ⟨⟨_, rfl, ?_⟩, ⟨_, rfl⟩⟩
        have : xs.all finC = false := by
          rw [List.all_eq_false]
          exact ⟨xs[k], List.getElem_mem _, by rw [hX.out]; simp⟩
        rw [this]; simp
    · go_wp2
      go_ret
      refine ⟨⟨_, rfl, ?_⟩, ⟨_, rfl⟩⟩
      have hall' := hall.out
      rw [List.take_of_length_le (by omega)] at hall'
      rw [hall']; rfl

theorem containsCx_c (B o : Nat) (xs : List (Nat × Nat)) (cp : Nat) (bx : Nat) (w : World) (hlen : xs.length ≤ 9223372036854775807) (hc : ∀ j, j < xs.length → w.cell? ⟨B, o + j, none⟩ = some (.complex .f32 (xs.getD j (0, 0)).1 (xs.getD j (0, 0)).2)) (hB : w.cell? ⟨bx, 0, none⟩ = some (.func (.func 48) #[] #[])) :
    Calls Tryz.prog 70 #[.slice (some ⟨B, o, none⟩) xs.length cp, .func (.func 71) #[] #[.pointer (some ⟨bx, 0, none⟩)]] w fun e w' => e = .returned (.bool (!xs.all finC)) ∧ Drw w w' := by
  have Hc := hid hc
  clear hc
  go_enter Tryz.func70, Tryz.ntmps70
  go_wp2_with fail
  refine (indexCx_c B o xs cp bx _ hlen Hc.out hB).mono ?_
  rintro e w' ⟨⟨r, rfl, hr⟩, n, rfl⟩
  have Hr := hid hr
  clear hr
  go_wp2
  go_ret
  exact ⟨ret_bool Hr.out, ⟨n, rfl⟩⟩

theorem areCx_c (B o : Nat) (xs : List (Nat × Nat)) (cp : Nat) (w : World) (hlen : xs.length ≤ 9223372036854775807) (hc : ∀ j, j < xs.length → w.cell? ⟨B, o + j, none⟩ = some (.complex .f32 (xs.getD j (0, 0)).1 (xs.getD j (0, 0)).2)) :
    Calls Tryz.prog 47 #[.slice (some ⟨B, o, none⟩) xs.length cp, .func (.func 48) #[] #[]] w fun e w' => e = .returned (.bool (xs.all finC)) ∧ New w w' := by
  have Hc := hid hc
  clear hc
  go_enter Tryz.func47, Tryz.ntmps47
  go_wp2_with fail
  refine (containsCx_c B o xs cp _ _ hlen (fun j hj => ?_) ?_).mono ?_
  · have h1 := Hc.out j hj
    rw [World.cell?_alloc_lt _ _ _ (cell_lt h1)]; exact h1
  · go_simp
  rintro e w' ⟨rfl, n, rfl⟩
  go_wp2
  go_ret
  exact ⟨ret_bool (by simp), ((New.refl w).alloc _).drewN n⟩


abbrev Sp (a b c d : Nat) : Value := .agg #[.complex .f32 a b, .complex .f32 c d]
end Go.Proofs.YtmbjomjpnfnbkaaGreat
