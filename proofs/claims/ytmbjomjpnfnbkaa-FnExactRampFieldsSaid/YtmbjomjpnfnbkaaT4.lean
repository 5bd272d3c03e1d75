/-
  Walks of the statement's own marks on lists of vectors.
-/
import Derived.Test.YtmbjomjpnfnbkaaT3
set_option linter.unusedSimpArgs false
set_option linter.unusedVariables false
namespace Go.Proofs.Ytmbjomjpnfnbkaa
open Go.RowKit Flt

/-- The first p cells marked. -/
def mk3 (xs : List Value) (p : Nat) : List Value := ((List.range p).map fun j => Value.float .f32 (floatOfInt .f32 ((j + 1 : Nat) : Int))) ++ xs.drop p
theorem mk3_set {xs : List Value} {p : Nat} (h : p < xs.length) : (mk3 xs p).set p (.float .f32 (floatOfInt .f32 ((p + 1 : Nat) : Int))) = mk3 xs (p + 1) := by
  unfold mk3
  rw [List.set_append_right _ _ (by simp)]
  simp [List.range_succ]
  rw [List.drop_eq_getElem_cons h]; rfl
theorem mk3_length {xs : List Value} {p : Nat} (h : p ≤ xs.length) : (mk3 xs p).length = xs.length := by
  unfold mk3; simp; omega
theorem mk3_end (xs : List Value) (ys : List Value) (h : xs.length = ys.length) : mk3 xs xs.length = mk3 ys ys.length := by
  unfold mk3; rw [h, List.drop_eq_nil_of_le (by omega), List.drop_eq_nil_of_le (by omega)]
theorem mk3_get {xs : List Value} {j : Nat} (h : j < xs.length) : (mk3 xs xs.length)[j]? = some (.float .f32 (floatOfInt .f32 ((j + 1 : Nat) : Int))) := by
  unfold mk3
  rw [List.getElem?_append_left (by simpa using h)]
  simp [h]

theorem own_cell {w : World} {base e size g n cap : Nat} {xs : List Value} (h : w.ownsRow base e size (.slice (some ⟨g, 0, none⟩) n cap) n xs) {j : Nat} (hj : j < n * size) : ∃ v, w.cell? ⟨g, j, none⟩ = some v := by
  have hl := h.1
  have := h.cellAt j hj
  rw [List.getElem?_eq_getElem (by omega)] at this
  exact ⟨_, this⟩
theorem grown_trans {a b c : World} {row : Option Nat} (h : a.grownBy b row) (k : b.grownBy c row) : a.grownBy c row :=
  ⟨k.os.trans h.os, k.tape.trans h.tape, k.output.trans h.output, Nat.le_trans h.size k.size, fun i hi hne => (k.block i (Nat.lt_of_lt_of_le hi h.size) hne).trans (h.block i hi hne)⟩
theorem grown_refl (a : World) (row : Option Nat) : a.grownBy a row := ⟨rfl, rfl, rfl, Nat.le_refl _, fun _ _ _ => rfl⟩
theorem mark_round {w w0 : World} {base e g n cap k : Nat} {xs : List Value} (hx : xs.length = n * 3) (hk : k < n)
    (hO : w.ownsRow base e 3 (.slice (some ⟨g, 0, none⟩) n cap) n (mk3 xs (k * 3))) (hG : w0.grownBy w (some g)) :
    (((w.setCell ⟨g, k * 3, none⟩ (.float .f32 (floatOfInt .f32 ((k : Int) * 3 + 1)))).setCell ⟨g, k * 3 + 1, none⟩ (.float .f32 (floatOfInt .f32 ((k : Int) * 3 + 1 + 1)))).setCell ⟨g, k * 3 + 2, none⟩ (.float .f32 (floatOfInt .f32 ((k : Int) * 3 + 1 + 1 + 1)))).ownsRow base e 3 (.slice (some ⟨g, 0, none⟩) n cap) n (mk3 xs ((k + 1) * 3)) ∧
    w0.grownBy (((w.setCell ⟨g, k * 3, none⟩ (.float .f32 (floatOfInt .f32 ((k : Int) * 3 + 1)))).setCell ⟨g, k * 3 + 1, none⟩ (.float .f32 (floatOfInt .f32 ((k : Int) * 3 + 1 + 1)))).setCell ⟨g, k * 3 + 2, none⟩ (.float .f32 (floatOfInt .f32 ((k : Int) * 3 + 1 + 1 + 1)))) (some g) := by
  rw [show (k : Int) * 3 + 1 + 1 + 1 = ((k * 3 + 2 + 1 : Nat) : Int) by omega, show (k : Int) * 3 + 1 + 1 = ((k * 3 + 1 + 1 : Nat) : Int) by omega, show (k : Int) * 3 + 1 = ((k * 3 + 1 : Nat) : Int) by omega]
  obtain ⟨o1, g1⟩ := hO.stored (k * 3) (.float .f32 (floatOfInt .f32 ((k * 3 + 1 : Nat) : Int)))
  rw [mk3_set (by omega)] at o1
  obtain ⟨o2, g2⟩ := o1.stored (k * 3 + 1) (.float .f32 (floatOfInt .f32 ((k * 3 + 1 + 1 : Nat) : Int)))
  rw [mk3_set (by omega)] at o2
  obtain ⟨o3, g3⟩ := o2.stored (k * 3 + 2) (.float .f32 (floatOfInt .f32 ((k * 3 + 2 + 1 : Nat) : Int)))
  rw [mk3_set (by omega)] at o3
  rw [show (k + 1) * 3 = k * 3 + 2 + 1 by omega]
  exact ⟨o3, grown_trans hG (grown_trans g1 (grown_trans g2 g3))⟩

set_option maxHeartbeats 2000000 in
set_option maxRecDepth 5000 in
theorem markVectorS_c (u : Value) (n : Nat) (xs : List Value) (base : Nat) (w : World) (hO : w.ownsRow base 38 3 u n xs) (hn : n ≤ 1000) :
    Calls Try.prog 33 #[u, .int .i64 1] w fun e w' => e = .returned (.int .i64 ((n * 3 + 1 : Nat) : Int)) ∧ w'.ownsRow base 38 3 u n (mk3 xs xs.length) ∧ w.grownBy w' u.ownBlock := by
  have hx := hO.1
  rcases own_forms hO with ⟨rfl, rfl⟩ | ⟨g, cap, rfl⟩
  · have hl0 : xs = [] := List.eq_nil_of_length_eq_zero (by simpa using hx)
    subst hl0
    clear hx hn hO
    go_enter Try.func33, Try.ntmps33
    go_wp2_with fail
    refine wp_loop_rounds 1 ?_; rw [rounds_succ]
    go_wp2
    go_ret
    exact ⟨rfl, World.ownsRow_nil _ _ _ _, grown_refl _ _⟩
  · have HO := hid hO
    have HX := hid hx
    clear hO hx
    go_enter Try.func33, Try.ntmps33
    go_wp2_with fail
    go_loopw [1, 5] (fun q i wr => ∃ k : Nat, k ≤ n ∧ i = .int .i64 k ∧ q = .int .i64 ((k * 3 + 1 : Nat) : Int) ∧ Hid (wr.ownsRow base 38 3 (.slice (some ⟨g, 0, none⟩) n cap) n (mk3 xs (k * 3))) ∧ w.grownBy wr (some g)) (fun _ i _ => n - (intOf i).toNat)
    case atStart => exact ⟨0, Nat.zero_le _, rfl, rfl, HO, grown_refl _ _⟩
    case round =>
      obtain ⟨k, hk, rfl, rfl, HR, hG⟩ := hrel
      by_cases hlt : k < n
      · obtain ⟨v0, c0⟩ := own_cell HR.out (j := k * 3) (by omega)
        obtain ⟨v1, c1⟩ := own_cell HR.out (j := k * 3 + 1) (by omega)
        obtain ⟨v2, c2⟩ := own_cell HR.out (j := k * 3 + 2) (by omega)
        have z0 := HR.out.frozenAt (k * 3)
        have z1 := HR.out.frozenAt (k * 3 + 1)
        have z2 := HR.out.frozenAt (k * 3 + 2)
        have hkn : ((k : Int) < (n : Int)) := by omega
        have HM := hid (mark_round HX.out hlt HR.out hG)
        go_wp2_with fail
        refine wp_loop_rounds 4 ?_; rw [rounds_succ]
        go_wp2_with fail
        rw [rounds_succ]
        go_wp2_with fail
        rw [rounds_succ]
        go_wp2_with fail
        rw [rounds_succ]
        go_wp2_with fail
        go_roundw
        case rel => exact ⟨k + 1, by omega, by go_num, by go_num, HM.out.1, HM.out.2⟩
        case measure => simp [intOf]; omega
      · have hk' : k = n := by omega
        subst hk'
        have hkn : ¬ ((k : Int) < (k : Int)) := by omega
        go_wp2
        go_ret
        refine ⟨rfl, ?_, hG⟩
        have := HR.out
        rw [← HX.out] at this
        exact this
end Go.Proofs.Ytmbjomjpnfnbkaa
