/-
  Walk of the statement's own look at the marks.
-/
import Derived.Test.YtmbjomjpnfnbkaaT4
set_option linter.unusedSimpArgs false
set_option linter.unusedVariables false
namespace Go.Proofs.Ytmbjomjpnfnbkaa
open Go.RowKit Flt

theorem fi_fin : ∀ m : Nat, m < 1000 → fin S (fi m) = true := by
  have h : (List.range 1000).all (fun m => fin S (fi m)) = true := by decide +kernel
  intro m hm
  exact List.all_eq_true.1 h m (List.mem_range.2 hm)
theorem fi_order {m : Nat} (h : m < 1000) : FloatKind.f32.format.order (fi m) (fi m) = some .eq := by
  have hf := fi_fin m h
  have e : FloatKind.f32.format.order (fi m) (fi m) = S.order (fi m) (fi m) := rfl
  rw [e, order_fin S hf hf, if_neg (by grind), if_pos rfl]
theorem mark_get {w : World} {base e g n cap k : Nat} {xs : List Value} (hx : xs.length = n * 3) (hk : k < n) (hO : w.ownsRow base e 3 (.slice (some ⟨g, 0, none⟩) n cap) n (mk3 xs xs.length)) :
    w.cell? ⟨g, k * 3, none⟩ = some (.float .f32 (floatOfInt .f32 ((k : Int) * 3 + 1))) ∧ w.cell? ⟨g, k * 3 + 1, none⟩ = some (.float .f32 (floatOfInt .f32 ((k : Int) * 3 + 1 + 1))) ∧ w.cell? ⟨g, k * 3 + 2, none⟩ = some (.float .f32 (floatOfInt .f32 ((k : Int) * 3 + 1 + 1 + 1))) := by
  rw [show (k : Int) * 3 + 1 + 1 + 1 = ((k * 3 + 2 + 1 : Nat) : Int) by omega, show (k : Int) * 3 + 1 + 1 = ((k * 3 + 1 + 1 : Nat) : Int) by omega, show (k : Int) * 3 + 1 = ((k * 3 + 1 : Nat) : Int) by omega]
  exact ⟨(hO.cellAt _ (by omega)).trans (mk3_get (by omega)), (hO.cellAt _ (by omega)).trans (mk3_get (by omega)), (hO.cellAt _ (by omega)).trans (mk3_get (by omega))⟩
theorem mark_order {n k : Nat} (hn : n ≤ 300) (hk : k < n) : FloatKind.f32.format.order (floatOfInt .f32 ((k : Int) * 3 + 1)) (floatOfInt .f32 ((k : Int) * 3 + 1)) = some .eq ∧ FloatKind.f32.format.order (floatOfInt .f32 ((k : Int) * 3 + 1 + 1)) (floatOfInt .f32 ((k : Int) * 3 + 1 + 1)) = some .eq ∧ FloatKind.f32.format.order (floatOfInt .f32 ((k : Int) * 3 + 1 + 1 + 1)) (floatOfInt .f32 ((k : Int) * 3 + 1 + 1 + 1)) = some .eq := by
  rw [show (k : Int) * 3 + 1 + 1 + 1 = ((k * 3 + 2 + 1 : Nat) : Int) by omega, show (k : Int) * 3 + 1 + 1 = ((k * 3 + 1 + 1 : Nat) : Int) by omega, show (k : Int) * 3 + 1 = ((k * 3 + 1 : Nat) : Int) by omega]
  exact ⟨fi_order (by omega), fi_order (by omega), fi_order (by omega)⟩

set_option maxHeartbeats 2000000 in
set_option maxRecDepth 5000 in
theorem heldVectorS_c (u : Value) (n : Nat) (xs : List Value) (base : Nat) (w : World) (hO : w.ownsRow base 38 3 u n (mk3 xs xs.length)) (hx : xs.length = n * 3) (hn : n ≤ 300) :
    Calls Try.prog 34 #[u, .int .i64 1] w fun e w' => e = .returned (.int .i64 ((n * 3 + 1 : Nat) : Int)) ∧ w = w' := by
  rcases own_forms hO with ⟨rfl, rfl⟩ | ⟨g, cap, rfl⟩
  · clear hx hn hO
    go_enter Try.func34, Try.ntmps34
    go_wp2_with fail
    refine wp_loop_rounds 1 ?_; rw [rounds_succ]
    go_wp2
    go_ret
    exact ⟨rfl, rfl⟩
  · have HO := hid hO
    have HX := hid hx
    clear hO hx
    go_enter Try.func34, Try.ntmps34
    go_wp2_with fail
    go_loopw [1, 5] (fun q i wr => ∃ k : Nat, k ≤ n ∧ i = .int .i64 k ∧ q = .int .i64 ((k * 3 + 1 : Nat) : Int) ∧ w = wr) (fun _ i _ => n - (intOf i).toNat)
    case atStart => exact ⟨0, Nat.zero_le _, rfl, rfl, rfl⟩
    case round =>
      obtain ⟨k, hk, rfl, rfl, rfl⟩ := hrel
      by_cases hlt : k < n
      · obtain ⟨c0, c1, c2⟩ := mark_get HX.out hlt HO.out
        obtain ⟨o0, o1, o2⟩ := mark_order hn hlt
        have hkn : ((k : Int) < (n : Int)) := by omega
        go_wp2_with fail
        refine wp_loop_rounds 4 ?_; rw [rounds_succ]
        go_wp2_with fail
        rw [rounds_succ]
        go_wp2_with fail
        rw [rounds_succ]
        go_wp2_with fail
        rw [rounds_succ]
        go_wp2_with fail
        go_roundw
        case rel => exact ⟨k + 1, by omega, by go_num, by go_num, trivial⟩
        case measure => simp [intOf]; omega
      · have hk' : k = n := by omega
        subst hk'
        have hkn : ¬ ((k : Int) < (k : Int)) := by omega
        go_wp2
        go_ret
        exact ⟨rfl, rfl⟩
end Go.Proofs.Ytmbjomjpnfnbkaa
