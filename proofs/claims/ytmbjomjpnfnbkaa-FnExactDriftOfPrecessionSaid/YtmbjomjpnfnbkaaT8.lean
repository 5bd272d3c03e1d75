/-
  Walks of the statement's own functions on lists of numbers, of any capacity.
-/
import Derived.Test.YtmbjomjpnfnbkaaT2
import Derived.Test.YtmbjomjpnfnbkaaD25
set_option linter.unusedSimpArgs false
set_option linter.unusedVariables false
namespace Go.Proofs.Ytmbjomjpnfnbkaa
open Go.RowKit Flt

set_option maxHeartbeats 2000000 in
set_option maxRecDepth 5000 in
theorem eqF32S_c (u u' : Value) (l : List Nat) (base base' : Nat) (w : World) (hO : w.ownsRow base 34 1 u l.length (fl32 l)) (hO' : w.ownsRow base' 34 1 u' l.length (fl32 l)) (hl : l.length ≤ 1000) (hf : ∀ v ∈ l, FW v) :
    Calls Try.prog 27 #[u, u'] w fun e w' => e = .returned (.bool true) ∧ New w w' := by
  by_cases h0 : l = []
  · subst h0
    have len0 : ∀ {base e : Nat} {u : Value}, w.ownsRow base e 1 u 0 (fl32 []) → ∃ o c, u = .slice o 0 c := fun {_ _ _} h => by
      rcases own_forms h with ⟨h, _⟩ | ⟨g, c, h⟩
      · exact ⟨_, _, h⟩
      · exact ⟨_, _, h⟩
    obtain ⟨o, c, rfl⟩ := len0 hO
    obtain ⟨o', c', rfl⟩ := len0 hO'
    clear hO hO' hf hl len0
    go_enter Try.func27, Try.ntmps27
    go_wp2_with fail
    refine wp_loop_rounds 1 ?_; rw [rounds_succ]
    go_wp2
    go_ret
    exact ⟨rfl, New.refl w⟩
  · have hpos : 0 < l.length := List.length_pos_iff.2 h0
    have form : ∀ {base e : Nat} {u : Value}, w.ownsRow base e 1 u l.length (fl32 l) → ∃ g c, u = .slice (some ⟨g, 0, none⟩) l.length c := fun {_ _ _} h => by
      rcases own_forms h with ⟨_, h⟩ | ⟨g, c, h⟩
      · omega
      · exact ⟨_, _, h⟩
    obtain ⟨g, c, rfl⟩ := form hO
    obtain ⟨g', c', rfl⟩ := form hO'
    have HO := hid hO
    have HO' := hid hO'
    have HF := hid (fun k (hk : k < l.length) => show FW (l.getD k 0) by
      have : l.getD k 0 = l[k] := by simp [List.getD, hk]
      rw [this]; exact hf _ (List.getElem_mem _))
    clear hO hO' hf form hpos h0
    generalize hn : l.length = n at *
    have Hn := hid hn
    clear hn
    go_enter Try.func27, Try.ntmps27
    go_wp2_with fail
    go_loopw [5] (fun i wr => ∃ k : Nat, k ≤ n ∧ i = .int .i64 k ∧ New w wr) (fun i _ => n - (intOf i).toNat)
    case atStart => exact ⟨0, Nat.zero_le _, rfl, New.refl w⟩
    case round =>
      obtain ⟨k, hk, rfl, hN⟩ := hrel
      by_cases hlt : k < n
      · have c0 := own_get1 (own_new HO.out hN) Hn.out hlt
        have c1 := own_get1 (own_new HO'.out hN) Hn.out hlt
        have hkn : ((k : Int) < (n : Int)) := by omega
        have hv := HF.out k hlt
        generalize l.getD k 0 = x at *
        have d1 := conv_run (nn_of_fin hv.2)
        have Y := hid (sameFloat_any x (cv x) (cv x) · hv.1 (.inl ⟨nn_of_fin hv.2, rfl⟩) (.inl ⟨nn_of_fin hv.2, rfl⟩))
        clear hv
        go_wp2_with fail
        go_region_held3 (fun w' => w'.cell? ⟨g, k, none⟩ = some (.float .f32 x) ∧ w'.cell? ⟨g', k, none⟩ = some (.float .f32 x)) (((repeat' apply And.intro) <;> (first | (with_reducible assumption) | (go_simp; done))))
          (first | (go_at_call 26; (with_reducible refine (Y.out _).mono ?_); rintro e w' ⟨rfl, rfl⟩))
        rename_i hh; clear hh
        go_wp2_with fail
        go_roundw
        case rel => exact ⟨k + 1, by omega, by go_num, hN.drew⟩
        case measure => simp [intOf]; omega
      · have hk' : k = n := by omega
        subst hk'
        have hkn : ¬ ((k : Int) < (k : Int)) := by omega
        go_wp2
        go_ret
        exact ⟨rfl, hN⟩

/-- The first p cells marked. -/
def mk1 (xs : List Value) (p : Nat) : List Value := ((List.range p).map fun j : Nat => Value.float .f32 (floatOfInt .f32 ((j : Int) + 1))) ++ xs.drop p
theorem mk1_set {xs : List Value} {p : Nat} (h : p < xs.length) : (mk1 xs p).set p (.float .f32 (floatOfInt .f32 ((p : Int) + 1))) = mk1 xs (p + 1) := by
  unfold mk1
  rw [List.set_append_right _ _ (by simp)]
  simp [List.range_succ]
  rw [List.drop_eq_getElem_cons h]; rfl
theorem mk1_get {xs : List Value} {j : Nat} (h : j < xs.length) : (mk1 xs xs.length)[j]? = some (.float .f32 (floatOfInt .f32 ((j : Int) + 1))) := by
  unfold mk1
  rw [List.getElem?_append_left (by simpa using h)]
  simp [h]
theorem grown_trans1 {a b c : World} {row : Option Nat} (h : a.grownBy b row) (k : b.grownBy c row) : a.grownBy c row :=
  ⟨k.os.trans h.os, k.tape.trans h.tape, k.output.trans h.output, Nat.le_trans h.size k.size, fun i hi hne => (k.block i (Nat.lt_of_lt_of_le hi h.size) hne).trans (h.block i hi hne)⟩
theorem grown_refl1 (a : World) (row : Option Nat) : a.grownBy a row := ⟨rfl, rfl, rfl, Nat.le_refl _, fun _ _ _ => rfl⟩
theorem mark_round1 {w w0 : World} {base e g n cap k : Nat} {xs : List Value} (hx : xs.length = n * 1) (hk : k < n)
    (hO : w.ownsRow base e 1 (.slice (some ⟨g, 0, none⟩) n cap) n (mk1 xs k)) (hG : w0.grownBy w (some g)) :
    (w.setCell ⟨g, k, none⟩ (.float .f32 (floatOfInt .f32 ((k : Int) + 1)))).ownsRow base e 1 (.slice (some ⟨g, 0, none⟩) n cap) n (mk1 xs (k + 1)) ∧
    w0.grownBy (w.setCell ⟨g, k, none⟩ (.float .f32 (floatOfInt .f32 ((k : Int) + 1)))) (some g) := by
  obtain ⟨o1, g1⟩ := hO.stored k (.float .f32 (floatOfInt .f32 ((k : Int) + 1)))
  rw [mk1_set (by omega)] at o1
  exact ⟨o1, grown_trans1 hG g1⟩

set_option maxHeartbeats 2000000 in
set_option maxRecDepth 5000 in
theorem markF32S_c (u : Value) (n : Nat) (xs : List Value) (base : Nat) (w : World) (hO : w.ownsRow base 34 1 u n xs) (hn : n ≤ 1000) :
    Calls Try.prog 46 #[u, .int .i64 1] w fun e w' => e = .returned (.int .i64 ((n + 1 : Nat) : Int)) ∧ w'.ownsRow base 34 1 u n (mk1 xs xs.length) ∧ w.grownBy w' u.ownBlock := by
  have hx := hO.1
  rcases own_forms hO with ⟨rfl, rfl⟩ | ⟨g, cap, rfl⟩
  · have hl0 : xs = [] := List.eq_nil_of_length_eq_zero (by simpa using hx)
    subst hl0
    clear hx hn hO
    go_enter Try.func46, Try.ntmps46
    go_wp2_with fail
    refine wp_loop_rounds 1 ?_; rw [rounds_succ]
    go_wp2
    go_ret
    exact ⟨rfl, World.ownsRow_nil _ _ _ _, grown_refl1 _ _⟩
  · have HO := hid hO
    have HX := hid hx
    clear hO hx
    go_enter Try.func46, Try.ntmps46
    go_wp2_with fail
    go_loopw [1, 5] (fun q i wr => ∃ k : Nat, k ≤ n ∧ i = .int .i64 k ∧ q = .int .i64 ((k + 1 : Nat) : Int) ∧ Hid (wr.ownsRow base 34 1 (.slice (some ⟨g, 0, none⟩) n cap) n (mk1 xs k)) ∧ w.grownBy wr (some g)) (fun _ i _ => n - (intOf i).toNat)
    case atStart => exact ⟨0, Nat.zero_le _, rfl, rfl, HO, grown_refl1 _ _⟩
    case round =>
      obtain ⟨k, hk, rfl, rfl, HR, hG⟩ := hrel
      by_cases hlt : k < n
      · obtain ⟨v0, c0⟩ := own_cell HR.out (j := k) (by omega)
        have z0 := HR.out.frozenAt k
        have hkn : ((k : Int) < (n : Int)) := by omega
        have HM := hid (mark_round1 HX.out hlt HR.out hG)
        go_wp2_with fail
        go_roundw
        case rel => exact ⟨k + 1, by omega, by go_num, by go_num, HM.out.1, HM.out.2⟩
        case measure => simp [intOf]; omega
      · have hk' : k = n := by omega
        subst hk'
        have hkn : ¬ ((k : Int) < (k : Int)) := by omega
        go_wp2
        go_ret
        refine ⟨rfl, ?_, hG⟩
        have := HR.out
        have e : xs.length = k := by have := HX.out; omega
        rw [e]
        exact this

theorem mark_order1 : ∀ k : Nat, k < 1000 → FloatKind.f32.format.order (floatOfInt .f32 ((k : Int) + 1)) (floatOfInt .f32 ((k : Int) + 1)) = some .eq := by
  have h : (List.range 1000).all (fun k => fin S (floatOfInt .f32 ((k : Int) + 1))) = true := by decide +kernel
  intro k hk
  have hf : fin S (floatOfInt .f32 ((k : Int) + 1)) = true := List.all_eq_true.1 h k (List.mem_range.2 hk)
  have e : FloatKind.f32.format.order (floatOfInt .f32 ((k : Int) + 1)) (floatOfInt .f32 ((k : Int) + 1)) = S.order (floatOfInt .f32 ((k : Int) + 1)) (floatOfInt .f32 ((k : Int) + 1)) := rfl
  rw [e, order_fin S hf hf, if_neg (by grind), if_pos rfl]

set_option maxHeartbeats 2000000 in
set_option maxRecDepth 5000 in
theorem heldF32S_c (u : Value) (n : Nat) (xs : List Value) (base : Nat) (w : World) (hO : w.ownsRow base 34 1 u n (mk1 xs xs.length)) (hx : xs.length = n) (hn : n ≤ 300) :
    Calls Try.prog 47 #[u, .int .i64 1] w fun e w' => e = .returned (.int .i64 ((n + 1 : Nat) : Int)) ∧ w = w' := by
  rcases own_forms hO with ⟨rfl, rfl⟩ | ⟨g, cap, rfl⟩
  · clear hx hn hO
    go_enter Try.func47, Try.ntmps47
    go_wp2_with fail
    refine wp_loop_rounds 1 ?_; rw [rounds_succ]
    go_wp2
    go_ret
    exact ⟨rfl, rfl⟩
  · have HO := hid hO
    have HX := hid hx
    clear hO hx
    go_enter Try.func47, Try.ntmps47
    go_wp2_with fail
    go_loopw [1, 5] (fun q i wr => ∃ k : Nat, k ≤ n ∧ i = .int .i64 k ∧ q = .int .i64 ((k + 1 : Nat) : Int) ∧ w = wr) (fun _ i _ => n - (intOf i).toNat)
    case atStart => exact ⟨0, Nat.zero_le _, rfl, rfl, rfl⟩
    case round =>
      obtain ⟨k, hk, rfl, rfl, rfl⟩ := hrel
      by_cases hlt : k < n
      · have c0 := (HO.out.cellAt k (by omega)).trans (mk1_get (by rw [HX.out]; exact hlt))
        have o0 := mark_order1 k (by omega)
        have hkn : ((k : Int) < (n : Int)) := by omega
        go_wp2_with fail
        go_roundw
        case rel => exact ⟨k + 1, by omega, by go_num, by go_num, trivial⟩
        case measure => simp [intOf]; omega
      · have hk' : k = n := by omega
        subst hk'
        have hkn : ¬ ((k : Int) < (k : Int)) := by omega
        go_wp2
        go_ret
        exact ⟨rfl, rfl⟩

theorem driftS_FW {t : C8} (h : Lw8 58 t) : FW (zn (driftS t)) := by
  have D := drF_of h
  have I := upS_is (upS_is (szS_is D.q.FW) (szS_is D.m.FW)) (szS_is D.d2.FW)
  exact ⟨zn_lt I.lt, zn_fin I.fin⟩
theorem driftR_fw {x y z h : Nat} {n : Int} (hx : x < 2 ^ 32) (hy : y < 2 ^ 32) (hz : z < 2 ^ 32) (hh : h < 2 ^ 32) : ∀ v ∈ (driftR x y z h n).2, FW v := by
  intro v hv
  cases hf : isFin4 x y z h with
  | false => rw [driftR_bad1 hf] at hv; cases hv
  | true =>
    cases hi : inB n 1 300 with
    | false => rw [driftR_bad2 hf hi] at hv; cases hv
    | true =>
      by_cases hc : (stepS x y z h).c = 0
      · rw [driftR_good hf hi hc] at hv
        have hf2 := hf
        simp only [isFin4, Bool.and_eq_true] at hf2
        obtain ⟨l3, l58, lc⟩ := powS_small hf2.1.1.1 hf2.1.1.2 hf2.1.2 hf2.2 hc
        unfold inB at hi
        simp at hi
        unfold drs at hv
        simp only [List.mem_map, List.mem_range] at hv
        obtain ⟨k, hk, rfl⟩ := hv
        exact driftS_FW (l58 k (by omega))
      · rw [driftR_bad3 hf hi hc] at hv; cases hv
end Go.Proofs.Ytmbjomjpnfnbkaa
