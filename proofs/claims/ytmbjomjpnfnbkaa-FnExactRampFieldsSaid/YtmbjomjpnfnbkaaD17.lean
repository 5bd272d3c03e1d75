/-
  Walks of the reference's RampFields.
-/
import Derived.Test.YtmbjomjpnfnbkaaD16
set_option linter.unusedSimpArgs false
set_option linter.unusedVariables false
namespace Go.Proofs.Ytmbjomjpnfnbkaa
open Go.RowKit Flt

theorem flat_get : ∀ (l : List V3N) (k : Nat), k < l.length → (flat l)[k * 3]? = some (.float .f32 (l.getD k V3N.zero).x) ∧ (flat l)[k * 3 + 1]? = some (.float .f32 (l.getD k V3N.zero).y) ∧ (flat l)[k * 3 + 2]? = some (.float .f32 (l.getD k V3N.zero).z)
  | [], k, h => absurd h (Nat.not_lt_zero _)
  | v :: l, 0, h => by simp [flat]
  | v :: l, k + 1, h => by
    have ih := flat_get l k (by simpa using h)
    have e : flat (v :: l) = .float .f32 v.x :: .float .f32 v.y :: .float .f32 v.z :: flat l := rfl
    rw [e, show (k + 1) * 3 = k * 3 + 1 + 1 + 1 by omega]
    simpa using ih
theorem flat_length (l : List V3N) : (flat l).length = l.length * 3 := by
  induction l with
  | nil => rfl
  | cons v l ih => have : flat (v :: l) = .float .f32 v.x :: .float .f32 v.y :: .float .f32 v.z :: flat l := rfl
                   rw [this]; simp [ih]; omega
/-- A list of vectors of a call's own, element for element. -/
theorem own_get {w : World} {base e g n cap : Nat} {l : List V3N} (h : w.ownsRow base e 3 (.slice (some ⟨g, 0, none⟩) n cap) n (flat l)) (hl : l.length = n) {k : Nat} (hk : k < n) :
    w.cell? ⟨g, k * 3, none⟩ = some (.float .f32 (l.getD k V3N.zero).x) ∧ w.cell? ⟨g, k * 3 + 1, none⟩ = some (.float .f32 (l.getD k V3N.zero).y) ∧ w.cell? ⟨g, k * 3 + 2, none⟩ = some (.float .f32 (l.getD k V3N.zero).z) := by
  obtain ⟨a, b, c⟩ := flat_get l k (by omega)
  exact ⟨(h.cellAt _ (by omega)).trans a, (h.cellAt _ (by omega)).trans b, (h.cellAt _ (by omega)).trans c⟩
theorem own_forms {w : World} {base size n : Nat} {e : TypeId} {v : Value} {xs : List Value} (h : w.ownsRow base e size v n xs) : (v = .slice none 0 0 ∧ n = 0) ∨ ∃ g cap, v = .slice (some ⟨g, 0, none⟩) n cap := by
  rcases h.2 with h0 | ⟨g, cap, _, hv, _⟩
  · exact Or.inl h0
  · exact Or.inr ⟨g, cap, hv⟩

theorem l00Vector_c (x y z : Nat) (w : World) :
    Calls Try.prog 129 #[.agg #[.float .f32 x, .float .f32 y, .float .f32 z]] w fun e w' => e = .returned (.agg #[.float .f32 (zn x), .float .f32 (zn y), .float .f32 (zn z)]) ∧ New w w' := by
  go_enter Try.func129, Try.ntmps129
  go_wp2
  go_region_held3 (fun w' => w'.cell? ⟨w.heap.size, 0, none⟩ = some (.float .f32 x) ∧ w'.cell? ⟨w.heap.size, 1, none⟩ = some (.float .f32 y) ∧ w'.cell? ⟨w.heap.size, 2, none⟩ = some (.float .f32 z)) ((refine ⟨?_, ?_, ?_⟩ <;> go_simp))
    (first | (go_at_call 72; (with_reducible refine (l00Float_c _ _).mono ?_); rintro e w' ⟨rfl, rfl⟩))
  all_goals
    rename_i hh; clear hh
    go_wp2
    refine bodyPost_ret (v := V3 (zn x) (zn y) (zn z)) (by simp [results, Try.results129, go_sem]) rfl ⟨rfl, ?_⟩
    exact (((New.refl w).alloc _).alloc _).drew

def znl (l : List V3N) : List V3N := l.map V3N.zn
theorem znl_take {l : List V3N} {k : Nat} (h : k < l.length) : flat (znl (l.take (k + 1))) = flat (znl (l.take k)) ++ [.float .f32 (zn (l.getD k V3N.zero).x), .float .f32 (zn (l.getD k V3N.zero).y), .float .f32 (zn (l.getD k V3N.zero).z)] := by
  rw [List.take_add_one]
  have : l[k]? = some (l.getD k V3N.zero) := by simp [List.getD, h]
  rw [this]
  simp [znl, flat, V3N.zn]

set_option maxHeartbeats 2000000 in
set_option maxRecDepth 5000 in
theorem l00Vectors_c (u : Value) (l : List V3N) (base : Nat) (w : World) (hO : w.ownsRow base 38 3 u l.length (flat l)) (hl : l.length ≤ 1000) :
    Calls Try.prog 81 #[u] w fun e w' => ∃ u', e = .returned u' ∧ w'.ownsRow w.heap.size 38 3 u' l.length (flat (znl l)) ∧ New w w' := by
  rcases own_forms hO with ⟨rfl, h0⟩ | ⟨g, cap, rfl⟩
  · have hl0 : l = [] := List.eq_nil_of_length_eq_zero h0
    subst hl0
    clear h0 hl
    go_enter Try.func81, Try.ntmps81
    go_wp2_with fail
    refine wp_loop_rounds 1 ?_; rw [rounds_succ]
    go_wp2
    go_ret
    exact ⟨_, rfl, own_lit0 _ _ _ rfl (Nat.le_refl _), (New.refl w).alloc _⟩
  · have HO := hid hO
    clear hO
    generalize hn : l.length = n at *
    have Hn := hid hn
    clear hn
    go_enter Try.func81, Try.ntmps81
    go_wp2_with fail
    go_loopw [3, 4] (fun u i wr => ∃ k : Nat, k ≤ n ∧ i = .int .i64 k ∧ Hid (wr.ownsRow w.heap.size 38 3 u k (flat (znl (l.take k)))) ∧ New w wr) (fun _ i _ => n - (intOf i).toNat)
    case atStart => exact ⟨0, Nat.zero_le _, rfl, hid (own_lit0 _ _ _ rfl (Nat.le_refl _)), (New.refl w).alloc _⟩
    case round =>
      obtain ⟨k, hk, rfl, HR, hN⟩ := hrel
      by_cases hlt : k < n
      · obtain ⟨c0, c1, c2⟩ := own_get (own_new HO.out hN) Hn.out hlt
        have hkn : ((k : Int) < (n : Int)) := by omega
        have hT := hid (znl_take (l := l) (k := k) (by rw [Hn.out]; exact hlt))
        generalize l.getD k V3N.zero = v at *
        go_wp2_with fail
        with_reducible refine (l00Vector_c _ _ _ _).mono ?_; rintro e w1 ⟨rfl, hN1⟩
        have hN' := hid (hN.trans hN1)
        have hW1 := hid hN1
        obtain ⟨l1, l2, l3⟩ := hN1.laws
        have hs := hN1.size
        have hs0 := hN.size
        obtain ⟨i0, hi, hz0, hz1, hz2⟩ := info_parts infoV
        clear c0 c1 c2
        go_wp2_with (at_builtin; refine wpList_append_own _ rfl _ _ 52 rfl w.heap.size 38 i0 (V3 0 0 0) 3 12 Try.underlying52 hi hz0 hz1 hz2 rfl (by decide) _ _ _ rfl (own_new HR.out (hW1.out.alloc _)) ⟨w1.heap.size, 0, none⟩ 1 1 [.float .f32 (zn v.x), .float .f32 (zn v.y), .float .f32 (zn v.z)] rfl rfl ?c1 ?c2 ?c3 ?c4 ?c5 ?_)
        case c1 => exact new_cells _ #[.float .f32 (zn v.x), .float .f32 (zn v.y), .float .f32 (zn v.z)] _ rfl
        case c2 => intro u hu; simp at hu; rcases hu with rfl | rfl | rfl <;> rfl
        case c3 => unfold maxLen; omega
        case c4 => omega
        case c5 => simp; omega
        intro v' w2 hown' hgrow hnil
        have hO1 := hid (own_new HR.out (hW1.out.alloc (.cells #[.float .f32 (zn v.x), .float .f32 (zn v.y), .float .f32 (zn v.z)] 38)))
        have hX1 := hid (New.grew (hN'.out.alloc (.cells #[.float .f32 (zn v.x), .float .f32 (zn v.y), .float .f32 (zn v.z)] 38)) hO1.out hgrow (Nat.le_refl _))
        have hown1 := hid hown'
        clear hown' hgrow hnil hO1 HR l1 l2 l3
        go_wp2_with fail
        go_roundw
        case rel => exact ⟨k + 1, by omega, by go_num, hid (by rw [hT.out]; exact hown1.out), hX1.out⟩
        case measure => simp [intOf]; omega
      · have hk' : k = n := by omega
        subst hk'
        have hkn : ¬ ((k : Int) < (k : Int)) := by omega
        go_wp2
        go_ret
        refine ⟨_, rfl, ?_, hN⟩
        have := HR.out
        rw [List.take_of_length_le (by rw [Hn.out]; exact Nat.le_refl _)] at this
        exact this
end Go.Proofs.Ytmbjomjpnfnbkaa
