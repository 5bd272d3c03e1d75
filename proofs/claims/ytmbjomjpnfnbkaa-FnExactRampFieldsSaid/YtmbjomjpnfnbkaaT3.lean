/-
  Walks of the statement's own functions on lists of vectors.
-/
import Derived.Test.YtmbjomjpnfnbkaaT2
import Derived.Test.YtmbjomjpnfnbkaaD17
set_option linter.unusedSimpArgs false
set_option linter.unusedVariables false
namespace Go.Proofs.Ytmbjomjpnfnbkaa
open Go.RowKit Flt

set_option maxHeartbeats 2000000 in
theorem eqVector_c (v : V3N) (w : World) (hv : v.fw) :
    Calls Try.prog 85 #[.agg #[.float .f32 v.x, .float .f32 v.y, .float .f32 v.z], .agg #[.float .f32 v.x, .float .f32 v.y, .float .f32 v.z]] w fun e w' => e = .returned (.bool true) ∧ New w w' := by
  obtain ⟨⟨l0, f0⟩, ⟨l1, f1⟩, ⟨l2, f2⟩⟩ := hv
  have c0 := conv_run (nn_of_fin f0)
  have c1 := conv_run (nn_of_fin f1)
  have c2 := conv_run (nn_of_fin f2)
  have Y0 := hid (sameFloat_any v.x (cv v.x) (cv v.x) · l0 (.inl ⟨nn_of_fin f0, rfl⟩) (.inl ⟨nn_of_fin f0, rfl⟩))
  have Y1 := hid (sameFloat_any v.y (cv v.y) (cv v.y) · l1 (.inl ⟨nn_of_fin f1, rfl⟩) (.inl ⟨nn_of_fin f1, rfl⟩))
  have Y2 := hid (sameFloat_any v.z (cv v.z) (cv v.z) · l2 (.inl ⟨nn_of_fin f2, rfl⟩) (.inl ⟨nn_of_fin f2, rfl⟩))
  clear l0 f0 l1 f1 l2 f2
  generalize cv v.x = d0 at *
  generalize cv v.y = d1 at *
  generalize cv v.z = d2 at *
  go_enter Try.func85, Try.ntmps85
  go_wp2_with fail
  refine wp_loop_rounds 4 ?_; rw [rounds_succ]
  go_wp2_with fail
  go_region_held3 (fun w' => w'.cell? ⟨w.heap.size, 0, none⟩ = some (.float .f32 v.x) ∧ w'.cell? ⟨w.heap.size + 1, 0, none⟩ = some (.float .f32 v.x)) (((repeat' apply And.intro) <;> (first | (with_reducible assumption) | (go_simp; done))))
    (first | (go_at_call 26; (with_reducible refine (Y0.out _).mono ?_); rintro e w' ⟨rfl, rfl⟩))
  rename_i hh; clear hh
  go_wp2_with fail
  rw [rounds_succ]
  go_wp2_with fail
  go_region_held3 (fun w' => w'.cell? ⟨w.heap.size, 1, none⟩ = some (.float .f32 v.y) ∧ w'.cell? ⟨w.heap.size + 1, 1, none⟩ = some (.float .f32 v.y)) (((repeat' apply And.intro) <;> (first | (with_reducible assumption) | (go_simp; done))))
    (first | (go_at_call 26; (with_reducible refine (Y1.out _).mono ?_); rintro e w' ⟨rfl, rfl⟩))
  rename_i hh; clear hh
  go_wp2_with fail
  rw [rounds_succ]
  go_wp2_with fail
  go_region_held3 (fun w' => w'.cell? ⟨w.heap.size, 2, none⟩ = some (.float .f32 v.z) ∧ w'.cell? ⟨w.heap.size + 1, 2, none⟩ = some (.float .f32 v.z)) (((repeat' apply And.intro) <;> (first | (with_reducible assumption) | (go_simp; done))))
    (first | (go_at_call 26; (with_reducible refine (Y2.out _).mono ?_); rintro e w' ⟨rfl, rfl⟩))
  rename_i hh; clear hh
  go_wp2_with fail
  rw [rounds_succ]
  go_wp2
  go_ret
  refine ⟨rfl, ?_⟩
  repeat (with_reducible first | exact New.refl _ | apply New.drew | apply New.drewN | apply New.alloc)

set_option maxHeartbeats 2000000 in
set_option maxRecDepth 5000 in
theorem eqVectorS_c (u u' : Value) (l : List V3N) (base base' : Nat) (w : World) (hO : w.ownsRow base 38 3 u l.length (flat l)) (hO' : w.ownsRow base' 38 3 u' l.length (flat l)) (hl : l.length ≤ 1000) (hf : ∀ v ∈ l, V3N.fw v) :
    Calls Try.prog 32 #[u, u'] w fun e w' => e = .returned (.bool true) ∧ New w w' := by
  by_cases h0 : l = []
  · subst h0
    have len0 : ∀ {base e : Nat} {u : Value}, w.ownsRow base e 3 u 0 (flat []) → ∃ o c, u = .slice o 0 c := fun {_ _ _} h => by
      rcases own_forms h with ⟨h, _⟩ | ⟨g, c, h⟩
      · exact ⟨_, _, h⟩
      · exact ⟨_, _, h⟩
    obtain ⟨o, c, rfl⟩ := len0 hO
    obtain ⟨o', c', rfl⟩ := len0 hO'
    clear hO hO' hf hl len0
    go_enter Try.func32, Try.ntmps32
    go_wp2_with fail
    refine wp_loop_rounds 1 ?_; rw [rounds_succ]
    go_wp2
    go_ret
    exact ⟨rfl, New.refl w⟩
  · have hpos : 0 < l.length := List.length_pos_iff.2 h0
    have form : ∀ {base e : Nat} {u : Value}, w.ownsRow base e 3 u l.length (flat l) → ∃ g c, u = .slice (some ⟨g, 0, none⟩) l.length c := fun {_ _ _} h => by
      rcases own_forms h with ⟨_, h⟩ | ⟨g, c, h⟩
      · omega
      · exact ⟨_, _, h⟩
    obtain ⟨g, c, rfl⟩ := form hO
    obtain ⟨g', c', rfl⟩ := form hO'
    have HO := hid hO
    have HO' := hid hO'
    have HF := hid (fun k (hk : k < l.length) => show V3N.fw (l.getD k V3N.zero) by
      have : l.getD k V3N.zero = l[k] := by simp [List.getD, hk]
      rw [this]; exact hf _ (List.getElem_mem _))
    clear hO hO' hf form hpos h0
    generalize hn : l.length = n at *
    have Hn := hid hn
    clear hn
    go_enter Try.func32, Try.ntmps32
    go_wp2_with fail
    go_loopw [5] (fun i wr => ∃ k : Nat, k ≤ n ∧ i = .int .i64 k ∧ New w wr) (fun i _ => n - (intOf i).toNat)
    case atStart => exact ⟨0, Nat.zero_le _, rfl, New.refl w⟩
    case round =>
      obtain ⟨k, hk, rfl, hN⟩ := hrel
      by_cases hlt : k < n
      · obtain ⟨c0, c1, c2⟩ := own_get (own_new HO.out hN) Hn.out hlt
        obtain ⟨b0, b1, b2⟩ := own_get (own_new HO'.out hN) Hn.out hlt
        have hkn : ((k : Int) < (n : Int)) := by omega
        have hv := HF.out k hlt
        generalize l.getD k V3N.zero = v at *
        have K := hid (fun w => eqVector_c v w hv)
        clear hv
        go_wp2_with fail
        go_region_held3 (fun w' => w'.cell? ⟨g, k * 3, none⟩ = some (.float .f32 v.x) ∧ w'.cell? ⟨g, k * 3 + 1, none⟩ = some (.float .f32 v.y) ∧ w'.cell? ⟨g, k * 3 + 2, none⟩ = some (.float .f32 v.z) ∧ w'.cell? ⟨g', k * 3, none⟩ = some (.float .f32 v.x) ∧ w'.cell? ⟨g', k * 3 + 1, none⟩ = some (.float .f32 v.y) ∧ w'.cell? ⟨g', k * 3 + 2, none⟩ = some (.float .f32 v.z)) (((repeat' apply And.intro) <;> (first | (with_reducible assumption) | (go_simp; done))))
          (first | (go_at_call 85; go_split_ands; (with_reducible refine (K.out _).mono ?_); rintro e w1 ⟨rfl, hN1⟩; have d0 := hN1.cell_at (k := g) (o := k * 3) (v := .float .f32 v.x) (by with_reducible assumption); have d1 := hN1.cell_at (k := g) (o := k * 3 + 1) (v := .float .f32 v.y) (by with_reducible assumption); have d2 := hN1.cell_at (k := g) (o := k * 3 + 2) (v := .float .f32 v.z) (by with_reducible assumption); have a0 := hN1.cell_at (k := g') (o := k * 3) (v := .float .f32 v.x) (by with_reducible assumption); have a1 := hN1.cell_at (k := g') (o := k * 3 + 1) (v := .float .f32 v.y) (by with_reducible assumption); have a2 := hN1.cell_at (k := g') (o := k * 3 + 2) (v := .float .f32 v.z) (by with_reducible assumption)))
        rename_i hh; clear hh
        go_wp2_with fail
        go_roundw
        case rel => exact ⟨k + 1, by omega, by go_num, New.trans hN.drew hN1⟩
        case measure => simp [intOf]; omega
      · have hk' : k = n := by omega
        subst hk'
        have hkn : ¬ ((k : Int) < (k : Int)) := by omega
        go_wp2
        go_ret
        exact ⟨rfl, hN⟩
end Go.Proofs.Ytmbjomjpnfnbkaa
