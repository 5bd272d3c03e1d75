/-
  Walk of the program's MixtureOfVector.
-/
import Derived.Test.YtmbjomjpnfnbkaaP8
import Derived.Test.YtmbjomjpnfnbkaaA8
import Derived.Test.YtmbjomjpnfnbkaaK0
set_option linter.unusedSimpArgs false
set_option linter.unusedVariables false
namespace Go.Proofs.Ytmbjomjpnfnbkaa
open Go.RowKit Flt

abbrev Mx (a d p q : Nat) : Value := .agg #[.float .f32 a, .float .f32 d, .complex .f32 p q]
theorem geB_true {x : Nat} (h : geB x = true) : FloatKind.f32.format.order x 0 = some .gt ∨ FloatKind.f32.format.order x 0 = some .eq := by
  unfold geB at h
  cases ho : FloatKind.f32.format.order x 0 with
  | none => rw [ho] at h; cases h
  | some o => rw [ho] at h; cases o <;> simp_all
theorem geB_false {x : Nat} (hx : fin S x = true) (h : geB x = false) : FloatKind.f32.format.order x 0 = some .lt := by
  unfold geB at h
  have e : Go.FloatKind.f32.format.order x 0 = S.order x 0 := rfl
  have := order_fin S hx fin0
  rw [← e] at this
  rw [this] at h ⊢
  by_cases h1 : val S x < val S 0
  · rw [if_pos h1]
  · by_cases h2 : val S x = val S 0
    · rw [if_neg h1, if_pos h2] at h; cases h
    · rw [if_neg h1, if_neg h2] at h; cases h

set_option maxHeartbeats 1000000 in
theorem isMix_c (a d p q : Nat) (w : World) (ha : fin S a = true) (hd : fin S d = true) :
    Calls Try.prog 66 #[Mx a d p q] w fun e w' => e = .returned (.bool (geB a && geB d)) ∧ New w w' := by
  cases h1 : geB a with
  | false =>
    have o1 := geB_false ha h1
    clear h1
    go_enter Try.func66, Try.ntmps66
    go_wp2
    go_ret
    exact ⟨rfl, (New.refl w).alloc _⟩
  | true =>
    cases h2 : geB d with
    | false =>
      have o2 := geB_false hd h2
      rcases geB_true h1 with o1 | o1
      all_goals
        clear h1 h2
        go_enter Try.func66, Try.ntmps66
        go_wp2
        go_ret
        exact ⟨rfl, (New.refl w).alloc _⟩
    | true =>
      rcases geB_true h1 with o1 | o1
      all_goals
        rcases geB_true h2 with o2 | o2
        all_goals
          clear h1 h2
          go_enter Try.func66, Try.ntmps66
          go_wp2
          go_ret
          exact ⟨rfl, (New.refl w).alloc _⟩

set_option maxHeartbeats 1000000 in
theorem turn_c (b : Nat) (c : Int) (a d p q : Nat) (w : World) (ha : FW a) (hd : FW d) (hp : FW p) (hq : FW q) (hA : At b c w) :
    Calls Try.prog 69 #[.pointer (some ⟨b, 0, none⟩), Mx a d p q] w fun e w' => e = .returned (turnM a d p q c).val ∧ Ext b (turnM a d p q c).c w w' := by
  have hlt := hA.lt
  have ha2 := ha.2
  have hd2 := hd.2
  have hp2 := hp.2
  have hq2 := hq.2
  have hq3 : q < 2 ^ 32 ∧ fin S q = true := hq
  go_enter Try.func69, Try.ntmps69
  go_wp2_with fail
  refine wp_region_held_drew (S := fun w' => w'.cell? ⟨w.heap.size, 0, none⟩ = some (.float .f32 a) ∧ w'.cell? ⟨w.heap.size, 1, none⟩ = some (.float .f32 d) ∧ w'.cell? ⟨w.heap.size, 2, none⟩ = some (.complex .f32 p q)) (by kernel_rfl) (by refine ⟨?_, ?_, ?_⟩ <;> (go_simp; done)) (fun hHeld => ?_)
  refine wpAnyH_take (i := 0) (oi := { dst := some 5, op := Op.move (Operand.tmp 0), type := 81, pos := "l06_mixtures.go:25", after := #[], guard := none }) (v := ?_) rfl (by kernel_rfl) (by kernel_rfl) (by kernel_rfl) (fun _ _ _ h => h) (Or.inl ⟨by rfl, ?_⟩) (by assumption) ?_
  rotate_left
  · intro wq hSw; (try dsimp only at hSw); go_simp; try (with_reducible rfl)
  try simp only [Act.put, List.setIfInBounds_toArray, List.set_cons_zero, List.set_cons_succ]
  refine wpAnyH_take (i := 1) (oi := { dst := some 6, op := Op.fieldAddr 87 (Operand.tmp 3) 0, type := 0, pos := "l06_mixtures.go:25", after := #[], guard := none }) (v := ?_) rfl (by kernel_rfl) (by kernel_rfl) (by kernel_rfl) (fun _ _ _ h => h) (Or.inl ⟨by rfl, ?_⟩) (by assumption) ?_
  rotate_left
  · intro wq hSw; (try dsimp only at hSw); go_simp; try (with_reducible rfl)
  try simp only [Act.put, List.setIfInBounds_toArray, List.set_cons_zero, List.set_cons_succ]
  refine wpAnyH_take (i := 2) (oi := { dst := some 7, op := Op.load 34 (Operand.tmp 6), type := 34, pos := "l06_mixtures.go:25", after := #[{ on := 1, ground := Ground.data }], guard := none }) (v := ?_) rfl (by kernel_rfl) (by kernel_rfl) (by kernel_rfl) (fun _ _ _ h => h) (Or.inl ⟨by rfl, ?_⟩) (by assumption) ?_
  rotate_left
  · intro wq hSw; (try dsimp only at hSw); go_simp; try (with_reducible rfl)
  try simp only [Act.put, List.setIfInBounds_toArray, List.set_cons_zero, List.set_cons_succ]
  refine wpAnyH_take (i := 4) (oi := { dst := some 9, op := Op.move (Operand.tmp 0), type := 81, pos := "l06_mixtures.go:25", after := #[], guard := none }) (v := ?_) rfl (by kernel_rfl) (by kernel_rfl) (by kernel_rfl) (fun _ _ _ h => h) (Or.inl ⟨by rfl, ?_⟩) (by assumption) ?_
  rotate_left
  · intro wq hSw; (try dsimp only at hSw); go_simp; try (with_reducible rfl)
  try simp only [Act.put, List.setIfInBounds_toArray, List.set_cons_zero, List.set_cons_succ]
  refine wpAnyH_take (i := 5) (oi := { dst := some 10, op := Op.fieldAddr 87 (Operand.tmp 3) 2, type := 0, pos := "l06_mixtures.go:25", after := #[], guard := none }) (v := ?_) rfl (by kernel_rfl) (by kernel_rfl) (by kernel_rfl) (fun _ _ _ h => h) (Or.inl ⟨by rfl, ?_⟩) (by assumption) ?_
  rotate_left
  · intro wq hSw; (try dsimp only at hSw); go_simp; try (with_reducible rfl)
  try simp only [Act.put, List.setIfInBounds_toArray, List.set_cons_zero, List.set_cons_succ]
  refine wpAnyH_take (i := 6) (oi := { dst := some 11, op := Op.load 22 (Operand.tmp 10), type := 22, pos := "l06_mixtures.go:25", after := #[{ on := 5, ground := Ground.data }], guard := none }) (v := ?_) rfl (by kernel_rfl) (by kernel_rfl) (by kernel_rfl) (fun _ _ _ h => h) (Or.inl ⟨by rfl, ?_⟩) (by assumption) ?_
  rotate_left
  · intro wq hSw; (try dsimp only at hSw); go_simp; try (with_reducible rfl)
  try simp only [Act.put, List.setIfInBounds_toArray, List.set_cons_zero, List.set_cons_succ]
  refine wpAnyH_take (i := 9) (oi := { dst := some 14, op := Op.move (Operand.tmp 0), type := 81, pos := "l06_mixtures.go:25", after := #[], guard := none }) (v := ?_) rfl (by kernel_rfl) (by kernel_rfl) (by kernel_rfl) (fun _ _ _ h => h) (Or.inl ⟨by rfl, ?_⟩) (by assumption) ?_
  rotate_left
  · intro wq hSw; (try dsimp only at hSw); go_simp; try (with_reducible rfl)
  try simp only [Act.put, List.setIfInBounds_toArray, List.set_cons_zero, List.set_cons_succ]
  refine wpAnyH_take (i := 10) (oi := { dst := some 15, op := Op.fieldAddr 87 (Operand.tmp 3) 2, type := 0, pos := "l06_mixtures.go:25", after := #[], guard := none }) (v := ?_) rfl (by kernel_rfl) (by kernel_rfl) (by kernel_rfl) (fun _ _ _ h => h) (Or.inl ⟨by rfl, ?_⟩) (by assumption) ?_
  rotate_left
  · intro wq hSw; (try dsimp only at hSw); go_simp; try (with_reducible rfl)
  try simp only [Act.put, List.setIfInBounds_toArray, List.set_cons_zero, List.set_cons_succ]
  refine wpAnyH_take (i := 11) (oi := { dst := some 16, op := Op.load 22 (Operand.tmp 15), type := 22, pos := "l06_mixtures.go:25", after := #[{ on := 10, ground := Ground.data }], guard := none }) (v := ?_) rfl (by kernel_rfl) (by kernel_rfl) (by kernel_rfl) (fun _ _ _ h => h) (Or.inl ⟨by rfl, ?_⟩) (by assumption) ?_
  rotate_left
  · intro wq hSw; (try dsimp only at hSw); go_simp; try (with_reducible rfl)
  try simp only [Act.put, List.setIfInBounds_toArray, List.set_cons_zero, List.set_cons_succ]
  refine wpAnyH_take (i := 12) (oi := { dst := some 17, op := Op.call { callee := Callee.builtin Builtin.real, args := #[Operand.tmp 16], argTypes := #[22] }, type := 34, pos := "l06_mixtures.go:25", after := #[{ on := 11, ground := Ground.data }], guard := none }) (v := ?_) rfl (by kernel_rfl) (by kernel_rfl) (by kernel_rfl) (fun _ _ _ h => h) (Or.inl ⟨by rfl, ?_⟩) (by assumption) ?_
  rotate_left
  · intro wq hSw; (try dsimp only at hSw); go_simp; try (with_reducible rfl)
  try simp only [Act.put, List.setIfInBounds_toArray, List.set_cons_zero, List.set_cons_succ]
  refine wpAnyH_take (i := 13) (oi := { dst := some 18, op := Op.fieldAddr 87 (Operand.tmp 3) 2, type := 0, pos := "l06_mixtures.go:25", after := #[], guard := none }) (v := ?_) rfl (by kernel_rfl) (by kernel_rfl) (by kernel_rfl) (fun _ _ _ h => h) (Or.inl ⟨by rfl, ?_⟩) (by assumption) ?_
  rotate_left
  · intro wq hSw; (try dsimp only at hSw); go_simp; try (with_reducible rfl)
  try simp only [Act.put, List.setIfInBounds_toArray, List.set_cons_zero, List.set_cons_succ]
  refine wpAnyH_take (i := 14) (oi := { dst := some 19, op := Op.load 22 (Operand.tmp 18), type := 22, pos := "l06_mixtures.go:25", after := #[{ on := 13, ground := Ground.data }], guard := none }) (v := ?_) rfl (by kernel_rfl) (by kernel_rfl) (by kernel_rfl) (fun _ _ _ h => h) (Or.inl ⟨by rfl, ?_⟩) (by assumption) ?_
  rotate_left
  · intro wq hSw; (try dsimp only at hSw); go_simp; try (with_reducible rfl)
  try simp only [Act.put, List.setIfInBounds_toArray, List.set_cons_zero, List.set_cons_succ]
  refine wpAnyH_take (i := 15) (oi := { dst := some 20, op := Op.call { callee := Callee.builtin Builtin.imag, args := #[Operand.tmp 19], argTypes := #[22] }, type := 34, pos := "l06_mixtures.go:25", after := #[{ on := 14, ground := Ground.data }], guard := none }) (v := ?_) rfl (by kernel_rfl) (by kernel_rfl) (by kernel_rfl) (fun _ _ _ h => h) (Or.inl ⟨by rfl, ?_⟩) (by assumption) ?_
  rotate_left
  · intro wq hSw; (try dsimp only at hSw); go_simp; try (with_reducible rfl)
  try simp only [Act.put, List.setIfInBounds_toArray, List.set_cons_zero, List.set_cons_succ]
  refine wpAnyH_take (i := 17) (oi := { dst := some 22, op := Op.move (Operand.tmp 0), type := 81, pos := "l06_mixtures.go:25", after := #[], guard := none }) (v := ?_) rfl (by kernel_rfl) (by kernel_rfl) (by kernel_rfl) (fun _ _ _ h => h) (Or.inl ⟨by rfl, ?_⟩) (by assumption) ?_
  rotate_left
  · intro wq hSw; (try dsimp only at hSw); go_simp; try (with_reducible rfl)
  try simp only [Act.put, List.setIfInBounds_toArray, List.set_cons_zero, List.set_cons_succ]
  refine wpAnyH_take (i := 18) (oi := { dst := some 23, op := Op.fieldAddr 87 (Operand.tmp 3) 1, type := 0, pos := "l06_mixtures.go:25", after := #[], guard := none }) (v := ?_) rfl (by kernel_rfl) (by kernel_rfl) (by kernel_rfl) (fun _ _ _ h => h) (Or.inl ⟨by rfl, ?_⟩) (by assumption) ?_
  rotate_left
  · intro wq hSw; (try dsimp only at hSw); go_simp; try (with_reducible rfl)
  try simp only [Act.put, List.setIfInBounds_toArray, List.set_cons_zero, List.set_cons_succ]
  refine wpAnyH_take (i := 19) (oi := { dst := some 24, op := Op.load 34 (Operand.tmp 23), type := 34, pos := "l06_mixtures.go:25", after := #[{ on := 18, ground := Ground.data }], guard := none }) (v := ?_) rfl (by kernel_rfl) (by kernel_rfl) (by kernel_rfl) (fun _ _ _ h => h) (Or.inl ⟨by rfl, ?_⟩) (by assumption) ?_
  rotate_left
  · intro wq hSw; (try dsimp only at hSw); go_simp; try (with_reducible rfl)
  try simp only [Act.put, List.setIfInBounds_toArray, List.set_cons_zero, List.set_cons_succ]
  refine wpAnyH_ready (rs := [3]) (by kernel_rfl) (by simp) ?_
  refine AllReadyH.cons (o := { dst := some 8, op := Op.call { callee := Callee.value (Operand.func 112), args := #[Operand.tmp 5, Operand.tmp 7, Operand.const (Value.float FloatKind.f32 0)], argTypes := #[81, 34, 34] }, type := 22, pos := "l06_mixtures.go:25", after := #[{ on := 0, ground := Ground.data }, { on := 2, ground := Ground.data }], guard := none }) rfl (fun K hK => ?_) AllReadyH.nil
  go_simp
  with_reducible refine (z_c b _ a 0 _ ha2 fin0 (by repeat (with_reducible first | assumption | exact hA | apply At.set | apply At.alloc | apply At.drew | apply At.drewN))).mono ?_; rintro e w' ⟨rfl, rfl⟩
  refine hK.out _ _ (by refine ⟨?_, ?_, ?_⟩ <;> (go_simp; done)) (fun hHeld' => ?_)
  clear hK K hHeld; have hHeld := hHeld'; clear hHeld'
  try simp only [Act.put, List.setIfInBounds_toArray, List.set_cons_zero, List.set_cons_succ]
  refine wpAnyH_ready (rs := [7]) (by kernel_rfl) (by simp) ?_
  refine AllReadyH.cons (o := { dst := some 12, op := Op.call { callee := Callee.value (Operand.func 113), args := #[Operand.tmp 9, Operand.tmp 11], argTypes := #[81, 22] }, type := 22, pos := "l06_mixtures.go:25", after := #[{ on := 4, ground := Ground.data }, { on := 6, ground := Ground.data }, { on := 3, ground := Ground.chain }], guard := none }) rfl (fun K hK => ?_) AllReadyH.nil
  go_simp
  with_reducible refine (conj_c b _ p q _ hp2 hq3 (by repeat (with_reducible first | assumption | exact hA | apply At.set | apply At.alloc | apply At.drew | apply At.drewN))).mono ?_; rintro e w' ⟨rfl, rfl⟩
  refine hK.out _ _ (by refine ⟨?_, ?_, ?_⟩ <;> (go_simp; done)) (fun hHeld' => ?_)
  clear hK K hHeld; have hHeld := hHeld'; clear hHeld'
  try simp only [Act.put, List.setIfInBounds_toArray, List.set_cons_zero, List.set_cons_succ]
  refine wpAnyH_take (i := 8) (oi := { dst := some 13, op := Op.build 23 #[(0, Operand.tmp 8), (1, Operand.tmp 12)], type := 23, pos := "l06_mixtures.go:25", after := #[{ on := 3, ground := Ground.data }, { on := 7, ground := Ground.data }], guard := none }) (v := ?_) rfl (by kernel_rfl) (by kernel_rfl) (by kernel_rfl) (fun _ _ _ h => h) (Or.inl ⟨by rfl, ?_⟩) (by assumption) ?_
  rotate_left
  · intro wq hSw; (try dsimp only at hSw); go_simp; try (with_reducible rfl)
  try simp only [Act.put, List.setIfInBounds_toArray, List.set_cons_zero, List.set_cons_succ]
  refine wpAnyH_ready (rs := [16]) (by kernel_rfl) (by simp) ?_
  refine AllReadyH.cons (o := { dst := some 21, op := Op.call { callee := Callee.value (Operand.func 112), args := #[Operand.tmp 14, Operand.tmp 17, Operand.tmp 20], argTypes := #[81, 34, 34] }, type := 22, pos := "l06_mixtures.go:25", after := #[{ on := 9, ground := Ground.data }, { on := 12, ground := Ground.data }, { on := 15, ground := Ground.data }, { on := 7, ground := Ground.chain }], guard := none }) rfl (fun K hK => ?_) AllReadyH.nil
  go_simp
  with_reducible refine (z_c b _ p q _ hp2 hq2 (by repeat (with_reducible first | assumption | exact hA | apply At.set | apply At.alloc | apply At.drew | apply At.drewN))).mono ?_; rintro e w' ⟨rfl, rfl⟩
  refine hK.out _ _ (by refine ⟨?_, ?_, ?_⟩ <;> (go_simp; done)) (fun hHeld' => ?_)
  clear hK K hHeld; have hHeld := hHeld'; clear hHeld'
  try simp only [Act.put, List.setIfInBounds_toArray, List.set_cons_zero, List.set_cons_succ]
  refine wpAnyH_ready (rs := [20]) (by kernel_rfl) (by simp) ?_
  refine AllReadyH.cons (o := { dst := some 25, op := Op.call { callee := Callee.value (Operand.func 112), args := #[Operand.tmp 22, Operand.tmp 24, Operand.const (Value.float FloatKind.f32 0)], argTypes := #[81, 34, 34] }, type := 22, pos := "l06_mixtures.go:25", after := #[{ on := 17, ground := Ground.data }, { on := 19, ground := Ground.data }, { on := 16, ground := Ground.chain }], guard := none }) rfl (fun K hK => ?_) AllReadyH.nil
  go_simp
  with_reducible refine (z_c b _ d 0 _ hd2 fin0 (by repeat (with_reducible first | assumption | exact hA | apply At.set | apply At.alloc | apply At.drew | apply At.drewN))).mono ?_; rintro e w' ⟨rfl, rfl⟩
  refine hK.out _ _ (by refine ⟨?_, ?_, ?_⟩ <;> (go_simp; done)) (fun hHeld' => ?_)
  clear hK K hHeld; have hHeld := hHeld'; clear hHeld'
  try simp only [Act.put, List.setIfInBounds_toArray, List.set_cons_zero, List.set_cons_succ]
  refine wpAnyH_take (i := 21) (oi := { dst := some 26, op := Op.build 23 #[(0, Operand.tmp 21), (1, Operand.tmp 25)], type := 23, pos := "l06_mixtures.go:25", after := #[{ on := 16, ground := Ground.data }, { on := 20, ground := Ground.data }], guard := none }) (v := ?_) rfl (by kernel_rfl) (by kernel_rfl) (by kernel_rfl) (fun _ _ _ h => h) (Or.inl ⟨by rfl, ?_⟩) (by assumption) ?_
  rotate_left
  · intro wq hSw; (try dsimp only at hSw); go_simp; try (with_reducible rfl)
  try simp only [Act.put, List.setIfInBounds_toArray, List.set_cons_zero, List.set_cons_succ]
  refine wpAnyH_take (i := 22) (oi := { dst := some 27, op := Op.build 26 #[(0, Operand.tmp 13), (1, Operand.tmp 26)], type := 26, pos := "l06_mixtures.go:25", after := #[{ on := 8, ground := Ground.data }, { on := 21, ground := Ground.data }], guard := none }) (v := ?_) rfl (by kernel_rfl) (by kernel_rfl) (by kernel_rfl) (fun _ _ _ h => h) (Or.inl ⟨by rfl, ?_⟩) (by assumption) ?_
  rotate_left
  · intro wq hSw; (try dsimp only at hSw); go_simp; try (with_reducible rfl)
  try simp only [Act.put, List.setIfInBounds_toArray, List.set_cons_zero, List.set_cons_succ]
  refine wpAnyH_ready (rs := [23]) (by kernel_rfl) (by simp) ?_
  refine AllReadyH.cons (o := { dst := none, op := Op.store 26 (Operand.tmp 4) (Operand.tmp 27), type := 0, pos := "l06_mixtures.go:25", after := #[{ on := 22, ground := Ground.data }, { on := 20, ground := Ground.chain }, { on := 0, ground := Ground.phase }, { on := 1, ground := Ground.phase }, { on := 2, ground := Ground.phase }, { on := 3, ground := Ground.phase }, { on := 4, ground := Ground.phase }, { on := 5, ground := Ground.phase }, { on := 6, ground := Ground.phase }, { on := 7, ground := Ground.phase }, { on := 8, ground := Ground.phase }, { on := 9, ground := Ground.phase }, { on := 10, ground := Ground.phase }, { on := 11, ground := Ground.phase }, { on := 12, ground := Ground.phase }, { on := 13, ground := Ground.phase }, { on := 14, ground := Ground.phase }, { on := 15, ground := Ground.phase }, { on := 16, ground := Ground.phase }, { on := 17, ground := Ground.phase }, { on := 18, ground := Ground.phase }, { on := 19, ground := Ground.phase }, { on := 20, ground := Ground.phase }, { on := 21, ground := Ground.phase }, { on := 22, ground := Ground.phase }], guard := none }) rfl (fun K hK => ?_) AllReadyH.nil
  go_simp
  refine hK.out _ _ (by refine ⟨?_, ?_, ?_⟩ <;> (go_simp; done)) (fun hHeld' => ?_)
  clear hK K hHeld; have hHeld := hHeld'; clear hHeld'
  try simp only [Act.put, List.setIfInBounds_toArray, List.set_cons_zero, List.set_cons_succ]
  refine wpAnyH_done (by kernel_rfl) ?_ _
  go_wp2
  go_returns
  refine ⟨rfl, ?_⟩
  repeat (with_reducible first | apply Ext.drew | apply Ext.drewN | apply Ext.alloc)
  trace_state
  exact (Ext.refl hA).set _
end Go.Proofs.Ytmbjomjpnfnbkaa
