/-
  Walks of the statement's own comparison of lists of numbers.
-/
import Derived.Test.YtmbjomjpnfnbkaaT1
set_option linter.unusedSimpArgs false
set_option linter.unusedVariables false
namespace Go.Proofs.Ytmbjomjpnfnbkaa
open Go.RowKit Flt

/-- What a number made a float64 may be. -/
def Cv (x y : Nat) : Prop := (nn x = true ∧ y = cv x) ∨ (nn x = false ∧ (Ieee.Format.read D y).isNaN = true)
theorem order_nan64 {y : Nat} (hy : (Ieee.Format.read D y).isNaN = true) : FloatKind.f64.format.order y y = none := by
  show D.order y y = none
  unfold Ieee.Format.order
  cases hr : D.read y with
  | nan s t => rfl
  | number s m e => rw [hr] at hy; cases hy
  | infinity s => rw [hr] at hy; cases hy
theorem order_cv {x : Nat} (h : nn x = true) : FloatKind.f64.format.order (cv x) (cv x) = some .eq := by
  show D.order _ _ = _
  rcases read_cases h with hf | ⟨s, hs⟩
  · have hc := cv_fin hf
    rw [order_fin D hc.1 hc.1, if_neg (by grind), if_pos rfl]
  · unfold cv; rw [hs]; cases s <;> decide +kernel
theorem cv_zero {x : Nat} (hx : x < 2 ^ 32) (h : nn x = true) (h0 : FloatKind.f64.format.order (cv x) 0 = some .eq) : cv x = 0 ∨ cv x = 9223372036854775808 := by
  rcases read_cases h with hf | ⟨s, hs⟩
  · have e := order_zero hf
    rw [e] at h0
    have hz : isZ x = true := by unfold isZ; rw [h0]; rfl
    have hv := (isZ_iff hf).1 hz
    have hr := (val_zero_iff S S_good hf).1 hv
    have hw : S.signWeight = 2 ^ 31 := by decide
    have : x = 0 ∨ x = 2 ^ 31 := by unfold rg at hr; rw [hw] at hr; omega
    rcases this with rfl | rfl
    · left; decide +kernel
    · right; decide +kernel
  · exfalso
    have : FloatKind.f64.format.order (cv x) 0 ≠ some .eq := by unfold cv; rw [hs]; cases s <;> decide +kernel
    exact this h0

set_option maxHeartbeats 1000000 in
theorem sameFloat_any (x y y' : Nat) (w : World) (hx : x < 2 ^ 32) (hy : Cv x y) (hy' : Cv x y') :
    Calls Try.prog 26 #[.float .f64 y, .float .f64 y'] w fun e w' => e = .returned (.bool true) ∧ w = w' := by
  rcases hy with ⟨h, rfl⟩ | ⟨h, hn⟩
  · rcases hy' with ⟨_, rfl⟩ | ⟨h', _⟩
    · have h1 := order_cv h
      cases hz : (FloatKind.f64.format.order (cv x) 0 == some .eq) with
      | true =>
        rcases cv_zero hx h (beq_iff_eq.1 hz) with e | e
        · rw [e] at *
          clear hz e h
          have k0 := fun (t : TypeId) (w : World) => run_float_arith (P := Try.prog) w .quo t .f64 4607182418800017408 0 0x7ff0000000000000 (by decide +kernel)
          have h2 : FloatKind.f64.format.order 0x7ff0000000000000 0 = some .gt := by decide +kernel
          go_enter Try.func26, Try.ntmps26
          go_wp2
          go_ret; exact ⟨rfl, rfl⟩
        · rw [e] at *
          have k0 := fun (t : TypeId) (w : World) => run_float_arith (P := Try.prog) w .quo t .f64 4607182418800017408 9223372036854775808 0xfff0000000000000 (by decide +kernel)
          have h2 : FloatKind.f64.format.order 0xfff0000000000000 0 = some .lt := by decide +kernel
          have h3 : FloatKind.f64.format.order 9223372036854775808 0 = some .eq := by decide +kernel
          clear hz e h
          go_enter Try.func26, Try.ntmps26
          go_wp2
          go_ret; exact ⟨rfl, rfl⟩
      | false =>
        generalize cv x = a at *
        clear h
        go_enter Try.func26, Try.ntmps26
        go_wp2
        go_ret; exact ⟨rfl, rfl⟩
    · rw [h] at h'; cases h'
  · rcases hy' with ⟨h', _⟩ | ⟨_, hn'⟩
    · rw [h] at h'; cases h'
    · have h1 := order_nan64 hn
      have h2 := order_nan64 hn'
      clear h hn hn'
      go_enter Try.func26, Try.ntmps26
      go_wp2
      go_ret; exact ⟨rfl, rfl⟩

set_option maxHeartbeats 4000000 in
theorem eqFloats_c (p q n : Nat) (f : Nat → Nat) (w : World) (hn : n ≤ 1048576) (hf : ∀ j, j < n → f j < 2 ^ 32)
    (hp : ∀ j, j < n → w.cell? ⟨p, j, none⟩ = some (.float .f32 (f j))) (hq : ∀ j, j < n → w.cell? ⟨q, j, none⟩ = some (.float .f32 (f j))) :
    Calls Try.prog 27 #[.slice (some ⟨p, 0, none⟩) n n, .slice (some ⟨q, 0, none⟩) n n] w fun e w' => e = .returned (.bool true) ∧ New w w' := by
  have HP := hid hp
  have HQ := hid hq
  have HF := hid hf
  clear hp hq hf
  go_enter Try.func27, Try.ntmps27
  go_wp2_with fail
  go_loopw [5] (fun i wr => ∃ k : Nat, k ≤ n ∧ i = .int .i64 k ∧ New w wr) (fun i _ => n - (intOf i).toNat)
  case atStart => exact ⟨0, Nat.zero_le _, rfl, New.refl w⟩
  case round =>
    obtain ⟨k, hk, rfl, hN⟩ := hrel
    by_cases hlt : k < n
    · have hcp := hN.cell_at (HP.out k hlt)
      have hcq := hN.cell_at (HQ.out k hlt)
      have hx := HF.out k hlt
      have hkn : ((k : Int) < (n : Int)) := by omega
      generalize f k = x at *
      cases hnn : nn x with
      | true =>
        have c1 := conv_run hnn
        have Y := hid (sameFloat_any x (cv x) (cv x) · hx (.inl ⟨hnn, rfl⟩) (.inl ⟨hnn, rfl⟩))
        go_wp2_with fail
        go_region_held3 (fun w' => w'.cell? ⟨p, k, none⟩ = some (.float .f32 x) ∧ w'.cell? ⟨q, k, none⟩ = some (.float .f32 x)) (((repeat' apply And.intro) <;> (first | (with_reducible assumption) | (go_simp; done))))
          (first | (go_at_call 26; (with_reducible refine (Y.out _).mono ?_); rintro e w' ⟨rfl, rfl⟩))
        rename_i hh; clear hh
        go_wp2_with fail
        go_roundw
        case rel => exact ⟨k + 1, by omega, by go_num, hN.drew⟩
        case measure => simp [intOf]; omega
      | false =>
        obtain ⟨y1, hy1, r1⟩ := conv_nan hnn wr.drew
        obtain ⟨y2, hy2, r2⟩ := conv_nan hnn wr.drew.drew
        have Y12 := hid (sameFloat_any x y1 y2 · hx (.inr ⟨hnn, hy1⟩) (.inr ⟨hnn, hy2⟩))
        have Y21 := hid (sameFloat_any x y2 y1 · hx (.inr ⟨hnn, hy2⟩) (.inr ⟨hnn, hy1⟩))
        clear hy1 hy2
        go_wp2_with fail
        refine wp_region_held_drew (S := fun w' => w'.cell? ⟨p, k, none⟩ = some (.float .f32 x) ∧ w'.cell? ⟨q, k, none⟩ = some (.float .f32 x)) (by kernel_rfl) (by refine ⟨?_, ?_⟩ <;> (go_simp; done)) (fun hHeld => ?_)
        refine wpAnyH_take (i := 0) (oi := { dst := some 17, op := Op.move (Operand.tmp 0), type := 42, pos := "exact.go:414", after := #[], guard := none }) (v := ?_) rfl (by kernel_rfl) (by kernel_rfl) (by kernel_rfl) (fun _ _ _ h => h) (Or.inl ⟨by rfl, ?_⟩) (by assumption) ?_
        rotate_left
        · intro wq hSw; (try dsimp only at hSw); go_simp; try (with_reducible rfl)
        try simp only [Act.put, List.setIfInBounds_toArray, List.set_cons_zero, List.set_cons_succ]
        refine wpAnyH_take (i := 1) (oi := { dst := some 18, op := Op.move (Operand.tmp 5), type := 3, pos := "exact.go:414", after := #[], guard := none }) (v := ?_) rfl (by kernel_rfl) (by kernel_rfl) (by kernel_rfl) (fun _ _ _ h => h) (Or.inl ⟨by rfl, ?_⟩) (by assumption) ?_
        rotate_left
        · intro wq hSw; (try dsimp only at hSw); go_simp; try (with_reducible rfl)
        try simp only [Act.put, List.setIfInBounds_toArray, List.set_cons_zero, List.set_cons_succ]
        refine wpAnyH_take (i := 2) (oi := { dst := some 19, op := Op.indexAddr 42 (Operand.tmp 17) (Operand.tmp 18), type := 0, pos := "exact.go:414", after := #[{ on := 0, ground := Ground.data }, { on := 1, ground := Ground.data }], guard := none }) (v := ?_) rfl (by kernel_rfl) (by kernel_rfl) (by kernel_rfl) (fun _ _ _ h => h) (Or.inl ⟨by rfl, ?_⟩) (by assumption) ?_
        rotate_left
        · intro wq hSw; (try dsimp only at hSw); go_simp; try (with_reducible rfl)
        try simp only [Act.put, List.setIfInBounds_toArray, List.set_cons_zero, List.set_cons_succ]
        refine wpAnyH_take (i := 3) (oi := { dst := some 20, op := Op.load 34 (Operand.tmp 19), type := 34, pos := "exact.go:414", after := #[{ on := 2, ground := Ground.data }], guard := none }) (v := ?_) rfl (by kernel_rfl) (by kernel_rfl) (by kernel_rfl) (fun _ _ _ h => h) (Or.inl ⟨by rfl, ?_⟩) (by assumption) ?_
        rotate_left
        · intro wq hSw; (try dsimp only at hSw); go_simp; try (with_reducible rfl)
        try simp only [Act.put, List.setIfInBounds_toArray, List.set_cons_zero, List.set_cons_succ]
        refine wpAnyH_take (i := 5) (oi := { dst := some 22, op := Op.move (Operand.tmp 1), type := 42, pos := "exact.go:414", after := #[], guard := none }) (v := ?_) rfl (by kernel_rfl) (by kernel_rfl) (by kernel_rfl) (fun _ _ _ h => h) (Or.inl ⟨by rfl, ?_⟩) (by assumption) ?_
        rotate_left
        · intro wq hSw; (try dsimp only at hSw); go_simp; try (with_reducible rfl)
        try simp only [Act.put, List.setIfInBounds_toArray, List.set_cons_zero, List.set_cons_succ]
        refine wpAnyH_take (i := 6) (oi := { dst := some 23, op := Op.move (Operand.tmp 5), type := 3, pos := "exact.go:414", after := #[], guard := none }) (v := ?_) rfl (by kernel_rfl) (by kernel_rfl) (by kernel_rfl) (fun _ _ _ h => h) (Or.inl ⟨by rfl, ?_⟩) (by assumption) ?_
        rotate_left
        · intro wq hSw; (try dsimp only at hSw); go_simp; try (with_reducible rfl)
        try simp only [Act.put, List.setIfInBounds_toArray, List.set_cons_zero, List.set_cons_succ]
        refine wpAnyH_take (i := 7) (oi := { dst := some 24, op := Op.indexAddr 42 (Operand.tmp 22) (Operand.tmp 23), type := 0, pos := "exact.go:414", after := #[{ on := 5, ground := Ground.data }, { on := 6, ground := Ground.data }], guard := none }) (v := ?_) rfl (by kernel_rfl) (by kernel_rfl) (by kernel_rfl) (fun _ _ _ h => h) (Or.inl ⟨by rfl, ?_⟩) (by assumption) ?_
        rotate_left
        · intro wq hSw; (try dsimp only at hSw); go_simp; try (with_reducible rfl)
        try simp only [Act.put, List.setIfInBounds_toArray, List.set_cons_zero, List.set_cons_succ]
        refine wpAnyH_take (i := 8) (oi := { dst := some 25, op := Op.load 34 (Operand.tmp 24), type := 34, pos := "exact.go:414", after := #[{ on := 7, ground := Ground.data }], guard := none }) (v := ?_) rfl (by kernel_rfl) (by kernel_rfl) (by kernel_rfl) (fun _ _ _ h => h) (Or.inl ⟨by rfl, ?_⟩) (by assumption) ?_
        rotate_left
        · intro wq hSw; (try dsimp only at hSw); go_simp; try (with_reducible rfl)
        try simp only [Act.put, List.setIfInBounds_toArray, List.set_cons_zero, List.set_cons_succ]
        refine wpAnyH_ready (rs := [4, 9]) (by kernel_rfl) (by simp) ?_
        refine AllReadyH.cons (o := { dst := some 21, op := Op.convert 34 47 (Operand.tmp 20), type := 47, pos := "exact.go:414", after := #[{ on := 3, ground := Ground.data }], guard := none }) rfl (fun K hK => ?_) ?_
        · go_simp
          refine hK.out _ _ (by refine ⟨?_, ?_⟩ <;> (go_simp; done)) (fun hHeld' => ?_)
          clear hK K hHeld; have hHeld := hHeld'; clear hHeld'
          try simp only [Act.put, List.setIfInBounds_toArray, List.set_cons_zero, List.set_cons_succ]
          refine wpAnyH_ready (rs := [9]) (by kernel_rfl) (by simp) ?_
          refine AllReadyH.cons (o := { dst := some 26, op := Op.convert 34 47 (Operand.tmp 25), type := 47, pos := "exact.go:414", after := #[{ on := 8, ground := Ground.data }], guard := none }) rfl (fun K hK => ?_) AllReadyH.nil
          go_simp
          refine hK.out _ _ (by refine ⟨?_, ?_⟩ <;> (go_simp; done)) (fun hHeld' => ?_)
          clear hK K hHeld; have hHeld := hHeld'; clear hHeld'
          try simp only [Act.put, List.setIfInBounds_toArray, List.set_cons_zero, List.set_cons_succ]
          refine wpAnyH_ready (rs := [10]) (by kernel_rfl) (by simp) ?_
          refine AllReadyH.cons (o := { dst := some 27, op := Op.call { callee := Callee.value (Operand.func 26), args := #[Operand.tmp 21, Operand.tmp 26], argTypes := #[47, 47] }, type := 4, pos := "exact.go:414", after := #[{ on := 4, ground := Ground.data }, { on := 9, ground := Ground.data }], guard := none }) rfl (fun K hK => ?_) AllReadyH.nil
          go_simp
          go_at_call 26
          (with_reducible refine (Y12.out _).mono ?_); rintro e w' ⟨rfl, rfl⟩
          refine hK.out _ _ hHeld (fun hHeld' => ?_)
          clear hK K hHeld; have hHeld := hHeld'; clear hHeld'
          try simp only [Act.put, List.setIfInBounds_toArray, List.set_cons_zero, List.set_cons_succ]
          refine wpAnyH_take (i := 11) (oi := { dst := some 28, op := Op.unOp UnOp.not 4 (Operand.tmp 27), type := 4, pos := "exact.go:414", after := #[{ on := 10, ground := Ground.data }], guard := none }) (v := ?_) rfl (by kernel_rfl) (by kernel_rfl) (by kernel_rfl) (fun _ _ _ h => h) (Or.inl ⟨by rfl, ?_⟩) (by assumption) ?_
          rotate_left
          · intro wq hSw; (try dsimp only at hSw); go_simp; try (with_reducible rfl)
          try simp only [Act.put, List.setIfInBounds_toArray, List.set_cons_zero, List.set_cons_succ]
          refine wpAnyH_done (by kernel_rfl) ?_ _
          go_wp2_with fail
          go_roundw
          case rel => exact ⟨k + 1, by omega, by go_num, (hN.drew).drew.drew⟩
          case measure => simp [intOf]; omega
        refine AllReadyH.cons (o := { dst := some 26, op := Op.convert 34 47 (Operand.tmp 25), type := 47, pos := "exact.go:414", after := #[{ on := 8, ground := Ground.data }], guard := none }) rfl (fun K hK => ?_) ?_
        · go_simp
          refine hK.out _ _ (by refine ⟨?_, ?_⟩ <;> (go_simp; done)) (fun hHeld' => ?_)
          clear hK K hHeld; have hHeld := hHeld'; clear hHeld'
          try simp only [Act.put, List.setIfInBounds_toArray, List.set_cons_zero, List.set_cons_succ]
          refine wpAnyH_ready (rs := [4]) (by kernel_rfl) (by simp) ?_
          refine AllReadyH.cons (o := { dst := some 21, op := Op.convert 34 47 (Operand.tmp 20), type := 47, pos := "exact.go:414", after := #[{ on := 3, ground := Ground.data }], guard := none }) rfl (fun K hK => ?_) AllReadyH.nil
          go_simp
          refine hK.out _ _ (by refine ⟨?_, ?_⟩ <;> (go_simp; done)) (fun hHeld' => ?_)
          clear hK K hHeld; have hHeld := hHeld'; clear hHeld'
          try simp only [Act.put, List.setIfInBounds_toArray, List.set_cons_zero, List.set_cons_succ]
          refine wpAnyH_ready (rs := [10]) (by kernel_rfl) (by simp) ?_
          refine AllReadyH.cons (o := { dst := some 27, op := Op.call { callee := Callee.value (Operand.func 26), args := #[Operand.tmp 21, Operand.tmp 26], argTypes := #[47, 47] }, type := 4, pos := "exact.go:414", after := #[{ on := 4, ground := Ground.data }, { on := 9, ground := Ground.data }], guard := none }) rfl (fun K hK => ?_) AllReadyH.nil
          go_simp
          go_at_call 26
          (with_reducible refine (Y21.out _).mono ?_); rintro e w' ⟨rfl, rfl⟩
          refine hK.out _ _ hHeld (fun hHeld' => ?_)
          clear hK K hHeld; have hHeld := hHeld'; clear hHeld'
          try simp only [Act.put, List.setIfInBounds_toArray, List.set_cons_zero, List.set_cons_succ]
          refine wpAnyH_take (i := 11) (oi := { dst := some 28, op := Op.unOp UnOp.not 4 (Operand.tmp 27), type := 4, pos := "exact.go:414", after := #[{ on := 10, ground := Ground.data }], guard := none }) (v := ?_) rfl (by kernel_rfl) (by kernel_rfl) (by kernel_rfl) (fun _ _ _ h => h) (Or.inl ⟨by rfl, ?_⟩) (by assumption) ?_
          rotate_left
          · intro wq hSw; (try dsimp only at hSw); go_simp; try (with_reducible rfl)
          try simp only [Act.put, List.setIfInBounds_toArray, List.set_cons_zero, List.set_cons_succ]
          refine wpAnyH_done (by kernel_rfl) ?_ _
          go_wp2_with fail
          go_roundw
          case rel => exact ⟨k + 1, by omega, by go_num, (hN.drew).drew.drew⟩
          case measure => simp [intOf]; omega
        exact AllReadyH.nil
    · have hkn : ¬ ((k : Int) < (n : Int)) := by omega
      go_wp2
      go_ret
      exact ⟨rfl, hN⟩
end Go.Proofs.Ytmbjomjpnfnbkaa
