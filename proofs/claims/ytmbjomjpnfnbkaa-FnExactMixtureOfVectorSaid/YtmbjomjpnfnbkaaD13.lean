/-
  Walks of the reference's MixtureOfVector.
-/
import Derived.Test.YtmbjomjpnfnbkaaP8
import Derived.Test.YtmbjomjpnfnbkaaA16
import Derived.Test.YtmbjomjpnfnbkaaD6
import Derived.Test.YtmbjomjpnfnbkaaD4
import Derived.Test.YtmbjomjpnfnbkaaE1
set_option linter.unusedSimpArgs false
set_option linter.unusedVariables false
namespace Go.Proofs.Ytmbjomjpnfnbkaa
open Go.RowKit Flt

theorem l02Fine_c (x y z : Nat) (w : World) :
    Calls Try.prog 108 #[V3 x y z] w fun e w' => e = .returned (.bool (fin S x && fin S y && fin S z)) ∧ New w w' := by
  cases hx : fin S x with
  | false =>
    have Hx := hid hx
    clear hx
    go_enter Try.func108, Try.ntmps108
    go_wp2_with fail
    refine (fine_any x _).mono ?_; rintro e w' ⟨rfl, n, rfl⟩; rw [Hx.out]
    go_wp2
    go_ret
    exact ⟨rfl, ((New.refl w).alloc _).drewN n⟩
  | true =>
    cases hy : fin S y with
    | false =>
      have Hx := hid hx
      have Hy := hid hy
      clear hx hy
      go_enter Try.func108, Try.ntmps108
      go_wp2_with fail
      refine (fine_any x _).mono ?_; rintro e w' ⟨rfl, n, rfl⟩; rw [Hx.out]
      go_wp2_with fail
      refine (fine_any y _).mono ?_; rintro e w' ⟨rfl, m, rfl⟩; rw [Hy.out]
      go_wp2
      go_ret
      exact ⟨rfl, ((New.refl w).alloc _).drewN _⟩
    | true =>
      have Hx := hid hx
      have Hy := hid hy
      clear hx hy
      go_enter Try.func108, Try.ntmps108
      go_wp2_with fail
      refine (fine_any x _).mono ?_; rintro e w' ⟨rfl, n, rfl⟩; rw [Hx.out]
      go_wp2_with fail
      refine (fine_any y _).mono ?_; rintro e w' ⟨rfl, m, rfl⟩; rw [Hy.out]
      go_wp2_with fail
      refine (fine_any z _).mono ?_; rintro e w' ⟨rfl, k, rfl⟩
      go_wp2
      go_ret
      exact ⟨ret_bool (by simp), ((New.refl w).alloc _).drewN _⟩

theorem l01Conj_c (p q : Nat) (w : World) :
    Calls Try.prog 151 #[.complex .f32 p q] w fun e w' => e = .returned (.complex .f32 p (ng q)) ∧ w = w' := by
  go_enter Try.func151, Try.ntmps151
  go_wp2
  go_ret; exact ⟨rfl, rfl⟩

set_option maxHeartbeats 1000000 in
theorem l06Make_c (a d p q : Nat) (w : World) :
    Calls Try.prog 109 #[.float .f32 a, .float .f32 d, .complex .f32 p q] w fun e w' => e = .returned (T4 a 0 p (ng q) p q d 0) ∧ New w w' := by
  go_enter Try.func109, Try.ntmps109
  go_wp2_with fail
  refine (l01Conj_c p q _).mono ?_; rintro e w' ⟨rfl, rfl⟩
  go_wp2
  refine bodyPost_ret (v := T4 a 0 p (ng q) p q d 0) (by simp [results, Try.results109, go_sem]) rfl ⟨rfl, ?_⟩
  repeat (with_reducible first | exact New.refl w | apply New.alloc | apply New.drew)

theorem isTableS_c (t : C8) (w : World) (h : Fw8 t) :
    Calls Try.prog 152 #[t.val] w fun e w' => e = .returned (.bool true) ∧ New w w' := by
  have C := fun w => l03Is_c t w h
  clear h
  go_enter Try.func152, Try.ntmps152
  go_wp2_with fail
  refine (C _).mono ?_; rintro e w1 ⟨rfl, hN⟩
  go_wp2
  go_ret
  exact ⟨rfl, ((New.refl w).alloc _).trans hN⟩

theorem order_self32 {x : Nat} (h : fin S x = true) : FloatKind.f32.format.order x x = some .eq := by
  show S.order x x = _
  rw [order_fin S h h, if_neg (by grind), if_pos rfl]
theorem fw0' : FW 0 := ⟨by decide, fin0⟩
theorem tabX_fw {a d p q : Nat} (ha : FW a) (hd : FW d) (hp : FW p) (hq : FW q) : Fw8 (tabX a d p q) :=
  ⟨ha, fw0', hp, ⟨ng_lt hq.1, hq.ng⟩, hp, hq, hd, fw0'⟩

set_option maxHeartbeats 2000000 in
theorem l06Is_c (a d p q : Nat) (w : World) (ha : FW a) (hd : FW d) (hp : FW p) (hq : FW q) :
    Calls Try.prog 110 #[T4 a 0 p (ng q) p q d 0] w fun e w' => e = .returned (.bool (geB a && geB d)) ∧ New w w' := by
  have C' : ∀ w, Calls Try.prog 152 #[T4 a 0 p (ng q) p q d 0] w fun e w' => e = .returned (.bool true) ∧ New w w' := fun w => isTableS_c (tabX a d p q) w (tabX_fw ha hd hp hq)
  have C := hid C'
  clear C'
  have o0 : FloatKind.f32.format.order 0 0 = some .eq := order_self32 fin0
  have op := order_self32 hp.2
  have oq := order_self32 hq.ng
  have fa := ha.2
  have fd := hd.2
  clear ha hd hp hq
  cases h1 : geB a with
  | false =>
    have o1 := geB_false fa h1
    clear h1 fa fd
    go_enter Try.func110, Try.ntmps110
    go_wp2_with fail
    refine wp_region_held_drew (S := fun w' => w'.cell? ⟨w.heap.size, 0, none⟩ = some (.complex .f32 a 0) ∧ w'.cell? ⟨w.heap.size, 1, none⟩ = some (.complex .f32 p (ng q)) ∧ w'.cell? ⟨w.heap.size, 2, none⟩ = some (.complex .f32 p q) ∧ w'.cell? ⟨w.heap.size, 3, none⟩ = some (.complex .f32 d 0)) (by kernel_rfl) (by refine ⟨?_, ?_, ?_, ?_⟩ <;> (go_simp; done)) (fun hHeld => ?_)
    refine wpAnyH_take (i := 0) (oi := { dst := some 3, op := Op.load 26 (Operand.tmp 1), type := 26, pos := "l06_mixtures.go:7", after := #[], guard := none }) (v := ?_) rfl (by kernel_rfl) (by kernel_rfl) (by kernel_rfl) (fun _ _ _ h => h) (Or.inl ⟨by rfl, ?_⟩) (by assumption) ?_
    rotate_left
    · intro wq hSw; (try dsimp only at hSw); go_simp; try (with_reducible rfl)
    try simp only [Act.put, List.setIfInBounds_toArray, List.set_cons_zero, List.set_cons_succ]
    refine wpAnyH_ready (rs := [1]) (by kernel_rfl) (by simp) ?_
    refine AllReadyH.cons (o := { dst := some 4, op := Op.call { callee := Callee.value (Operand.func 152), args := #[Operand.tmp 3], argTypes := #[26] }, type := 4, pos := "l06_mixtures.go:7", after := #[{ on := 0, ground := Ground.data }], guard := none }) rfl (fun K hK => ?_) AllReadyH.nil
    go_simp
    go_at_call 152
    with_reducible refine (C.out _).mono ?_; rintro e w1 ⟨rfl, hN⟩
    have c0 := hN.cell_at (k := w.heap.size) (o := 0) (v := .complex .f32 a 0) (by go_simp)
    have c1 := hN.cell_at (k := w.heap.size) (o := 1) (v := .complex .f32 p (ng q)) (by go_simp)
    have c2 := hN.cell_at (k := w.heap.size) (o := 2) (v := .complex .f32 p q) (by go_simp)
    have c3 := hN.cell_at (k := w.heap.size) (o := 3) (v := .complex .f32 d 0) (by go_simp)
    refine hK.out _ _ ⟨c0, c1, c2, c3⟩ (fun hHeld' => ?_)
    clear hK K hHeld; have hHeld := hHeld'; clear hHeld'
    try simp only [Act.put, List.setIfInBounds_toArray, List.set_cons_zero, List.set_cons_succ]
    refine wpAnyH_take (i := 2) (oi := { dst := some 5, op := Op.move (Operand.tmp 4), type := 4, pos := "l06_mixtures.go:7", after := #[{ on := 1, ground := Ground.data }, { on := 1, ground := Ground.chain }], guard := none }) (v := ?_) rfl (by kernel_rfl) (by kernel_rfl) (by kernel_rfl) (fun _ _ _ h => h) (Or.inl ⟨by rfl, ?_⟩) (by assumption) ?_
    rotate_left
    · intro wq hSw; (try dsimp only at hSw); go_simp; try (with_reducible rfl)
    try simp only [Act.put, List.setIfInBounds_toArray, List.set_cons_zero, List.set_cons_succ]
    refine wpAnyH_take (i := 3) (oi := { dst := some 6, op := Op.indexAddr 26 (Operand.tmp 1) (Operand.const (Value.int IntKind.i64 0)), type := 0, pos := "l06_mixtures.go:7", after := #[{ on := 2, ground := Ground.guard }], guard := some (2, true) }) (v := ?_) rfl (by kernel_rfl) (by kernel_rfl) (by kernel_rfl) (fun _ _ _ h => h) (Or.inl ⟨by rfl, ?_⟩) (by assumption) ?_
    rotate_left
    · intro wq hSw; (try dsimp only at hSw); go_simp; try (with_reducible rfl)
    try simp only [Act.put, List.setIfInBounds_toArray, List.set_cons_zero, List.set_cons_succ]
    refine wpAnyH_take (i := 4) (oi := { dst := some 7, op := Op.indexAddr 23 (Operand.tmp 6) (Operand.const (Value.int IntKind.i64 0)), type := 0, pos := "l06_mixtures.go:7", after := #[{ on := 3, ground := Ground.data }, { on := 2, ground := Ground.guard }], guard := some (2, true) }) (v := ?_) rfl (by kernel_rfl) (by kernel_rfl) (by kernel_rfl) (fun _ _ _ h => h) (Or.inl ⟨by rfl, ?_⟩) (by assumption) ?_
    rotate_left
    · intro wq hSw; (try dsimp only at hSw); go_simp; try (with_reducible rfl)
    try simp only [Act.put, List.setIfInBounds_toArray, List.set_cons_zero, List.set_cons_succ]
    refine wpAnyH_take (i := 5) (oi := { dst := some 8, op := Op.load 22 (Operand.tmp 7), type := 22, pos := "l06_mixtures.go:7", after := #[{ on := 4, ground := Ground.data }, { on := 2, ground := Ground.guard }], guard := some (2, true) }) (v := ?_) rfl (by kernel_rfl) (by kernel_rfl) (by kernel_rfl) (fun _ _ _ h => h) (Or.inl ⟨by rfl, ?_⟩) (by assumption) ?_
    rotate_left
    · intro wq hSw; (try dsimp only at hSw); go_simp; try (with_reducible rfl)
    try simp only [Act.put, List.setIfInBounds_toArray, List.set_cons_zero, List.set_cons_succ]
    refine wpAnyH_take (i := 6) (oi := { dst := some 9, op := Op.call { callee := Callee.builtin Builtin.imag, args := #[Operand.tmp 8], argTypes := #[22] }, type := 34, pos := "l06_mixtures.go:7", after := #[{ on := 5, ground := Ground.data }, { on := 2, ground := Ground.guard }], guard := some (2, true) }) (v := ?_) rfl (by kernel_rfl) (by kernel_rfl) (by kernel_rfl) (fun _ _ _ h => h) (Or.inl ⟨by rfl, ?_⟩) (by assumption) ?_
    rotate_left
    · intro wq hSw; (try dsimp only at hSw); go_simp; try (with_reducible rfl)
    try simp only [Act.put, List.setIfInBounds_toArray, List.set_cons_zero, List.set_cons_succ]
    refine wpAnyH_take (i := 7) (oi := { dst := some 10, op := Op.binOp BinOp.eql 34 (Operand.tmp 9) (Operand.const (Value.float FloatKind.f32 0)) 34, type := 4, pos := "l06_mixtures.go:7", after := #[{ on := 6, ground := Ground.data }, { on := 2, ground := Ground.guard }], guard := some (2, true) }) (v := ?_) rfl (by kernel_rfl) (by kernel_rfl) (by kernel_rfl) (fun _ _ _ h => h) (Or.inl ⟨by rfl, ?_⟩) (by assumption) ?_
    rotate_left
    · intro wq hSw; (try dsimp only at hSw); go_simp; try (with_reducible rfl)
    try simp only [Act.put, List.setIfInBounds_toArray, List.set_cons_zero, List.set_cons_succ]
    refine wpAnyH_take (i := 8) (oi := { dst := some 11, op := Op.pick (Operand.tmp 5) (Operand.tmp 10) (Operand.const (Value.bool false)), type := 4, pos := "l06_mixtures.go:7", after := #[{ on := 2, ground := Ground.data }, { on := 7, ground := Ground.data }], guard := none }) (v := ?_) rfl (by kernel_rfl) (by kernel_rfl) (by kernel_rfl) (fun _ _ _ h => h) (Or.inl ⟨by rfl, ?_⟩) (by assumption) ?_
    rotate_left
    · intro wq hSw; (try dsimp only at hSw); go_simp; try (with_reducible rfl)
    try simp only [Act.put, List.setIfInBounds_toArray, List.set_cons_zero, List.set_cons_succ]
    refine wpAnyH_take (i := 9) (oi := { dst := some 12, op := Op.move (Operand.tmp 11), type := 4, pos := "l06_mixtures.go:7", after := #[{ on := 8, ground := Ground.data }, { on := 2, ground := Ground.chain }], guard := none }) (v := ?_) rfl (by kernel_rfl) (by kernel_rfl) (by kernel_rfl) (fun _ _ _ h => h) (Or.inl ⟨by rfl, ?_⟩) (by assumption) ?_
    rotate_left
    · intro wq hSw; (try dsimp only at hSw); go_simp; try (with_reducible rfl)
    try simp only [Act.put, List.setIfInBounds_toArray, List.set_cons_zero, List.set_cons_succ]
    refine wpAnyH_take (i := 10) (oi := { dst := some 13, op := Op.indexAddr 26 (Operand.tmp 1) (Operand.const (Value.int IntKind.i64 1)), type := 0, pos := "l06_mixtures.go:7", after := #[{ on := 9, ground := Ground.guard }], guard := some (9, true) }) (v := ?_) rfl (by kernel_rfl) (by kernel_rfl) (by kernel_rfl) (fun _ _ _ h => h) (Or.inl ⟨by rfl, ?_⟩) (by assumption) ?_
    rotate_left
    · intro wq hSw; (try dsimp only at hSw); go_simp; try (with_reducible rfl)
    try simp only [Act.put, List.setIfInBounds_toArray, List.set_cons_zero, List.set_cons_succ]
    refine wpAnyH_take (i := 11) (oi := { dst := some 14, op := Op.indexAddr 23 (Operand.tmp 13) (Operand.const (Value.int IntKind.i64 1)), type := 0, pos := "l06_mixtures.go:7", after := #[{ on := 10, ground := Ground.data }, { on := 9, ground := Ground.guard }], guard := some (9, true) }) (v := ?_) rfl (by kernel_rfl) (by kernel_rfl) (by kernel_rfl) (fun _ _ _ h => h) (Or.inl ⟨by rfl, ?_⟩) (by assumption) ?_
    rotate_left
    · intro wq hSw; (try dsimp only at hSw); go_simp; try (with_reducible rfl)
    try simp only [Act.put, List.setIfInBounds_toArray, List.set_cons_zero, List.set_cons_succ]
    refine wpAnyH_take (i := 12) (oi := { dst := some 15, op := Op.load 22 (Operand.tmp 14), type := 22, pos := "l06_mixtures.go:7", after := #[{ on := 11, ground := Ground.data }, { on := 9, ground := Ground.guard }], guard := some (9, true) }) (v := ?_) rfl (by kernel_rfl) (by kernel_rfl) (by kernel_rfl) (fun _ _ _ h => h) (Or.inl ⟨by rfl, ?_⟩) (by assumption) ?_
    rotate_left
    · intro wq hSw; (try dsimp only at hSw); go_simp; try (with_reducible rfl)
    try simp only [Act.put, List.setIfInBounds_toArray, List.set_cons_zero, List.set_cons_succ]
    refine wpAnyH_take (i := 13) (oi := { dst := some 16, op := Op.call { callee := Callee.builtin Builtin.imag, args := #[Operand.tmp 15], argTypes := #[22] }, type := 34, pos := "l06_mixtures.go:7", after := #[{ on := 12, ground := Ground.data }, { on := 9, ground := Ground.guard }], guard := some (9, true) }) (v := ?_) rfl (by kernel_rfl) (by kernel_rfl) (by kernel_rfl) (fun _ _ _ h => h) (Or.inl ⟨by rfl, ?_⟩) (by assumption) ?_
    rotate_left
    · intro wq hSw; (try dsimp only at hSw); go_simp; try (with_reducible rfl)
    try simp only [Act.put, List.setIfInBounds_toArray, List.set_cons_zero, List.set_cons_succ]
    refine wpAnyH_take (i := 14) (oi := { dst := some 17, op := Op.binOp BinOp.eql 34 (Operand.tmp 16) (Operand.const (Value.float FloatKind.f32 0)) 34, type := 4, pos := "l06_mixtures.go:7", after := #[{ on := 13, ground := Ground.data }, { on := 9, ground := Ground.guard }], guard := some (9, true) }) (v := ?_) rfl (by kernel_rfl) (by kernel_rfl) (by kernel_rfl) (fun _ _ _ h => h) (Or.inl ⟨by rfl, ?_⟩) (by assumption) ?_
    rotate_left
    · intro wq hSw; (try dsimp only at hSw); go_simp; try (with_reducible rfl)
    try simp only [Act.put, List.setIfInBounds_toArray, List.set_cons_zero, List.set_cons_succ]
    refine wpAnyH_take (i := 15) (oi := { dst := some 18, op := Op.pick (Operand.tmp 12) (Operand.tmp 17) (Operand.const (Value.bool false)), type := 4, pos := "l06_mixtures.go:7", after := #[{ on := 9, ground := Ground.data }, { on := 14, ground := Ground.data }], guard := none }) (v := ?_) rfl (by kernel_rfl) (by kernel_rfl) (by kernel_rfl) (fun _ _ _ h => h) (Or.inl ⟨by rfl, ?_⟩) (by assumption) ?_
    rotate_left
    · intro wq hSw; (try dsimp only at hSw); go_simp; try (with_reducible rfl)
    try simp only [Act.put, List.setIfInBounds_toArray, List.set_cons_zero, List.set_cons_succ]
    refine wpAnyH_take (i := 16) (oi := { dst := some 19, op := Op.move (Operand.tmp 18), type := 4, pos := "l06_mixtures.go:7", after := #[{ on := 15, ground := Ground.data }, { on := 9, ground := Ground.chain }], guard := none }) (v := ?_) rfl (by kernel_rfl) (by kernel_rfl) (by kernel_rfl) (fun _ _ _ h => h) (Or.inl ⟨by rfl, ?_⟩) (by assumption) ?_
    rotate_left
    · intro wq hSw; (try dsimp only at hSw); go_simp; try (with_reducible rfl)
    try simp only [Act.put, List.setIfInBounds_toArray, List.set_cons_zero, List.set_cons_succ]
    refine wpAnyH_take (i := 17) (oi := { dst := some 20, op := Op.indexAddr 26 (Operand.tmp 1) (Operand.const (Value.int IntKind.i64 0)), type := 0, pos := "l06_mixtures.go:7", after := #[{ on := 16, ground := Ground.guard }], guard := some (16, true) }) (v := ?_) rfl (by kernel_rfl) (by kernel_rfl) (by kernel_rfl) (fun _ _ _ h => h) (Or.inl ⟨by rfl, ?_⟩) (by assumption) ?_
    rotate_left
    · intro wq hSw; (try dsimp only at hSw); go_simp; try (with_reducible rfl)
    try simp only [Act.put, List.setIfInBounds_toArray, List.set_cons_zero, List.set_cons_succ]
    refine wpAnyH_take (i := 18) (oi := { dst := some 21, op := Op.indexAddr 23 (Operand.tmp 20) (Operand.const (Value.int IntKind.i64 0)), type := 0, pos := "l06_mixtures.go:7", after := #[{ on := 17, ground := Ground.data }, { on := 16, ground := Ground.guard }], guard := some (16, true) }) (v := ?_) rfl (by kernel_rfl) (by kernel_rfl) (by kernel_rfl) (fun _ _ _ h => h) (Or.inl ⟨by rfl, ?_⟩) (by assumption) ?_
    rotate_left
    · intro wq hSw; (try dsimp only at hSw); go_simp; try (with_reducible rfl)
    try simp only [Act.put, List.setIfInBounds_toArray, List.set_cons_zero, List.set_cons_succ]
    refine wpAnyH_take (i := 19) (oi := { dst := some 22, op := Op.load 22 (Operand.tmp 21), type := 22, pos := "l06_mixtures.go:7", after := #[{ on := 18, ground := Ground.data }, { on := 16, ground := Ground.guard }], guard := some (16, true) }) (v := ?_) rfl (by kernel_rfl) (by kernel_rfl) (by kernel_rfl) (fun _ _ _ h => h) (Or.inl ⟨by rfl, ?_⟩) (by assumption) ?_
    rotate_left
    · intro wq hSw; (try dsimp only at hSw); go_simp; try (with_reducible rfl)
    try simp only [Act.put, List.setIfInBounds_toArray, List.set_cons_zero, List.set_cons_succ]
    refine wpAnyH_take (i := 20) (oi := { dst := some 23, op := Op.call { callee := Callee.builtin Builtin.real, args := #[Operand.tmp 22], argTypes := #[22] }, type := 34, pos := "l06_mixtures.go:7", after := #[{ on := 19, ground := Ground.data }, { on := 16, ground := Ground.guard }], guard := some (16, true) }) (v := ?_) rfl (by kernel_rfl) (by kernel_rfl) (by kernel_rfl) (fun _ _ _ h => h) (Or.inl ⟨by rfl, ?_⟩) (by assumption) ?_
    rotate_left
    · intro wq hSw; (try dsimp only at hSw); go_simp; try (with_reducible rfl)
    try simp only [Act.put, List.setIfInBounds_toArray, List.set_cons_zero, List.set_cons_succ]
    refine wpAnyH_take (i := 21) (oi := { dst := some 24, op := Op.binOp BinOp.geq 34 (Operand.tmp 23) (Operand.const (Value.float FloatKind.f32 0)) 34, type := 4, pos := "l06_mixtures.go:7", after := #[{ on := 20, ground := Ground.data }, { on := 16, ground := Ground.guard }], guard := some (16, true) }) (v := ?_) rfl (by kernel_rfl) (by kernel_rfl) (by kernel_rfl) (fun _ _ _ h => h) (Or.inl ⟨by rfl, ?_⟩) (by assumption) ?_
    rotate_left
    · intro wq hSw; (try dsimp only at hSw); go_simp; try (with_reducible rfl)
    try simp only [Act.put, List.setIfInBounds_toArray, List.set_cons_zero, List.set_cons_succ]
    refine wpAnyH_take (i := 22) (oi := { dst := some 25, op := Op.pick (Operand.tmp 19) (Operand.tmp 24) (Operand.const (Value.bool false)), type := 4, pos := "l06_mixtures.go:7", after := #[{ on := 16, ground := Ground.data }, { on := 21, ground := Ground.data }], guard := none }) (v := ?_) rfl (by kernel_rfl) (by kernel_rfl) (by kernel_rfl) (fun _ _ _ h => h) (Or.inl ⟨by rfl, ?_⟩) (by assumption) ?_
    rotate_left
    · intro wq hSw; (try dsimp only at hSw); go_simp; try (with_reducible rfl)
    try simp only [Act.put, List.setIfInBounds_toArray, List.set_cons_zero, List.set_cons_succ]
    refine wpAnyH_take (i := 23) (oi := { dst := some 26, op := Op.move (Operand.tmp 25), type := 4, pos := "l06_mixtures.go:7", after := #[{ on := 22, ground := Ground.data }, { on := 16, ground := Ground.chain }], guard := none }) (v := ?_) rfl (by kernel_rfl) (by kernel_rfl) (by kernel_rfl) (fun _ _ _ h => h) (Or.inl ⟨by rfl, ?_⟩) (by assumption) ?_
    rotate_left
    · intro wq hSw; (try dsimp only at hSw); go_simp; try (with_reducible rfl)
    try simp only [Act.put, List.setIfInBounds_toArray, List.set_cons_zero, List.set_cons_succ]
    refine wpAnyH_take (i := 24) (oi := { dst := some 27, op := Op.indexAddr 26 (Operand.tmp 1) (Operand.const (Value.int IntKind.i64 1)), type := 0, pos := "l06_mixtures.go:7", after := #[{ on := 23, ground := Ground.guard }], guard := some (23, true) }) (v := undef) rfl (by kernel_rfl) (by kernel_rfl) (by kernel_rfl) (fun _ _ _ h => h) (Or.inr ⟨by rfl, rfl⟩) (by assumption) ?_
    try simp only [Act.put, List.setIfInBounds_toArray, List.set_cons_zero, List.set_cons_succ]
    refine wpAnyH_take (i := 25) (oi := { dst := some 28, op := Op.indexAddr 23 (Operand.tmp 27) (Operand.const (Value.int IntKind.i64 1)), type := 0, pos := "l06_mixtures.go:7", after := #[{ on := 24, ground := Ground.data }, { on := 23, ground := Ground.guard }], guard := some (23, true) }) (v := undef) rfl (by kernel_rfl) (by kernel_rfl) (by kernel_rfl) (fun _ _ _ h => h) (Or.inr ⟨by rfl, rfl⟩) (by assumption) ?_
    try simp only [Act.put, List.setIfInBounds_toArray, List.set_cons_zero, List.set_cons_succ]
    refine wpAnyH_take (i := 26) (oi := { dst := some 29, op := Op.load 22 (Operand.tmp 28), type := 22, pos := "l06_mixtures.go:7", after := #[{ on := 25, ground := Ground.data }, { on := 23, ground := Ground.guard }], guard := some (23, true) }) (v := undef) rfl (by kernel_rfl) (by kernel_rfl) (by kernel_rfl) (fun _ _ _ h => h) (Or.inr ⟨by rfl, rfl⟩) (by assumption) ?_
    try simp only [Act.put, List.setIfInBounds_toArray, List.set_cons_zero, List.set_cons_succ]
    refine wpAnyH_take (i := 27) (oi := { dst := some 30, op := Op.call { callee := Callee.builtin Builtin.real, args := #[Operand.tmp 29], argTypes := #[22] }, type := 34, pos := "l06_mixtures.go:7", after := #[{ on := 26, ground := Ground.data }, { on := 23, ground := Ground.guard }], guard := some (23, true) }) (v := undef) rfl (by kernel_rfl) (by kernel_rfl) (by kernel_rfl) (fun _ _ _ h => h) (Or.inr ⟨by rfl, rfl⟩) (by assumption) ?_
    try simp only [Act.put, List.setIfInBounds_toArray, List.set_cons_zero, List.set_cons_succ]
    refine wpAnyH_take (i := 28) (oi := { dst := some 31, op := Op.binOp BinOp.geq 34 (Operand.tmp 30) (Operand.const (Value.float FloatKind.f32 0)) 34, type := 4, pos := "l06_mixtures.go:7", after := #[{ on := 27, ground := Ground.data }, { on := 23, ground := Ground.guard }], guard := some (23, true) }) (v := undef) rfl (by kernel_rfl) (by kernel_rfl) (by kernel_rfl) (fun _ _ _ h => h) (Or.inr ⟨by rfl, rfl⟩) (by assumption) ?_
    try simp only [Act.put, List.setIfInBounds_toArray, List.set_cons_zero, List.set_cons_succ]
    refine wpAnyH_take (i := 29) (oi := { dst := some 32, op := Op.pick (Operand.tmp 26) (Operand.tmp 31) (Operand.const (Value.bool false)), type := 4, pos := "l06_mixtures.go:7", after := #[{ on := 23, ground := Ground.data }, { on := 28, ground := Ground.data }], guard := none }) (v := ?_) rfl (by kernel_rfl) (by kernel_rfl) (by kernel_rfl) (fun _ _ _ h => h) (Or.inl ⟨by rfl, ?_⟩) (by assumption) ?_
    rotate_left
    · intro wq hSw; (try dsimp only at hSw); go_simp; try (with_reducible rfl)
    try simp only [Act.put, List.setIfInBounds_toArray, List.set_cons_zero, List.set_cons_succ]
    refine wpAnyH_take (i := 30) (oi := { dst := some 33, op := Op.move (Operand.tmp 32), type := 4, pos := "l06_mixtures.go:7", after := #[{ on := 29, ground := Ground.data }, { on := 23, ground := Ground.chain }], guard := none }) (v := ?_) rfl (by kernel_rfl) (by kernel_rfl) (by kernel_rfl) (fun _ _ _ h => h) (Or.inl ⟨by rfl, ?_⟩) (by assumption) ?_
    rotate_left
    · intro wq hSw; (try dsimp only at hSw); go_simp; try (with_reducible rfl)
    try simp only [Act.put, List.setIfInBounds_toArray, List.set_cons_zero, List.set_cons_succ]
    refine wpAnyH_take (i := 31) (oi := { dst := some 34, op := Op.indexAddr 26 (Operand.tmp 1) (Operand.const (Value.int IntKind.i64 0)), type := 0, pos := "l06_mixtures.go:7", after := #[{ on := 30, ground := Ground.guard }], guard := some (30, true) }) (v := undef) rfl (by kernel_rfl) (by kernel_rfl) (by kernel_rfl) (fun _ _ _ h => h) (Or.inr ⟨by rfl, rfl⟩) (by assumption) ?_
    try simp only [Act.put, List.setIfInBounds_toArray, List.set_cons_zero, List.set_cons_succ]
    refine wpAnyH_take (i := 32) (oi := { dst := some 35, op := Op.indexAddr 23 (Operand.tmp 34) (Operand.const (Value.int IntKind.i64 1)), type := 0, pos := "l06_mixtures.go:7", after := #[{ on := 31, ground := Ground.data }, { on := 30, ground := Ground.guard }], guard := some (30, true) }) (v := undef) rfl (by kernel_rfl) (by kernel_rfl) (by kernel_rfl) (fun _ _ _ h => h) (Or.inr ⟨by rfl, rfl⟩) (by assumption) ?_
    try simp only [Act.put, List.setIfInBounds_toArray, List.set_cons_zero, List.set_cons_succ]
    refine wpAnyH_take (i := 33) (oi := { dst := some 36, op := Op.load 22 (Operand.tmp 35), type := 22, pos := "l06_mixtures.go:7", after := #[{ on := 32, ground := Ground.data }, { on := 30, ground := Ground.guard }], guard := some (30, true) }) (v := undef) rfl (by kernel_rfl) (by kernel_rfl) (by kernel_rfl) (fun _ _ _ h => h) (Or.inr ⟨by rfl, rfl⟩) (by assumption) ?_
    try simp only [Act.put, List.setIfInBounds_toArray, List.set_cons_zero, List.set_cons_succ]
    refine wpAnyH_take (i := 34) (oi := { dst := some 37, op := Op.indexAddr 26 (Operand.tmp 1) (Operand.const (Value.int IntKind.i64 1)), type := 0, pos := "l06_mixtures.go:7", after := #[{ on := 30, ground := Ground.guard }], guard := some (30, true) }) (v := undef) rfl (by kernel_rfl) (by kernel_rfl) (by kernel_rfl) (fun _ _ _ h => h) (Or.inr ⟨by rfl, rfl⟩) (by assumption) ?_
    try simp only [Act.put, List.setIfInBounds_toArray, List.set_cons_zero, List.set_cons_succ]
    refine wpAnyH_take (i := 35) (oi := { dst := some 38, op := Op.indexAddr 23 (Operand.tmp 37) (Operand.const (Value.int IntKind.i64 0)), type := 0, pos := "l06_mixtures.go:7", after := #[{ on := 34, ground := Ground.data }, { on := 30, ground := Ground.guard }], guard := some (30, true) }) (v := undef) rfl (by kernel_rfl) (by kernel_rfl) (by kernel_rfl) (fun _ _ _ h => h) (Or.inr ⟨by rfl, rfl⟩) (by assumption) ?_
    try simp only [Act.put, List.setIfInBounds_toArray, List.set_cons_zero, List.set_cons_succ]
    refine wpAnyH_take (i := 36) (oi := { dst := some 39, op := Op.load 22 (Operand.tmp 38), type := 22, pos := "l06_mixtures.go:7", after := #[{ on := 35, ground := Ground.data }, { on := 30, ground := Ground.guard }], guard := some (30, true) }) (v := undef) rfl (by kernel_rfl) (by kernel_rfl) (by kernel_rfl) (fun _ _ _ h => h) (Or.inr ⟨by rfl, rfl⟩) (by assumption) ?_
    try simp only [Act.put, List.setIfInBounds_toArray, List.set_cons_zero, List.set_cons_succ]
    refine wpAnyH_take (i := 37) (oi := { dst := some 40, op := Op.call { callee := Callee.value (Operand.func 151), args := #[Operand.tmp 39], argTypes := #[22] }, type := 22, pos := "l06_mixtures.go:7", after := #[{ on := 36, ground := Ground.data }, { on := 30, ground := Ground.chain }, { on := 30, ground := Ground.guard }], guard := some (30, true) }) (v := undef) rfl (by kernel_rfl) (by kernel_rfl) (by kernel_rfl) (fun _ _ _ h => h) (Or.inr ⟨by rfl, rfl⟩) (by assumption) ?_
    try simp only [Act.put, List.setIfInBounds_toArray, List.set_cons_zero, List.set_cons_succ]
    refine wpAnyH_take (i := 38) (oi := { dst := some 41, op := Op.binOp BinOp.eql 22 (Operand.tmp 36) (Operand.tmp 40) 22, type := 4, pos := "l06_mixtures.go:7", after := #[{ on := 33, ground := Ground.data }, { on := 37, ground := Ground.data }, { on := 30, ground := Ground.guard }], guard := some (30, true) }) (v := undef) rfl (by kernel_rfl) (by kernel_rfl) (by kernel_rfl) (fun _ _ _ h => h) (Or.inr ⟨by rfl, rfl⟩) (by assumption) ?_
    try simp only [Act.put, List.setIfInBounds_toArray, List.set_cons_zero, List.set_cons_succ]
    refine wpAnyH_take (i := 39) (oi := { dst := some 42, op := Op.pick (Operand.tmp 33) (Operand.tmp 41) (Operand.const (Value.bool false)), type := 4, pos := "l06_mixtures.go:7", after := #[{ on := 30, ground := Ground.data }, { on := 38, ground := Ground.data }], guard := none }) (v := ?_) rfl (by kernel_rfl) (by kernel_rfl) (by kernel_rfl) (fun _ _ _ h => h) (Or.inl ⟨by rfl, ?_⟩) (by assumption) ?_
    rotate_left
    · intro wq hSw; (try dsimp only at hSw); go_simp; try (with_reducible rfl)
    try simp only [Act.put, List.setIfInBounds_toArray, List.set_cons_zero, List.set_cons_succ]
    refine wpAnyH_take (i := 40) (oi := { dst := some 2, op := Op.assign (Operand.tmp 42), type := 4, pos := "l06_mixtures.go:7", after := #[{ on := 39, ground := Ground.data }, { on := 37, ground := Ground.chain }, { on := 0, ground := Ground.phase }, { on := 1, ground := Ground.phase }, { on := 2, ground := Ground.phase }, { on := 3, ground := Ground.phase }, { on := 4, ground := Ground.phase }, { on := 5, ground := Ground.phase }, { on := 6, ground := Ground.phase }, { on := 7, ground := Ground.phase }, { on := 8, ground := Ground.phase }, { on := 9, ground := Ground.phase }, { on := 10, ground := Ground.phase }, { on := 11, ground := Ground.phase }, { on := 12, ground := Ground.phase }, { on := 13, ground := Ground.phase }, { on := 14, ground := Ground.phase }, { on := 15, ground := Ground.phase }, { on := 16, ground := Ground.phase }, { on := 17, ground := Ground.phase }, { on := 18, ground := Ground.phase }, { on := 19, ground := Ground.phase }, { on := 20, ground := Ground.phase }, { on := 21, ground := Ground.phase }, { on := 22, ground := Ground.phase }, { on := 23, ground := Ground.phase }, { on := 24, ground := Ground.phase }, { on := 25, ground := Ground.phase }, { on := 26, ground := Ground.phase }, { on := 27, ground := Ground.phase }, { on := 28, ground := Ground.phase }, { on := 29, ground := Ground.phase }, { on := 30, ground := Ground.phase }, { on := 31, ground := Ground.phase }, { on := 32, ground := Ground.phase }, { on := 33, ground := Ground.phase }, { on := 34, ground := Ground.phase }, { on := 35, ground := Ground.phase }, { on := 36, ground := Ground.phase }, { on := 37, ground := Ground.phase }, { on := 38, ground := Ground.phase }, { on := 39, ground := Ground.phase }], guard := none }) (v := ?_) rfl (by kernel_rfl) (by kernel_rfl) (by kernel_rfl) (fun _ _ _ h => h) (Or.inl ⟨by rfl, ?_⟩) (by assumption) ?_
    rotate_left
    · intro wq hSw; (try dsimp only at hSw); go_simp; try (with_reducible rfl)
    try simp only [Act.put, List.setIfInBounds_toArray, List.set_cons_zero, List.set_cons_succ]
    refine wpAnyH_done (by kernel_rfl) ?_ _
    go_wp2
    go_ret
    exact ⟨rfl, (((New.refl w).alloc _).drew).trans hN⟩
  | true =>
    cases h2 : geB d with
    | false =>
      have o2 := geB_false fd h2
      rcases geB_true h1 with o1 | o1
      all_goals
        clear h1 h2 fa fd
        go_enter Try.func110, Try.ntmps110
        go_wp2_with fail
        refine wp_region_held_drew (S := fun w' => w'.cell? ⟨w.heap.size, 0, none⟩ = some (.complex .f32 a 0) ∧ w'.cell? ⟨w.heap.size, 1, none⟩ = some (.complex .f32 p (ng q)) ∧ w'.cell? ⟨w.heap.size, 2, none⟩ = some (.complex .f32 p q) ∧ w'.cell? ⟨w.heap.size, 3, none⟩ = some (.complex .f32 d 0)) (by kernel_rfl) (by refine ⟨?_, ?_, ?_, ?_⟩ <;> (go_simp; done)) (fun hHeld => ?_)
        refine wpAnyH_take (i := 0) (oi := { dst := some 3, op := Op.load 26 (Operand.tmp 1), type := 26, pos := "l06_mixtures.go:7", after := #[], guard := none }) (v := ?_) rfl (by kernel_rfl) (by kernel_rfl) (by kernel_rfl) (fun _ _ _ h => h) (Or.inl ⟨by rfl, ?_⟩) (by assumption) ?_
        rotate_left
        · intro wq hSw; (try dsimp only at hSw); go_simp; try (with_reducible rfl)
        try simp only [Act.put, List.setIfInBounds_toArray, List.set_cons_zero, List.set_cons_succ]
        refine wpAnyH_ready (rs := [1]) (by kernel_rfl) (by simp) ?_
        refine AllReadyH.cons (o := { dst := some 4, op := Op.call { callee := Callee.value (Operand.func 152), args := #[Operand.tmp 3], argTypes := #[26] }, type := 4, pos := "l06_mixtures.go:7", after := #[{ on := 0, ground := Ground.data }], guard := none }) rfl (fun K hK => ?_) AllReadyH.nil
        go_simp
        go_at_call 152
        with_reducible refine (C.out _).mono ?_; rintro e w1 ⟨rfl, hN⟩
        have c0 := hN.cell_at (k := w.heap.size) (o := 0) (v := .complex .f32 a 0) (by go_simp)
        have c1 := hN.cell_at (k := w.heap.size) (o := 1) (v := .complex .f32 p (ng q)) (by go_simp)
        have c2 := hN.cell_at (k := w.heap.size) (o := 2) (v := .complex .f32 p q) (by go_simp)
        have c3 := hN.cell_at (k := w.heap.size) (o := 3) (v := .complex .f32 d 0) (by go_simp)
        refine hK.out _ _ ⟨c0, c1, c2, c3⟩ (fun hHeld' => ?_)
        clear hK K hHeld; have hHeld := hHeld'; clear hHeld'
        try simp only [Act.put, List.setIfInBounds_toArray, List.set_cons_zero, List.set_cons_succ]
        refine wpAnyH_take (i := 2) (oi := { dst := some 5, op := Op.move (Operand.tmp 4), type := 4, pos := "l06_mixtures.go:7", after := #[{ on := 1, ground := Ground.data }, { on := 1, ground := Ground.chain }], guard := none }) (v := ?_) rfl (by kernel_rfl) (by kernel_rfl) (by kernel_rfl) (fun _ _ _ h => h) (Or.inl ⟨by rfl, ?_⟩) (by assumption) ?_
        rotate_left
        · intro wq hSw; (try dsimp only at hSw); go_simp; try (with_reducible rfl)
        try simp only [Act.put, List.setIfInBounds_toArray, List.set_cons_zero, List.set_cons_succ]
        refine wpAnyH_take (i := 3) (oi := { dst := some 6, op := Op.indexAddr 26 (Operand.tmp 1) (Operand.const (Value.int IntKind.i64 0)), type := 0, pos := "l06_mixtures.go:7", after := #[{ on := 2, ground := Ground.guard }], guard := some (2, true) }) (v := ?_) rfl (by kernel_rfl) (by kernel_rfl) (by kernel_rfl) (fun _ _ _ h => h) (Or.inl ⟨by rfl, ?_⟩) (by assumption) ?_
        rotate_left
        · intro wq hSw; (try dsimp only at hSw); go_simp; try (with_reducible rfl)
        try simp only [Act.put, List.setIfInBounds_toArray, List.set_cons_zero, List.set_cons_succ]
        refine wpAnyH_take (i := 4) (oi := { dst := some 7, op := Op.indexAddr 23 (Operand.tmp 6) (Operand.const (Value.int IntKind.i64 0)), type := 0, pos := "l06_mixtures.go:7", after := #[{ on := 3, ground := Ground.data }, { on := 2, ground := Ground.guard }], guard := some (2, true) }) (v := ?_) rfl (by kernel_rfl) (by kernel_rfl) (by kernel_rfl) (fun _ _ _ h => h) (Or.inl ⟨by rfl, ?_⟩) (by assumption) ?_
        rotate_left
        · intro wq hSw; (try dsimp only at hSw); go_simp; try (with_reducible rfl)
        try simp only [Act.put, List.setIfInBounds_toArray, List.set_cons_zero, List.set_cons_succ]
        refine wpAnyH_take (i := 5) (oi := { dst := some 8, op := Op.load 22 (Operand.tmp 7), type := 22, pos := "l06_mixtures.go:7", after := #[{ on := 4, ground := Ground.data }, { on := 2, ground := Ground.guard }], guard := some (2, true) }) (v := ?_) rfl (by kernel_rfl) (by kernel_rfl) (by kernel_rfl) (fun _ _ _ h => h) (Or.inl ⟨by rfl, ?_⟩) (by assumption) ?_
        rotate_left
        · intro wq hSw; (try dsimp only at hSw); go_simp; try (with_reducible rfl)
        try simp only [Act.put, List.setIfInBounds_toArray, List.set_cons_zero, List.set_cons_succ]
        refine wpAnyH_take (i := 6) (oi := { dst := some 9, op := Op.call { callee := Callee.builtin Builtin.imag, args := #[Operand.tmp 8], argTypes := #[22] }, type := 34, pos := "l06_mixtures.go:7", after := #[{ on := 5, ground := Ground.data }, { on := 2, ground := Ground.guard }], guard := some (2, true) }) (v := ?_) rfl (by kernel_rfl) (by kernel_rfl) (by kernel_rfl) (fun _ _ _ h => h) (Or.inl ⟨by rfl, ?_⟩) (by assumption) ?_
        rotate_left
        · intro wq hSw; (try dsimp only at hSw); go_simp; try (with_reducible rfl)
        try simp only [Act.put, List.setIfInBounds_toArray, List.set_cons_zero, List.set_cons_succ]
        refine wpAnyH_take (i := 7) (oi := { dst := some 10, op := Op.binOp BinOp.eql 34 (Operand.tmp 9) (Operand.const (Value.float FloatKind.f32 0)) 34, type := 4, pos := "l06_mixtures.go:7", after := #[{ on := 6, ground := Ground.data }, { on := 2, ground := Ground.guard }], guard := some (2, true) }) (v := ?_) rfl (by kernel_rfl) (by kernel_rfl) (by kernel_rfl) (fun _ _ _ h => h) (Or.inl ⟨by rfl, ?_⟩) (by assumption) ?_
        rotate_left
        · intro wq hSw; (try dsimp only at hSw); go_simp; try (with_reducible rfl)
        try simp only [Act.put, List.setIfInBounds_toArray, List.set_cons_zero, List.set_cons_succ]
        refine wpAnyH_take (i := 8) (oi := { dst := some 11, op := Op.pick (Operand.tmp 5) (Operand.tmp 10) (Operand.const (Value.bool false)), type := 4, pos := "l06_mixtures.go:7", after := #[{ on := 2, ground := Ground.data }, { on := 7, ground := Ground.data }], guard := none }) (v := ?_) rfl (by kernel_rfl) (by kernel_rfl) (by kernel_rfl) (fun _ _ _ h => h) (Or.inl ⟨by rfl, ?_⟩) (by assumption) ?_
        rotate_left
        · intro wq hSw; (try dsimp only at hSw); go_simp; try (with_reducible rfl)
        try simp only [Act.put, List.setIfInBounds_toArray, List.set_cons_zero, List.set_cons_succ]
        refine wpAnyH_take (i := 9) (oi := { dst := some 12, op := Op.move (Operand.tmp 11), type := 4, pos := "l06_mixtures.go:7", after := #[{ on := 8, ground := Ground.data }, { on := 2, ground := Ground.chain }], guard := none }) (v := ?_) rfl (by kernel_rfl) (by kernel_rfl) (by kernel_rfl) (fun _ _ _ h => h) (Or.inl ⟨by rfl, ?_⟩) (by assumption) ?_
        rotate_left
        · intro wq hSw; (try dsimp only at hSw); go_simp; try (with_reducible rfl)
        try simp only [Act.put, List.setIfInBounds_toArray, List.set_cons_zero, List.set_cons_succ]
        refine wpAnyH_take (i := 10) (oi := { dst := some 13, op := Op.indexAddr 26 (Operand.tmp 1) (Operand.const (Value.int IntKind.i64 1)), type := 0, pos := "l06_mixtures.go:7", after := #[{ on := 9, ground := Ground.guard }], guard := some (9, true) }) (v := ?_) rfl (by kernel_rfl) (by kernel_rfl) (by kernel_rfl) (fun _ _ _ h => h) (Or.inl ⟨by rfl, ?_⟩) (by assumption) ?_
        rotate_left
        · intro wq hSw; (try dsimp only at hSw); go_simp; try (with_reducible rfl)
        try simp only [Act.put, List.setIfInBounds_toArray, List.set_cons_zero, List.set_cons_succ]
        refine wpAnyH_take (i := 11) (oi := { dst := some 14, op := Op.indexAddr 23 (Operand.tmp 13) (Operand.const (Value.int IntKind.i64 1)), type := 0, pos := "l06_mixtures.go:7", after := #[{ on := 10, ground := Ground.data }, { on := 9, ground := Ground.guard }], guard := some (9, true) }) (v := ?_) rfl (by kernel_rfl) (by kernel_rfl) (by kernel_rfl) (fun _ _ _ h => h) (Or.inl ⟨by rfl, ?_⟩) (by assumption) ?_
        rotate_left
        · intro wq hSw; (try dsimp only at hSw); go_simp; try (with_reducible rfl)
        try simp only [Act.put, List.setIfInBounds_toArray, List.set_cons_zero, List.set_cons_succ]
        refine wpAnyH_take (i := 12) (oi := { dst := some 15, op := Op.load 22 (Operand.tmp 14), type := 22, pos := "l06_mixtures.go:7", after := #[{ on := 11, ground := Ground.data }, { on := 9, ground := Ground.guard }], guard := some (9, true) }) (v := ?_) rfl (by kernel_rfl) (by kernel_rfl) (by kernel_rfl) (fun _ _ _ h => h) (Or.inl ⟨by rfl, ?_⟩) (by assumption) ?_
        rotate_left
        · intro wq hSw; (try dsimp only at hSw); go_simp; try (with_reducible rfl)
        try simp only [Act.put, List.setIfInBounds_toArray, List.set_cons_zero, List.set_cons_succ]
        refine wpAnyH_take (i := 13) (oi := { dst := some 16, op := Op.call { callee := Callee.builtin Builtin.imag, args := #[Operand.tmp 15], argTypes := #[22] }, type := 34, pos := "l06_mixtures.go:7", after := #[{ on := 12, ground := Ground.data }, { on := 9, ground := Ground.guard }], guard := some (9, true) }) (v := ?_) rfl (by kernel_rfl) (by kernel_rfl) (by kernel_rfl) (fun _ _ _ h => h) (Or.inl ⟨by rfl, ?_⟩) (by assumption) ?_
        rotate_left
        · intro wq hSw; (try dsimp only at hSw); go_simp; try (with_reducible rfl)
        try simp only [Act.put, List.setIfInBounds_toArray, List.set_cons_zero, List.set_cons_succ]
        refine wpAnyH_take (i := 14) (oi := { dst := some 17, op := Op.binOp BinOp.eql 34 (Operand.tmp 16) (Operand.const (Value.float FloatKind.f32 0)) 34, type := 4, pos := "l06_mixtures.go:7", after := #[{ on := 13, ground := Ground.data }, { on := 9, ground := Ground.guard }], guard := some (9, true) }) (v := ?_) rfl (by kernel_rfl) (by kernel_rfl) (by kernel_rfl) (fun _ _ _ h => h) (Or.inl ⟨by rfl, ?_⟩) (by assumption) ?_
        rotate_left
        · intro wq hSw; (try dsimp only at hSw); go_simp; try (with_reducible rfl)
        try simp only [Act.put, List.setIfInBounds_toArray, List.set_cons_zero, List.set_cons_succ]
        refine wpAnyH_take (i := 15) (oi := { dst := some 18, op := Op.pick (Operand.tmp 12) (Operand.tmp 17) (Operand.const (Value.bool false)), type := 4, pos := "l06_mixtures.go:7", after := #[{ on := 9, ground := Ground.data }, { on := 14, ground := Ground.data }], guard := none }) (v := ?_) rfl (by kernel_rfl) (by kernel_rfl) (by kernel_rfl) (fun _ _ _ h => h) (Or.inl ⟨by rfl, ?_⟩) (by assumption) ?_
        rotate_left
        · intro wq hSw; (try dsimp only at hSw); go_simp; try (with_reducible rfl)
        try simp only [Act.put, List.setIfInBounds_toArray, List.set_cons_zero, List.set_cons_succ]
        refine wpAnyH_take (i := 16) (oi := { dst := some 19, op := Op.move (Operand.tmp 18), type := 4, pos := "l06_mixtures.go:7", after := #[{ on := 15, ground := Ground.data }, { on := 9, ground := Ground.chain }], guard := none }) (v := ?_) rfl (by kernel_rfl) (by kernel_rfl) (by kernel_rfl) (fun _ _ _ h => h) (Or.inl ⟨by rfl, ?_⟩) (by assumption) ?_
        rotate_left
        · intro wq hSw; (try dsimp only at hSw); go_simp; try (with_reducible rfl)
        try simp only [Act.put, List.setIfInBounds_toArray, List.set_cons_zero, List.set_cons_succ]
        refine wpAnyH_take (i := 17) (oi := { dst := some 20, op := Op.indexAddr 26 (Operand.tmp 1) (Operand.const (Value.int IntKind.i64 0)), type := 0, pos := "l06_mixtures.go:7", after := #[{ on := 16, ground := Ground.guard }], guard := some (16, true) }) (v := ?_) rfl (by kernel_rfl) (by kernel_rfl) (by kernel_rfl) (fun _ _ _ h => h) (Or.inl ⟨by rfl, ?_⟩) (by assumption) ?_
        rotate_left
        · intro wq hSw; (try dsimp only at hSw); go_simp; try (with_reducible rfl)
        try simp only [Act.put, List.setIfInBounds_toArray, List.set_cons_zero, List.set_cons_succ]
        refine wpAnyH_take (i := 18) (oi := { dst := some 21, op := Op.indexAddr 23 (Operand.tmp 20) (Operand.const (Value.int IntKind.i64 0)), type := 0, pos := "l06_mixtures.go:7", after := #[{ on := 17, ground := Ground.data }, { on := 16, ground := Ground.guard }], guard := some (16, true) }) (v := ?_) rfl (by kernel_rfl) (by kernel_rfl) (by kernel_rfl) (fun _ _ _ h => h) (Or.inl ⟨by rfl, ?_⟩) (by assumption) ?_
        rotate_left
        · intro wq hSw; (try dsimp only at hSw); go_simp; try (with_reducible rfl)
        try simp only [Act.put, List.setIfInBounds_toArray, List.set_cons_zero, List.set_cons_succ]
        refine wpAnyH_take (i := 19) (oi := { dst := some 22, op := Op.load 22 (Operand.tmp 21), type := 22, pos := "l06_mixtures.go:7", after := #[{ on := 18, ground := Ground.data }, { on := 16, ground := Ground.guard }], guard := some (16, true) }) (v := ?_) rfl (by kernel_rfl) (by kernel_rfl) (by kernel_rfl) (fun _ _ _ h => h) (Or.inl ⟨by rfl, ?_⟩) (by assumption) ?_
        rotate_left
        · intro wq hSw; (try dsimp only at hSw); go_simp; try (with_reducible rfl)
        try simp only [Act.put, List.setIfInBounds_toArray, List.set_cons_zero, List.set_cons_succ]
        refine wpAnyH_take (i := 20) (oi := { dst := some 23, op := Op.call { callee := Callee.builtin Builtin.real, args := #[Operand.tmp 22], argTypes := #[22] }, type := 34, pos := "l06_mixtures.go:7", after := #[{ on := 19, ground := Ground.data }, { on := 16, ground := Ground.guard }], guard := some (16, true) }) (v := ?_) rfl (by kernel_rfl) (by kernel_rfl) (by kernel_rfl) (fun _ _ _ h => h) (Or.inl ⟨by rfl, ?_⟩) (by assumption) ?_
        rotate_left
        · intro wq hSw; (try dsimp only at hSw); go_simp; try (with_reducible rfl)
        try simp only [Act.put, List.setIfInBounds_toArray, List.set_cons_zero, List.set_cons_succ]
        refine wpAnyH_take (i := 21) (oi := { dst := some 24, op := Op.binOp BinOp.geq 34 (Operand.tmp 23) (Operand.const (Value.float FloatKind.f32 0)) 34, type := 4, pos := "l06_mixtures.go:7", after := #[{ on := 20, ground := Ground.data }, { on := 16, ground := Ground.guard }], guard := some (16, true) }) (v := ?_) rfl (by kernel_rfl) (by kernel_rfl) (by kernel_rfl) (fun _ _ _ h => h) (Or.inl ⟨by rfl, ?_⟩) (by assumption) ?_
        rotate_left
        · intro wq hSw; (try dsimp only at hSw); go_simp; try (with_reducible rfl)
        try simp only [Act.put, List.setIfInBounds_toArray, List.set_cons_zero, List.set_cons_succ]
        refine wpAnyH_take (i := 22) (oi := { dst := some 25, op := Op.pick (Operand.tmp 19) (Operand.tmp 24) (Operand.const (Value.bool false)), type := 4, pos := "l06_mixtures.go:7", after := #[{ on := 16, ground := Ground.data }, { on := 21, ground := Ground.data }], guard := none }) (v := ?_) rfl (by kernel_rfl) (by kernel_rfl) (by kernel_rfl) (fun _ _ _ h => h) (Or.inl ⟨by rfl, ?_⟩) (by assumption) ?_
        rotate_left
        · intro wq hSw; (try dsimp only at hSw); go_simp; try (with_reducible rfl)
        try simp only [Act.put, List.setIfInBounds_toArray, List.set_cons_zero, List.set_cons_succ]
        refine wpAnyH_take (i := 23) (oi := { dst := some 26, op := Op.move (Operand.tmp 25), type := 4, pos := "l06_mixtures.go:7", after := #[{ on := 22, ground := Ground.data }, { on := 16, ground := Ground.chain }], guard := none }) (v := ?_) rfl (by kernel_rfl) (by kernel_rfl) (by kernel_rfl) (fun _ _ _ h => h) (Or.inl ⟨by rfl, ?_⟩) (by assumption) ?_
        rotate_left
        · intro wq hSw; (try dsimp only at hSw); go_simp; try (with_reducible rfl)
        try simp only [Act.put, List.setIfInBounds_toArray, List.set_cons_zero, List.set_cons_succ]
        refine wpAnyH_take (i := 24) (oi := { dst := some 27, op := Op.indexAddr 26 (Operand.tmp 1) (Operand.const (Value.int IntKind.i64 1)), type := 0, pos := "l06_mixtures.go:7", after := #[{ on := 23, ground := Ground.guard }], guard := some (23, true) }) (v := ?_) rfl (by kernel_rfl) (by kernel_rfl) (by kernel_rfl) (fun _ _ _ h => h) (Or.inl ⟨by rfl, ?_⟩) (by assumption) ?_
        rotate_left
        · intro wq hSw; (try dsimp only at hSw); go_simp; try (with_reducible rfl)
        try simp only [Act.put, List.setIfInBounds_toArray, List.set_cons_zero, List.set_cons_succ]
        refine wpAnyH_take (i := 25) (oi := { dst := some 28, op := Op.indexAddr 23 (Operand.tmp 27) (Operand.const (Value.int IntKind.i64 1)), type := 0, pos := "l06_mixtures.go:7", after := #[{ on := 24, ground := Ground.data }, { on := 23, ground := Ground.guard }], guard := some (23, true) }) (v := ?_) rfl (by kernel_rfl) (by kernel_rfl) (by kernel_rfl) (fun _ _ _ h => h) (Or.inl ⟨by rfl, ?_⟩) (by assumption) ?_
        rotate_left
        · intro wq hSw; (try dsimp only at hSw); go_simp; try (with_reducible rfl)
        try simp only [Act.put, List.setIfInBounds_toArray, List.set_cons_zero, List.set_cons_succ]
        refine wpAnyH_take (i := 26) (oi := { dst := some 29, op := Op.load 22 (Operand.tmp 28), type := 22, pos := "l06_mixtures.go:7", after := #[{ on := 25, ground := Ground.data }, { on := 23, ground := Ground.guard }], guard := some (23, true) }) (v := ?_) rfl (by kernel_rfl) (by kernel_rfl) (by kernel_rfl) (fun _ _ _ h => h) (Or.inl ⟨by rfl, ?_⟩) (by assumption) ?_
        rotate_left
        · intro wq hSw; (try dsimp only at hSw); go_simp; try (with_reducible rfl)
        try simp only [Act.put, List.setIfInBounds_toArray, List.set_cons_zero, List.set_cons_succ]
        refine wpAnyH_take (i := 27) (oi := { dst := some 30, op := Op.call { callee := Callee.builtin Builtin.real, args := #[Operand.tmp 29], argTypes := #[22] }, type := 34, pos := "l06_mixtures.go:7", after := #[{ on := 26, ground := Ground.data }, { on := 23, ground := Ground.guard }], guard := some (23, true) }) (v := ?_) rfl (by kernel_rfl) (by kernel_rfl) (by kernel_rfl) (fun _ _ _ h => h) (Or.inl ⟨by rfl, ?_⟩) (by assumption) ?_
        rotate_left
        · intro wq hSw; (try dsimp only at hSw); go_simp; try (with_reducible rfl)
        try simp only [Act.put, List.setIfInBounds_toArray, List.set_cons_zero, List.set_cons_succ]
        refine wpAnyH_take (i := 28) (oi := { dst := some 31, op := Op.binOp BinOp.geq 34 (Operand.tmp 30) (Operand.const (Value.float FloatKind.f32 0)) 34, type := 4, pos := "l06_mixtures.go:7", after := #[{ on := 27, ground := Ground.data }, { on := 23, ground := Ground.guard }], guard := some (23, true) }) (v := ?_) rfl (by kernel_rfl) (by kernel_rfl) (by kernel_rfl) (fun _ _ _ h => h) (Or.inl ⟨by rfl, ?_⟩) (by assumption) ?_
        rotate_left
        · intro wq hSw; (try dsimp only at hSw); go_simp; try (with_reducible rfl)
        try simp only [Act.put, List.setIfInBounds_toArray, List.set_cons_zero, List.set_cons_succ]
        refine wpAnyH_take (i := 29) (oi := { dst := some 32, op := Op.pick (Operand.tmp 26) (Operand.tmp 31) (Operand.const (Value.bool false)), type := 4, pos := "l06_mixtures.go:7", after := #[{ on := 23, ground := Ground.data }, { on := 28, ground := Ground.data }], guard := none }) (v := ?_) rfl (by kernel_rfl) (by kernel_rfl) (by kernel_rfl) (fun _ _ _ h => h) (Or.inl ⟨by rfl, ?_⟩) (by assumption) ?_
        rotate_left
        · intro wq hSw; (try dsimp only at hSw); go_simp; try (with_reducible rfl)
        try simp only [Act.put, List.setIfInBounds_toArray, List.set_cons_zero, List.set_cons_succ]
        refine wpAnyH_take (i := 30) (oi := { dst := some 33, op := Op.move (Operand.tmp 32), type := 4, pos := "l06_mixtures.go:7", after := #[{ on := 29, ground := Ground.data }, { on := 23, ground := Ground.chain }], guard := none }) (v := ?_) rfl (by kernel_rfl) (by kernel_rfl) (by kernel_rfl) (fun _ _ _ h => h) (Or.inl ⟨by rfl, ?_⟩) (by assumption) ?_
        rotate_left
        · intro wq hSw; (try dsimp only at hSw); go_simp; try (with_reducible rfl)
        try simp only [Act.put, List.setIfInBounds_toArray, List.set_cons_zero, List.set_cons_succ]
        refine wpAnyH_take (i := 31) (oi := { dst := some 34, op := Op.indexAddr 26 (Operand.tmp 1) (Operand.const (Value.int IntKind.i64 0)), type := 0, pos := "l06_mixtures.go:7", after := #[{ on := 30, ground := Ground.guard }], guard := some (30, true) }) (v := undef) rfl (by kernel_rfl) (by kernel_rfl) (by kernel_rfl) (fun _ _ _ h => h) (Or.inr ⟨by rfl, rfl⟩) (by assumption) ?_
        try simp only [Act.put, List.setIfInBounds_toArray, List.set_cons_zero, List.set_cons_succ]
        refine wpAnyH_take (i := 32) (oi := { dst := some 35, op := Op.indexAddr 23 (Operand.tmp 34) (Operand.const (Value.int IntKind.i64 1)), type := 0, pos := "l06_mixtures.go:7", after := #[{ on := 31, ground := Ground.data }, { on := 30, ground := Ground.guard }], guard := some (30, true) }) (v := undef) rfl (by kernel_rfl) (by kernel_rfl) (by kernel_rfl) (fun _ _ _ h => h) (Or.inr ⟨by rfl, rfl⟩) (by assumption) ?_
        try simp only [Act.put, List.setIfInBounds_toArray, List.set_cons_zero, List.set_cons_succ]
        refine wpAnyH_take (i := 33) (oi := { dst := some 36, op := Op.load 22 (Operand.tmp 35), type := 22, pos := "l06_mixtures.go:7", after := #[{ on := 32, ground := Ground.data }, { on := 30, ground := Ground.guard }], guard := some (30, true) }) (v := undef) rfl (by kernel_rfl) (by kernel_rfl) (by kernel_rfl) (fun _ _ _ h => h) (Or.inr ⟨by rfl, rfl⟩) (by assumption) ?_
        try simp only [Act.put, List.setIfInBounds_toArray, List.set_cons_zero, List.set_cons_succ]
        refine wpAnyH_take (i := 34) (oi := { dst := some 37, op := Op.indexAddr 26 (Operand.tmp 1) (Operand.const (Value.int IntKind.i64 1)), type := 0, pos := "l06_mixtures.go:7", after := #[{ on := 30, ground := Ground.guard }], guard := some (30, true) }) (v := undef) rfl (by kernel_rfl) (by kernel_rfl) (by kernel_rfl) (fun _ _ _ h => h) (Or.inr ⟨by rfl, rfl⟩) (by assumption) ?_
        try simp only [Act.put, List.setIfInBounds_toArray, List.set_cons_zero, List.set_cons_succ]
        refine wpAnyH_take (i := 35) (oi := { dst := some 38, op := Op.indexAddr 23 (Operand.tmp 37) (Operand.const (Value.int IntKind.i64 0)), type := 0, pos := "l06_mixtures.go:7", after := #[{ on := 34, ground := Ground.data }, { on := 30, ground := Ground.guard }], guard := some (30, true) }) (v := undef) rfl (by kernel_rfl) (by kernel_rfl) (by kernel_rfl) (fun _ _ _ h => h) (Or.inr ⟨by rfl, rfl⟩) (by assumption) ?_
        try simp only [Act.put, List.setIfInBounds_toArray, List.set_cons_zero, List.set_cons_succ]
        refine wpAnyH_take (i := 36) (oi := { dst := some 39, op := Op.load 22 (Operand.tmp 38), type := 22, pos := "l06_mixtures.go:7", after := #[{ on := 35, ground := Ground.data }, { on := 30, ground := Ground.guard }], guard := some (30, true) }) (v := undef) rfl (by kernel_rfl) (by kernel_rfl) (by kernel_rfl) (fun _ _ _ h => h) (Or.inr ⟨by rfl, rfl⟩) (by assumption) ?_
        try simp only [Act.put, List.setIfInBounds_toArray, List.set_cons_zero, List.set_cons_succ]
        refine wpAnyH_take (i := 37) (oi := { dst := some 40, op := Op.call { callee := Callee.value (Operand.func 151), args := #[Operand.tmp 39], argTypes := #[22] }, type := 22, pos := "l06_mixtures.go:7", after := #[{ on := 36, ground := Ground.data }, { on := 30, ground := Ground.chain }, { on := 30, ground := Ground.guard }], guard := some (30, true) }) (v := undef) rfl (by kernel_rfl) (by kernel_rfl) (by kernel_rfl) (fun _ _ _ h => h) (Or.inr ⟨by rfl, rfl⟩) (by assumption) ?_
        try simp only [Act.put, List.setIfInBounds_toArray, List.set_cons_zero, List.set_cons_succ]
        refine wpAnyH_take (i := 38) (oi := { dst := some 41, op := Op.binOp BinOp.eql 22 (Operand.tmp 36) (Operand.tmp 40) 22, type := 4, pos := "l06_mixtures.go:7", after := #[{ on := 33, ground := Ground.data }, { on := 37, ground := Ground.data }, { on := 30, ground := Ground.guard }], guard := some (30, true) }) (v := undef) rfl (by kernel_rfl) (by kernel_rfl) (by kernel_rfl) (fun _ _ _ h => h) (Or.inr ⟨by rfl, rfl⟩) (by assumption) ?_
        try simp only [Act.put, List.setIfInBounds_toArray, List.set_cons_zero, List.set_cons_succ]
        refine wpAnyH_take (i := 39) (oi := { dst := some 42, op := Op.pick (Operand.tmp 33) (Operand.tmp 41) (Operand.const (Value.bool false)), type := 4, pos := "l06_mixtures.go:7", after := #[{ on := 30, ground := Ground.data }, { on := 38, ground := Ground.data }], guard := none }) (v := ?_) rfl (by kernel_rfl) (by kernel_rfl) (by kernel_rfl) (fun _ _ _ h => h) (Or.inl ⟨by rfl, ?_⟩) (by assumption) ?_
        rotate_left
        · intro wq hSw; (try dsimp only at hSw); go_simp; try (with_reducible rfl)
        try simp only [Act.put, List.setIfInBounds_toArray, List.set_cons_zero, List.set_cons_succ]
        refine wpAnyH_take (i := 40) (oi := { dst := some 2, op := Op.assign (Operand.tmp 42), type := 4, pos := "l06_mixtures.go:7", after := #[{ on := 39, ground := Ground.data }, { on := 37, ground := Ground.chain }, { on := 0, ground := Ground.phase }, { on := 1, ground := Ground.phase }, { on := 2, ground := Ground.phase }, { on := 3, ground := Ground.phase }, { on := 4, ground := Ground.phase }, { on := 5, ground := Ground.phase }, { on := 6, ground := Ground.phase }, { on := 7, ground := Ground.phase }, { on := 8, ground := Ground.phase }, { on := 9, ground := Ground.phase }, { on := 10, ground := Ground.phase }, { on := 11, ground := Ground.phase }, { on := 12, ground := Ground.phase }, { on := 13, ground := Ground.phase }, { on := 14, ground := Ground.phase }, { on := 15, ground := Ground.phase }, { on := 16, ground := Ground.phase }, { on := 17, ground := Ground.phase }, { on := 18, ground := Ground.phase }, { on := 19, ground := Ground.phase }, { on := 20, ground := Ground.phase }, { on := 21, ground := Ground.phase }, { on := 22, ground := Ground.phase }, { on := 23, ground := Ground.phase }, { on := 24, ground := Ground.phase }, { on := 25, ground := Ground.phase }, { on := 26, ground := Ground.phase }, { on := 27, ground := Ground.phase }, { on := 28, ground := Ground.phase }, { on := 29, ground := Ground.phase }, { on := 30, ground := Ground.phase }, { on := 31, ground := Ground.phase }, { on := 32, ground := Ground.phase }, { on := 33, ground := Ground.phase }, { on := 34, ground := Ground.phase }, { on := 35, ground := Ground.phase }, { on := 36, ground := Ground.phase }, { on := 37, ground := Ground.phase }, { on := 38, ground := Ground.phase }, { on := 39, ground := Ground.phase }], guard := none }) (v := ?_) rfl (by kernel_rfl) (by kernel_rfl) (by kernel_rfl) (fun _ _ _ h => h) (Or.inl ⟨by rfl, ?_⟩) (by assumption) ?_
        rotate_left
        · intro wq hSw; (try dsimp only at hSw); go_simp; try (with_reducible rfl)
        try simp only [Act.put, List.setIfInBounds_toArray, List.set_cons_zero, List.set_cons_succ]
        refine wpAnyH_done (by kernel_rfl) ?_ _
        go_wp2
        go_ret
        exact ⟨rfl, (((New.refl w).alloc _).drew).trans hN⟩
    | true =>
      rcases geB_true h1 with o1 | o1
      all_goals
        rcases geB_true h2 with o2 | o2
        all_goals
          clear h1 h2 fa fd
          go_enter Try.func110, Try.ntmps110
          go_wp2_with fail
          refine wp_region_held_drew (S := fun w' => w'.cell? ⟨w.heap.size, 0, none⟩ = some (.complex .f32 a 0) ∧ w'.cell? ⟨w.heap.size, 1, none⟩ = some (.complex .f32 p (ng q)) ∧ w'.cell? ⟨w.heap.size, 2, none⟩ = some (.complex .f32 p q) ∧ w'.cell? ⟨w.heap.size, 3, none⟩ = some (.complex .f32 d 0)) (by kernel_rfl) (by refine ⟨?_, ?_, ?_, ?_⟩ <;> (go_simp; done)) (fun hHeld => ?_)
          refine wpAnyH_take (i := 0) (oi := { dst := some 3, op := Op.load 26 (Operand.tmp 1), type := 26, pos := "l06_mixtures.go:7", after := #[], guard := none }) (v := ?_) rfl (by kernel_rfl) (by kernel_rfl) (by kernel_rfl) (fun _ _ _ h => h) (Or.inl ⟨by rfl, ?_⟩) (by assumption) ?_
          rotate_left
          · intro wq hSw; (try dsimp only at hSw); go_simp; try (with_reducible rfl)
          try simp only [Act.put, List.setIfInBounds_toArray, List.set_cons_zero, List.set_cons_succ]
          refine wpAnyH_ready (rs := [1]) (by kernel_rfl) (by simp) ?_
          refine AllReadyH.cons (o := { dst := some 4, op := Op.call { callee := Callee.value (Operand.func 152), args := #[Operand.tmp 3], argTypes := #[26] }, type := 4, pos := "l06_mixtures.go:7", after := #[{ on := 0, ground := Ground.data }], guard := none }) rfl (fun K hK => ?_) AllReadyH.nil
          go_simp
          go_at_call 152
          with_reducible refine (C.out _).mono ?_; rintro e w1 ⟨rfl, hN⟩
          have c0 := hN.cell_at (k := w.heap.size) (o := 0) (v := .complex .f32 a 0) (by go_simp)
          have c1 := hN.cell_at (k := w.heap.size) (o := 1) (v := .complex .f32 p (ng q)) (by go_simp)
          have c2 := hN.cell_at (k := w.heap.size) (o := 2) (v := .complex .f32 p q) (by go_simp)
          have c3 := hN.cell_at (k := w.heap.size) (o := 3) (v := .complex .f32 d 0) (by go_simp)
          refine hK.out _ _ ⟨c0, c1, c2, c3⟩ (fun hHeld' => ?_)
          clear hK K hHeld; have hHeld := hHeld'; clear hHeld'
          try simp only [Act.put, List.setIfInBounds_toArray, List.set_cons_zero, List.set_cons_succ]
          refine wpAnyH_take (i := 2) (oi := { dst := some 5, op := Op.move (Operand.tmp 4), type := 4, pos := "l06_mixtures.go:7", after := #[{ on := 1, ground := Ground.data }, { on := 1, ground := Ground.chain }], guard := none }) (v := ?_) rfl (by kernel_rfl) (by kernel_rfl) (by kernel_rfl) (fun _ _ _ h => h) (Or.inl ⟨by rfl, ?_⟩) (by assumption) ?_
          rotate_left
          · intro wq hSw; (try dsimp only at hSw); go_simp; try (with_reducible rfl)
          try simp only [Act.put, List.setIfInBounds_toArray, List.set_cons_zero, List.set_cons_succ]
          refine wpAnyH_take (i := 3) (oi := { dst := some 6, op := Op.indexAddr 26 (Operand.tmp 1) (Operand.const (Value.int IntKind.i64 0)), type := 0, pos := "l06_mixtures.go:7", after := #[{ on := 2, ground := Ground.guard }], guard := some (2, true) }) (v := ?_) rfl (by kernel_rfl) (by kernel_rfl) (by kernel_rfl) (fun _ _ _ h => h) (Or.inl ⟨by rfl, ?_⟩) (by assumption) ?_
          rotate_left
          · intro wq hSw; (try dsimp only at hSw); go_simp; try (with_reducible rfl)
          try simp only [Act.put, List.setIfInBounds_toArray, List.set_cons_zero, List.set_cons_succ]
          refine wpAnyH_take (i := 4) (oi := { dst := some 7, op := Op.indexAddr 23 (Operand.tmp 6) (Operand.const (Value.int IntKind.i64 0)), type := 0, pos := "l06_mixtures.go:7", after := #[{ on := 3, ground := Ground.data }, { on := 2, ground := Ground.guard }], guard := some (2, true) }) (v := ?_) rfl (by kernel_rfl) (by kernel_rfl) (by kernel_rfl) (fun _ _ _ h => h) (Or.inl ⟨by rfl, ?_⟩) (by assumption) ?_
          rotate_left
          · intro wq hSw; (try dsimp only at hSw); go_simp; try (with_reducible rfl)
          try simp only [Act.put, List.setIfInBounds_toArray, List.set_cons_zero, List.set_cons_succ]
          refine wpAnyH_take (i := 5) (oi := { dst := some 8, op := Op.load 22 (Operand.tmp 7), type := 22, pos := "l06_mixtures.go:7", after := #[{ on := 4, ground := Ground.data }, { on := 2, ground := Ground.guard }], guard := some (2, true) }) (v := ?_) rfl (by kernel_rfl) (by kernel_rfl) (by kernel_rfl) (fun _ _ _ h => h) (Or.inl ⟨by rfl, ?_⟩) (by assumption) ?_
          rotate_left
          · intro wq hSw; (try dsimp only at hSw); go_simp; try (with_reducible rfl)
          try simp only [Act.put, List.setIfInBounds_toArray, List.set_cons_zero, List.set_cons_succ]
          refine wpAnyH_take (i := 6) (oi := { dst := some 9, op := Op.call { callee := Callee.builtin Builtin.imag, args := #[Operand.tmp 8], argTypes := #[22] }, type := 34, pos := "l06_mixtures.go:7", after := #[{ on := 5, ground := Ground.data }, { on := 2, ground := Ground.guard }], guard := some (2, true) }) (v := ?_) rfl (by kernel_rfl) (by kernel_rfl) (by kernel_rfl) (fun _ _ _ h => h) (Or.inl ⟨by rfl, ?_⟩) (by assumption) ?_
          rotate_left
          · intro wq hSw; (try dsimp only at hSw); go_simp; try (with_reducible rfl)
          try simp only [Act.put, List.setIfInBounds_toArray, List.set_cons_zero, List.set_cons_succ]
          refine wpAnyH_take (i := 7) (oi := { dst := some 10, op := Op.binOp BinOp.eql 34 (Operand.tmp 9) (Operand.const (Value.float FloatKind.f32 0)) 34, type := 4, pos := "l06_mixtures.go:7", after := #[{ on := 6, ground := Ground.data }, { on := 2, ground := Ground.guard }], guard := some (2, true) }) (v := ?_) rfl (by kernel_rfl) (by kernel_rfl) (by kernel_rfl) (fun _ _ _ h => h) (Or.inl ⟨by rfl, ?_⟩) (by assumption) ?_
          rotate_left
          · intro wq hSw; (try dsimp only at hSw); go_simp; try (with_reducible rfl)
          try simp only [Act.put, List.setIfInBounds_toArray, List.set_cons_zero, List.set_cons_succ]
          refine wpAnyH_take (i := 8) (oi := { dst := some 11, op := Op.pick (Operand.tmp 5) (Operand.tmp 10) (Operand.const (Value.bool false)), type := 4, pos := "l06_mixtures.go:7", after := #[{ on := 2, ground := Ground.data }, { on := 7, ground := Ground.data }], guard := none }) (v := ?_) rfl (by kernel_rfl) (by kernel_rfl) (by kernel_rfl) (fun _ _ _ h => h) (Or.inl ⟨by rfl, ?_⟩) (by assumption) ?_
          rotate_left
          · intro wq hSw; (try dsimp only at hSw); go_simp; try (with_reducible rfl)
          try simp only [Act.put, List.setIfInBounds_toArray, List.set_cons_zero, List.set_cons_succ]
          refine wpAnyH_take (i := 9) (oi := { dst := some 12, op := Op.move (Operand.tmp 11), type := 4, pos := "l06_mixtures.go:7", after := #[{ on := 8, ground := Ground.data }, { on := 2, ground := Ground.chain }], guard := none }) (v := ?_) rfl (by kernel_rfl) (by kernel_rfl) (by kernel_rfl) (fun _ _ _ h => h) (Or.inl ⟨by rfl, ?_⟩) (by assumption) ?_
          rotate_left
          · intro wq hSw; (try dsimp only at hSw); go_simp; try (with_reducible rfl)
          try simp only [Act.put, List.setIfInBounds_toArray, List.set_cons_zero, List.set_cons_succ]
          refine wpAnyH_take (i := 10) (oi := { dst := some 13, op := Op.indexAddr 26 (Operand.tmp 1) (Operand.const (Value.int IntKind.i64 1)), type := 0, pos := "l06_mixtures.go:7", after := #[{ on := 9, ground := Ground.guard }], guard := some (9, true) }) (v := ?_) rfl (by kernel_rfl) (by kernel_rfl) (by kernel_rfl) (fun _ _ _ h => h) (Or.inl ⟨by rfl, ?_⟩) (by assumption) ?_
          rotate_left
          · intro wq hSw; (try dsimp only at hSw); go_simp; try (with_reducible rfl)
          try simp only [Act.put, List.setIfInBounds_toArray, List.set_cons_zero, List.set_cons_succ]
          refine wpAnyH_take (i := 11) (oi := { dst := some 14, op := Op.indexAddr 23 (Operand.tmp 13) (Operand.const (Value.int IntKind.i64 1)), type := 0, pos := "l06_mixtures.go:7", after := #[{ on := 10, ground := Ground.data }, { on := 9, ground := Ground.guard }], guard := some (9, true) }) (v := ?_) rfl (by kernel_rfl) (by kernel_rfl) (by kernel_rfl) (fun _ _ _ h => h) (Or.inl ⟨by rfl, ?_⟩) (by assumption) ?_
          rotate_left
          · intro wq hSw; (try dsimp only at hSw); go_simp; try (with_reducible rfl)
          try simp only [Act.put, List.setIfInBounds_toArray, List.set_cons_zero, List.set_cons_succ]
          refine wpAnyH_take (i := 12) (oi := { dst := some 15, op := Op.load 22 (Operand.tmp 14), type := 22, pos := "l06_mixtures.go:7", after := #[{ on := 11, ground := Ground.data }, { on := 9, ground := Ground.guard }], guard := some (9, true) }) (v := ?_) rfl (by kernel_rfl) (by kernel_rfl) (by kernel_rfl) (fun _ _ _ h => h) (Or.inl ⟨by rfl, ?_⟩) (by assumption) ?_
          rotate_left
          · intro wq hSw; (try dsimp only at hSw); go_simp; try (with_reducible rfl)
          try simp only [Act.put, List.setIfInBounds_toArray, List.set_cons_zero, List.set_cons_succ]
          refine wpAnyH_take (i := 13) (oi := { dst := some 16, op := Op.call { callee := Callee.builtin Builtin.imag, args := #[Operand.tmp 15], argTypes := #[22] }, type := 34, pos := "l06_mixtures.go:7", after := #[{ on := 12, ground := Ground.data }, { on := 9, ground := Ground.guard }], guard := some (9, true) }) (v := ?_) rfl (by kernel_rfl) (by kernel_rfl) (by kernel_rfl) (fun _ _ _ h => h) (Or.inl ⟨by rfl, ?_⟩) (by assumption) ?_
          rotate_left
          · intro wq hSw; (try dsimp only at hSw); go_simp; try (with_reducible rfl)
          try simp only [Act.put, List.setIfInBounds_toArray, List.set_cons_zero, List.set_cons_succ]
          refine wpAnyH_take (i := 14) (oi := { dst := some 17, op := Op.binOp BinOp.eql 34 (Operand.tmp 16) (Operand.const (Value.float FloatKind.f32 0)) 34, type := 4, pos := "l06_mixtures.go:7", after := #[{ on := 13, ground := Ground.data }, { on := 9, ground := Ground.guard }], guard := some (9, true) }) (v := ?_) rfl (by kernel_rfl) (by kernel_rfl) (by kernel_rfl) (fun _ _ _ h => h) (Or.inl ⟨by rfl, ?_⟩) (by assumption) ?_
          rotate_left
          · intro wq hSw; (try dsimp only at hSw); go_simp; try (with_reducible rfl)
          try simp only [Act.put, List.setIfInBounds_toArray, List.set_cons_zero, List.set_cons_succ]
          refine wpAnyH_take (i := 15) (oi := { dst := some 18, op := Op.pick (Operand.tmp 12) (Operand.tmp 17) (Operand.const (Value.bool false)), type := 4, pos := "l06_mixtures.go:7", after := #[{ on := 9, ground := Ground.data }, { on := 14, ground := Ground.data }], guard := none }) (v := ?_) rfl (by kernel_rfl) (by kernel_rfl) (by kernel_rfl) (fun _ _ _ h => h) (Or.inl ⟨by rfl, ?_⟩) (by assumption) ?_
          rotate_left
          · intro wq hSw; (try dsimp only at hSw); go_simp; try (with_reducible rfl)
          try simp only [Act.put, List.setIfInBounds_toArray, List.set_cons_zero, List.set_cons_succ]
          refine wpAnyH_take (i := 16) (oi := { dst := some 19, op := Op.move (Operand.tmp 18), type := 4, pos := "l06_mixtures.go:7", after := #[{ on := 15, ground := Ground.data }, { on := 9, ground := Ground.chain }], guard := none }) (v := ?_) rfl (by kernel_rfl) (by kernel_rfl) (by kernel_rfl) (fun _ _ _ h => h) (Or.inl ⟨by rfl, ?_⟩) (by assumption) ?_
          rotate_left
          · intro wq hSw; (try dsimp only at hSw); go_simp; try (with_reducible rfl)
          try simp only [Act.put, List.setIfInBounds_toArray, List.set_cons_zero, List.set_cons_succ]
          refine wpAnyH_take (i := 17) (oi := { dst := some 20, op := Op.indexAddr 26 (Operand.tmp 1) (Operand.const (Value.int IntKind.i64 0)), type := 0, pos := "l06_mixtures.go:7", after := #[{ on := 16, ground := Ground.guard }], guard := some (16, true) }) (v := ?_) rfl (by kernel_rfl) (by kernel_rfl) (by kernel_rfl) (fun _ _ _ h => h) (Or.inl ⟨by rfl, ?_⟩) (by assumption) ?_
          rotate_left
          · intro wq hSw; (try dsimp only at hSw); go_simp; try (with_reducible rfl)
          try simp only [Act.put, List.setIfInBounds_toArray, List.set_cons_zero, List.set_cons_succ]
          refine wpAnyH_take (i := 18) (oi := { dst := some 21, op := Op.indexAddr 23 (Operand.tmp 20) (Operand.const (Value.int IntKind.i64 0)), type := 0, pos := "l06_mixtures.go:7", after := #[{ on := 17, ground := Ground.data }, { on := 16, ground := Ground.guard }], guard := some (16, true) }) (v := ?_) rfl (by kernel_rfl) (by kernel_rfl) (by kernel_rfl) (fun _ _ _ h => h) (Or.inl ⟨by rfl, ?_⟩) (by assumption) ?_
          rotate_left
          · intro wq hSw; (try dsimp only at hSw); go_simp; try (with_reducible rfl)
          try simp only [Act.put, List.setIfInBounds_toArray, List.set_cons_zero, List.set_cons_succ]
          refine wpAnyH_take (i := 19) (oi := { dst := some 22, op := Op.load 22 (Operand.tmp 21), type := 22, pos := "l06_mixtures.go:7", after := #[{ on := 18, ground := Ground.data }, { on := 16, ground := Ground.guard }], guard := some (16, true) }) (v := ?_) rfl (by kernel_rfl) (by kernel_rfl) (by kernel_rfl) (fun _ _ _ h => h) (Or.inl ⟨by rfl, ?_⟩) (by assumption) ?_
          rotate_left
          · intro wq hSw; (try dsimp only at hSw); go_simp; try (with_reducible rfl)
          try simp only [Act.put, List.setIfInBounds_toArray, List.set_cons_zero, List.set_cons_succ]
          refine wpAnyH_take (i := 20) (oi := { dst := some 23, op := Op.call { callee := Callee.builtin Builtin.real, args := #[Operand.tmp 22], argTypes := #[22] }, type := 34, pos := "l06_mixtures.go:7", after := #[{ on := 19, ground := Ground.data }, { on := 16, ground := Ground.guard }], guard := some (16, true) }) (v := ?_) rfl (by kernel_rfl) (by kernel_rfl) (by kernel_rfl) (fun _ _ _ h => h) (Or.inl ⟨by rfl, ?_⟩) (by assumption) ?_
          rotate_left
          · intro wq hSw; (try dsimp only at hSw); go_simp; try (with_reducible rfl)
          try simp only [Act.put, List.setIfInBounds_toArray, List.set_cons_zero, List.set_cons_succ]
          refine wpAnyH_take (i := 21) (oi := { dst := some 24, op := Op.binOp BinOp.geq 34 (Operand.tmp 23) (Operand.const (Value.float FloatKind.f32 0)) 34, type := 4, pos := "l06_mixtures.go:7", after := #[{ on := 20, ground := Ground.data }, { on := 16, ground := Ground.guard }], guard := some (16, true) }) (v := ?_) rfl (by kernel_rfl) (by kernel_rfl) (by kernel_rfl) (fun _ _ _ h => h) (Or.inl ⟨by rfl, ?_⟩) (by assumption) ?_
          rotate_left
          · intro wq hSw; (try dsimp only at hSw); go_simp; try (with_reducible rfl)
          try simp only [Act.put, List.setIfInBounds_toArray, List.set_cons_zero, List.set_cons_succ]
          refine wpAnyH_take (i := 22) (oi := { dst := some 25, op := Op.pick (Operand.tmp 19) (Operand.tmp 24) (Operand.const (Value.bool false)), type := 4, pos := "l06_mixtures.go:7", after := #[{ on := 16, ground := Ground.data }, { on := 21, ground := Ground.data }], guard := none }) (v := ?_) rfl (by kernel_rfl) (by kernel_rfl) (by kernel_rfl) (fun _ _ _ h => h) (Or.inl ⟨by rfl, ?_⟩) (by assumption) ?_
          rotate_left
          · intro wq hSw; (try dsimp only at hSw); go_simp; try (with_reducible rfl)
          try simp only [Act.put, List.setIfInBounds_toArray, List.set_cons_zero, List.set_cons_succ]
          refine wpAnyH_take (i := 23) (oi := { dst := some 26, op := Op.move (Operand.tmp 25), type := 4, pos := "l06_mixtures.go:7", after := #[{ on := 22, ground := Ground.data }, { on := 16, ground := Ground.chain }], guard := none }) (v := ?_) rfl (by kernel_rfl) (by kernel_rfl) (by kernel_rfl) (fun _ _ _ h => h) (Or.inl ⟨by rfl, ?_⟩) (by assumption) ?_
          rotate_left
          · intro wq hSw; (try dsimp only at hSw); go_simp; try (with_reducible rfl)
          try simp only [Act.put, List.setIfInBounds_toArray, List.set_cons_zero, List.set_cons_succ]
          refine wpAnyH_take (i := 24) (oi := { dst := some 27, op := Op.indexAddr 26 (Operand.tmp 1) (Operand.const (Value.int IntKind.i64 1)), type := 0, pos := "l06_mixtures.go:7", after := #[{ on := 23, ground := Ground.guard }], guard := some (23, true) }) (v := ?_) rfl (by kernel_rfl) (by kernel_rfl) (by kernel_rfl) (fun _ _ _ h => h) (Or.inl ⟨by rfl, ?_⟩) (by assumption) ?_
          rotate_left
          · intro wq hSw; (try dsimp only at hSw); go_simp; try (with_reducible rfl)
          try simp only [Act.put, List.setIfInBounds_toArray, List.set_cons_zero, List.set_cons_succ]
          refine wpAnyH_take (i := 25) (oi := { dst := some 28, op := Op.indexAddr 23 (Operand.tmp 27) (Operand.const (Value.int IntKind.i64 1)), type := 0, pos := "l06_mixtures.go:7", after := #[{ on := 24, ground := Ground.data }, { on := 23, ground := Ground.guard }], guard := some (23, true) }) (v := ?_) rfl (by kernel_rfl) (by kernel_rfl) (by kernel_rfl) (fun _ _ _ h => h) (Or.inl ⟨by rfl, ?_⟩) (by assumption) ?_
          rotate_left
          · intro wq hSw; (try dsimp only at hSw); go_simp; try (with_reducible rfl)
          try simp only [Act.put, List.setIfInBounds_toArray, List.set_cons_zero, List.set_cons_succ]
          refine wpAnyH_take (i := 26) (oi := { dst := some 29, op := Op.load 22 (Operand.tmp 28), type := 22, pos := "l06_mixtures.go:7", after := #[{ on := 25, ground := Ground.data }, { on := 23, ground := Ground.guard }], guard := some (23, true) }) (v := ?_) rfl (by kernel_rfl) (by kernel_rfl) (by kernel_rfl) (fun _ _ _ h => h) (Or.inl ⟨by rfl, ?_⟩) (by assumption) ?_
          rotate_left
          · intro wq hSw; (try dsimp only at hSw); go_simp; try (with_reducible rfl)
          try simp only [Act.put, List.setIfInBounds_toArray, List.set_cons_zero, List.set_cons_succ]
          refine wpAnyH_take (i := 27) (oi := { dst := some 30, op := Op.call { callee := Callee.builtin Builtin.real, args := #[Operand.tmp 29], argTypes := #[22] }, type := 34, pos := "l06_mixtures.go:7", after := #[{ on := 26, ground := Ground.data }, { on := 23, ground := Ground.guard }], guard := some (23, true) }) (v := ?_) rfl (by kernel_rfl) (by kernel_rfl) (by kernel_rfl) (fun _ _ _ h => h) (Or.inl ⟨by rfl, ?_⟩) (by assumption) ?_
          rotate_left
          · intro wq hSw; (try dsimp only at hSw); go_simp; try (with_reducible rfl)
          try simp only [Act.put, List.setIfInBounds_toArray, List.set_cons_zero, List.set_cons_succ]
          refine wpAnyH_take (i := 28) (oi := { dst := some 31, op := Op.binOp BinOp.geq 34 (Operand.tmp 30) (Operand.const (Value.float FloatKind.f32 0)) 34, type := 4, pos := "l06_mixtures.go:7", after := #[{ on := 27, ground := Ground.data }, { on := 23, ground := Ground.guard }], guard := some (23, true) }) (v := ?_) rfl (by kernel_rfl) (by kernel_rfl) (by kernel_rfl) (fun _ _ _ h => h) (Or.inl ⟨by rfl, ?_⟩) (by assumption) ?_
          rotate_left
          · intro wq hSw; (try dsimp only at hSw); go_simp; try (with_reducible rfl)
          try simp only [Act.put, List.setIfInBounds_toArray, List.set_cons_zero, List.set_cons_succ]
          refine wpAnyH_take (i := 29) (oi := { dst := some 32, op := Op.pick (Operand.tmp 26) (Operand.tmp 31) (Operand.const (Value.bool false)), type := 4, pos := "l06_mixtures.go:7", after := #[{ on := 23, ground := Ground.data }, { on := 28, ground := Ground.data }], guard := none }) (v := ?_) rfl (by kernel_rfl) (by kernel_rfl) (by kernel_rfl) (fun _ _ _ h => h) (Or.inl ⟨by rfl, ?_⟩) (by assumption) ?_
          rotate_left
          · intro wq hSw; (try dsimp only at hSw); go_simp; try (with_reducible rfl)
          try simp only [Act.put, List.setIfInBounds_toArray, List.set_cons_zero, List.set_cons_succ]
          refine wpAnyH_take (i := 30) (oi := { dst := some 33, op := Op.move (Operand.tmp 32), type := 4, pos := "l06_mixtures.go:7", after := #[{ on := 29, ground := Ground.data }, { on := 23, ground := Ground.chain }], guard := none }) (v := ?_) rfl (by kernel_rfl) (by kernel_rfl) (by kernel_rfl) (fun _ _ _ h => h) (Or.inl ⟨by rfl, ?_⟩) (by assumption) ?_
          rotate_left
          · intro wq hSw; (try dsimp only at hSw); go_simp; try (with_reducible rfl)
          try simp only [Act.put, List.setIfInBounds_toArray, List.set_cons_zero, List.set_cons_succ]
          refine wpAnyH_take (i := 31) (oi := { dst := some 34, op := Op.indexAddr 26 (Operand.tmp 1) (Operand.const (Value.int IntKind.i64 0)), type := 0, pos := "l06_mixtures.go:7", after := #[{ on := 30, ground := Ground.guard }], guard := some (30, true) }) (v := ?_) rfl (by kernel_rfl) (by kernel_rfl) (by kernel_rfl) (fun _ _ _ h => h) (Or.inl ⟨by rfl, ?_⟩) (by assumption) ?_
          rotate_left
          · intro wq hSw; (try dsimp only at hSw); go_simp; try (with_reducible rfl)
          try simp only [Act.put, List.setIfInBounds_toArray, List.set_cons_zero, List.set_cons_succ]
          refine wpAnyH_take (i := 32) (oi := { dst := some 35, op := Op.indexAddr 23 (Operand.tmp 34) (Operand.const (Value.int IntKind.i64 1)), type := 0, pos := "l06_mixtures.go:7", after := #[{ on := 31, ground := Ground.data }, { on := 30, ground := Ground.guard }], guard := some (30, true) }) (v := ?_) rfl (by kernel_rfl) (by kernel_rfl) (by kernel_rfl) (fun _ _ _ h => h) (Or.inl ⟨by rfl, ?_⟩) (by assumption) ?_
          rotate_left
          · intro wq hSw; (try dsimp only at hSw); go_simp; try (with_reducible rfl)
          try simp only [Act.put, List.setIfInBounds_toArray, List.set_cons_zero, List.set_cons_succ]
          refine wpAnyH_take (i := 33) (oi := { dst := some 36, op := Op.load 22 (Operand.tmp 35), type := 22, pos := "l06_mixtures.go:7", after := #[{ on := 32, ground := Ground.data }, { on := 30, ground := Ground.guard }], guard := some (30, true) }) (v := ?_) rfl (by kernel_rfl) (by kernel_rfl) (by kernel_rfl) (fun _ _ _ h => h) (Or.inl ⟨by rfl, ?_⟩) (by assumption) ?_
          rotate_left
          · intro wq hSw; (try dsimp only at hSw); go_simp; try (with_reducible rfl)
          try simp only [Act.put, List.setIfInBounds_toArray, List.set_cons_zero, List.set_cons_succ]
          refine wpAnyH_take (i := 34) (oi := { dst := some 37, op := Op.indexAddr 26 (Operand.tmp 1) (Operand.const (Value.int IntKind.i64 1)), type := 0, pos := "l06_mixtures.go:7", after := #[{ on := 30, ground := Ground.guard }], guard := some (30, true) }) (v := ?_) rfl (by kernel_rfl) (by kernel_rfl) (by kernel_rfl) (fun _ _ _ h => h) (Or.inl ⟨by rfl, ?_⟩) (by assumption) ?_
          rotate_left
          · intro wq hSw; (try dsimp only at hSw); go_simp; try (with_reducible rfl)
          try simp only [Act.put, List.setIfInBounds_toArray, List.set_cons_zero, List.set_cons_succ]
          refine wpAnyH_take (i := 35) (oi := { dst := some 38, op := Op.indexAddr 23 (Operand.tmp 37) (Operand.const (Value.int IntKind.i64 0)), type := 0, pos := "l06_mixtures.go:7", after := #[{ on := 34, ground := Ground.data }, { on := 30, ground := Ground.guard }], guard := some (30, true) }) (v := ?_) rfl (by kernel_rfl) (by kernel_rfl) (by kernel_rfl) (fun _ _ _ h => h) (Or.inl ⟨by rfl, ?_⟩) (by assumption) ?_
          rotate_left
          · intro wq hSw; (try dsimp only at hSw); go_simp; try (with_reducible rfl)
          try simp only [Act.put, List.setIfInBounds_toArray, List.set_cons_zero, List.set_cons_succ]
          refine wpAnyH_take (i := 36) (oi := { dst := some 39, op := Op.load 22 (Operand.tmp 38), type := 22, pos := "l06_mixtures.go:7", after := #[{ on := 35, ground := Ground.data }, { on := 30, ground := Ground.guard }], guard := some (30, true) }) (v := ?_) rfl (by kernel_rfl) (by kernel_rfl) (by kernel_rfl) (fun _ _ _ h => h) (Or.inl ⟨by rfl, ?_⟩) (by assumption) ?_
          rotate_left
          · intro wq hSw; (try dsimp only at hSw); go_simp; try (with_reducible rfl)
          try simp only [Act.put, List.setIfInBounds_toArray, List.set_cons_zero, List.set_cons_succ]
          refine wpAnyH_ready (rs := [37]) (by kernel_rfl) (by simp) ?_
          refine AllReadyH.cons (o := { dst := some 40, op := Op.call { callee := Callee.value (Operand.func 151), args := #[Operand.tmp 39], argTypes := #[22] }, type := 22, pos := "l06_mixtures.go:7", after := #[{ on := 36, ground := Ground.data }, { on := 30, ground := Ground.chain }, { on := 30, ground := Ground.guard }], guard := some (30, true) }) rfl (fun K hK => ?_) AllReadyH.nil
          go_simp
          go_at_call 151
          with_reducible refine (l01Conj_c p q _).mono ?_; rintro e w' ⟨rfl, rfl⟩
          refine hK.out _ _ hHeld (fun hHeld' => ?_)
          clear hK K hHeld; have hHeld := hHeld'; clear hHeld'
          try simp only [Act.put, List.setIfInBounds_toArray, List.set_cons_zero, List.set_cons_succ]
          refine wpAnyH_take (i := 38) (oi := { dst := some 41, op := Op.binOp BinOp.eql 22 (Operand.tmp 36) (Operand.tmp 40) 22, type := 4, pos := "l06_mixtures.go:7", after := #[{ on := 33, ground := Ground.data }, { on := 37, ground := Ground.data }, { on := 30, ground := Ground.guard }], guard := some (30, true) }) (v := ?_) rfl (by kernel_rfl) (by kernel_rfl) (by kernel_rfl) (fun _ _ _ h => h) (Or.inl ⟨by rfl, ?_⟩) (by assumption) ?_
          rotate_left
          · intro wq hSw; (try dsimp only at hSw); go_simp; try (with_reducible rfl)
          try simp only [Act.put, List.setIfInBounds_toArray, List.set_cons_zero, List.set_cons_succ]
          refine wpAnyH_take (i := 39) (oi := { dst := some 42, op := Op.pick (Operand.tmp 33) (Operand.tmp 41) (Operand.const (Value.bool false)), type := 4, pos := "l06_mixtures.go:7", after := #[{ on := 30, ground := Ground.data }, { on := 38, ground := Ground.data }], guard := none }) (v := ?_) rfl (by kernel_rfl) (by kernel_rfl) (by kernel_rfl) (fun _ _ _ h => h) (Or.inl ⟨by rfl, ?_⟩) (by assumption) ?_
          rotate_left
          · intro wq hSw; (try dsimp only at hSw); go_simp; try (with_reducible rfl)
          try simp only [Act.put, List.setIfInBounds_toArray, List.set_cons_zero, List.set_cons_succ]
          refine wpAnyH_take (i := 40) (oi := { dst := some 2, op := Op.assign (Operand.tmp 42), type := 4, pos := "l06_mixtures.go:7", after := #[{ on := 39, ground := Ground.data }, { on := 37, ground := Ground.chain }, { on := 0, ground := Ground.phase }, { on := 1, ground := Ground.phase }, { on := 2, ground := Ground.phase }, { on := 3, ground := Ground.phase }, { on := 4, ground := Ground.phase }, { on := 5, ground := Ground.phase }, { on := 6, ground := Ground.phase }, { on := 7, ground := Ground.phase }, { on := 8, ground := Ground.phase }, { on := 9, ground := Ground.phase }, { on := 10, ground := Ground.phase }, { on := 11, ground := Ground.phase }, { on := 12, ground := Ground.phase }, { on := 13, ground := Ground.phase }, { on := 14, ground := Ground.phase }, { on := 15, ground := Ground.phase }, { on := 16, ground := Ground.phase }, { on := 17, ground := Ground.phase }, { on := 18, ground := Ground.phase }, { on := 19, ground := Ground.phase }, { on := 20, ground := Ground.phase }, { on := 21, ground := Ground.phase }, { on := 22, ground := Ground.phase }, { on := 23, ground := Ground.phase }, { on := 24, ground := Ground.phase }, { on := 25, ground := Ground.phase }, { on := 26, ground := Ground.phase }, { on := 27, ground := Ground.phase }, { on := 28, ground := Ground.phase }, { on := 29, ground := Ground.phase }, { on := 30, ground := Ground.phase }, { on := 31, ground := Ground.phase }, { on := 32, ground := Ground.phase }, { on := 33, ground := Ground.phase }, { on := 34, ground := Ground.phase }, { on := 35, ground := Ground.phase }, { on := 36, ground := Ground.phase }, { on := 37, ground := Ground.phase }, { on := 38, ground := Ground.phase }, { on := 39, ground := Ground.phase }], guard := none }) (v := ?_) rfl (by kernel_rfl) (by kernel_rfl) (by kernel_rfl) (fun _ _ _ h => h) (Or.inl ⟨by rfl, ?_⟩) (by assumption) ?_
          rotate_left
          · intro wq hSw; (try dsimp only at hSw); go_simp; try (with_reducible rfl)
          try simp only [Act.put, List.setIfInBounds_toArray, List.set_cons_zero, List.set_cons_succ]
          refine wpAnyH_done (by kernel_rfl) ?_ _
          go_wp2
          go_ret
          exact ⟨rfl, (((New.refl w).alloc _).drew).trans hN⟩

/-- The reference's answer. -/
def mixW (x y z : Nat) : C8 := if (fin S x && fin S y && fin S z) = true then mixS x y z else bad8 1

set_option maxHeartbeats 2000000 in
theorem l00MixtureOfVector_c (x y z : Nat) (w : World) (lx : x < 2 ^ 32) (ly : y < 2 ^ 32) (lz : z < 2 ^ 32) :
    Calls Try.prog 59 #[V3 x y z] w fun e w' => e = .returned (mixW x y z).told ∧ New w w' := by
  have g1 : w.heap.size ≤ w.heap.size + 1 := Nat.le_succ _
  cases hf : (fin S x && fin S y && fin S z) with
  | false =>
    have hR : mixW x y z = bad8 1 := if_neg (by simp [hf])
    rw [hR]
    have HF := hid hf
    clear hR hf lx ly lz
    go_enter Try.func59, Try.ntmps59
    go_wp2_with fail
    refine (l02Fine_c x y z _).mono ?_; rintro e w1 ⟨rfl, hN⟩; rw [HF.out]
    obtain ⟨l1, l2, l3⟩ := hN.laws
    go_wp2
    refine bodyPost_ret (v := (bad8 1).told) (by simp [results, Try.results59, go_sem, bad8, l1, l2, l3]) rfl ⟨rfl, ?_⟩
    exact New.set4 ((((New.refl w).alloc _).alloc _).trans hN) g1 _ _ _ _
  | true =>
    have hR : mixW x y z = mixS x y z := if_pos hf
    rw [hR]
    have HF := hid hf
    simp only [Bool.and_eq_true] at hf
    obtain ⟨⟨hx, hy⟩, hz⟩ := hf
    have k1 := fun (t : TypeId) (w : World) => run_float_arith (P := Try.prog) w .add t .f32 1065353216 z _ (adds_eq fin_1 hz).1
    have k2 := fun (t : TypeId) (w : World) => run_float_arith (P := Try.prog) w .quo t .f32 (adds 1065353216 z) 1073741824 _ (divs_eq (adds1 hz) fin_2 two_ne0).1
    have k3 := fun (t : TypeId) (w : World) => run_float_arith (P := Try.prog) w .sub t .f32 1065353216 z _ (subs_eq fin_1 hz).1
    have k4 := fun (t : TypeId) (w : World) => run_float_arith (P := Try.prog) w .quo t .f32 (subs 1065353216 z) 1073741824 _ (divs_eq (subs1 hz) fin_2 two_ne0).1
    have k5 := fun (t : TypeId) (w : World) => run_float_arith (P := Try.prog) w .quo t .f32 x 1073741824 _ (divs_eq hx fin_2 two_ne0).1
    have k6 := fun (t : TypeId) (w : World) => run_float_arith (P := Try.prog) w .quo t .f32 y 1073741824 _ (divs_eq hy fin_2 two_ne0).1
    have M := hid (fun w => l06Make_c (mixA z) (mixD z) (mixP x) (mixP y) w)
    have I := hid (fun w => l06Is_c (mixA z) (mixD z) (mixP x) (mixP y) w (mixA_FW hz) (mixD_FW hz) (mixP_FW hx) (mixP_FW hy))
    clear hR hx hy hz lx ly lz
    unfold mixS
    unfold mixA mixD mixP at M I ⊢
    generalize adds 1065353216 z = a1 at *
    generalize subs 1065353216 z = d1 at *
    generalize divs a1 1073741824 = a at *
    generalize divs d1 1073741824 = d at *
    generalize divs x 1073741824 = p at *
    generalize divs y 1073741824 = q at *
    cases hb : (geB a && geB d) with
    | true =>
      rw [if_pos rfl]
      rw [hb] at I
      clear hb
      go_enter Try.func59, Try.ntmps59
      go_wp2_with fail
      refine (l02Fine_c x y z _).mono ?_; rintro e w1 ⟨rfl, hN⟩; rw [HF.out]
      obtain ⟨l1, l2, l3⟩ := hN.laws
      go_wp2_with fail
      refine (M.out _).mono ?_; rintro e w2 ⟨rfl, hN2⟩
      go_wp2_with fail
      refine (I.out _).mono ?_; rintro e w3 ⟨rfl, hN3⟩
      obtain ⟨k1, k2, k3⟩ := (hN.trans hN2).laws
      obtain ⟨i1, i2, i3⟩ := ((hN.trans hN2).trans ((New.refl w2).alloc _ |>.trans hN3)).laws
      obtain ⟨j1, j2, j3⟩ := hN3.laws
      go_wp2
      refine bodyPost_ret (v := (tabX a d p q).told) (by simp [results, Try.results59, go_sem, tabX, i1, i2, i3]) rfl ⟨rfl, ?_⟩
      exact New.set4 (((((New.refl w).alloc _).alloc _).trans (hN.trans hN2)).alloc _ |>.trans hN3) g1 _ _ _ _
    | false =>
      rw [if_neg (by simp)]
      rw [hb] at I
      clear hb
      go_enter Try.func59, Try.ntmps59
      go_wp2_with fail
      refine (l02Fine_c x y z _).mono ?_; rintro e w1 ⟨rfl, hN⟩; rw [HF.out]
      obtain ⟨l1, l2, l3⟩ := hN.laws
      go_wp2_with fail
      refine (M.out _).mono ?_; rintro e w2 ⟨rfl, hN2⟩
      go_wp2_with fail
      refine (I.out _).mono ?_; rintro e w3 ⟨rfl, hN3⟩
      obtain ⟨i1, i2, i3⟩ := ((hN.trans hN2).trans ((New.refl w2).alloc _ |>.trans hN3)).laws
      go_wp2
      refine bodyPost_ret (v := (bad8 5).told) (by simp [results, Try.results59, go_sem, bad8, i1, i2, i3]) rfl ⟨rfl, ?_⟩
      exact New.set4 (((((New.refl w).alloc _).alloc _).trans (hN.trans hN2)).alloc _ |>.trans hN3) g1 _ _ _ _

set_option maxHeartbeats 1000000 in
theorem specMixtureOfVector_c (x y z : Nat) (w : World) (lx : x < 2 ^ 32) (ly : y < 2 ^ 32) (lz : z < 2 ^ 32) :
    Calls Try.prog 19 #[V3 x y z] w fun e w' => e = .returned (nz (mixW x y z)).told ∧ New w w' := by
  have g1 : w.heap.size ≤ w.heap.size + 1 := Nat.le_succ _
  have hc := fun w => l00MixtureOfVector_c x y z w lx ly lz
  generalize mixW x y z = R at *
  obtain ⟨c, a0, a1, b0, b1, c0, c1, d0, d1⟩ := R
  go_enter Try.func19, Try.ntmps19
  go_wp2_with fail
  refine (hc _).mono ?_; rintro e w1 ⟨rfl, hN⟩
  obtain ⟨l1, l2, l3⟩ := hN.laws
  go_wp2_with fail
  refine (l00Turn_c a0 a1 b0 b1 c0 c1 d0 d1 _).mono ?_; rintro e w2 ⟨rfl, hN2⟩
  obtain ⟨k1, k2, k3⟩ := ((hN.alloc _).trans hN2).laws
  go_wp2
  refine bodyPost_ret (v := C8.told (nz (⟨c, a0, a1, b0, b1, c0, c1, d0, d1⟩ : C8))) (by simp [results, Try.results19, go_sem, l1, l2, k1, k2, k3, nz]) rfl ⟨rfl, ?_⟩
  exact New.set4 (((((New.refl w).alloc _).alloc _).trans hN).alloc _ |>.trans hN2) g1 _ _ _ _
end Go.Proofs.Ytmbjomjpnfnbkaa
