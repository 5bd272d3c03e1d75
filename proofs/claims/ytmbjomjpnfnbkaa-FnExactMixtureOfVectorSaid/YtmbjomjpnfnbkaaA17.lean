/-
  Walk of the program's MixtureOfVector.
-/
import Derived.Test.YtmbjomjpnfnbkaaA16
import Derived.Test.YtmbjomjpnfnbkaaR1
set_option linter.unusedSimpArgs false
set_option linter.unusedVariables false
namespace Go.Proofs.Ytmbjomjpnfnbkaa
open Go.RowKit Flt

/-- The program's answer. -/
def mixR (x y z : Nat) : C8 := if (fin S x && fin S y && fin S z) = true then toldC (turnM (zn (mixA z)) (zn (mixD z)) (zn (mixP x)) (zn (mixP y)) (if (geB (zn (mixA z)) && geB (zn (mixD z))) = true then 0 else 5)) else bad8 1

set_option maxRecDepth 20000 in
set_option maxHeartbeats 4000000 in
theorem mixOfV_g (x y z : Nat) (w : World) (hx : FW x) (hy : FW y) (hz : FW z) :
    Calls Try.prog 21 #[V3 x y z] w fun e w' => e = .returned (toldC (turnM (zn (mixA z)) (zn (mixD z)) (zn (mixP x)) (zn (mixP y)) (if (geB (zn (mixA z)) && geB (zn (mixD z))) = true then 0 else 5))).told ∧ New w w' := by
  have hv : (fin S x && fin S y && fin S z) = true := by rw [hx.2, hy.2, hz.2]; rfl
  have Hv := hid hv
  have C1 : ∀ b w, At b 0 w → Calls Try.prog 63 #[.pointer (some ⟨b, 0, none⟩), .float .f32 1065353216, .float .f32 z] w fun e w' => e = .returned (.float .f32 (zn (adds 1065353216 z))) ∧ w' = w := fun b w hA => by
    refine (add_c b 0 _ _ w fin_1 hz.2 hA).mono ?_
    rintro e w' ⟨rfl, rfl⟩
    rw [add1_M hz.2]; exact ⟨rfl, hA.self⟩
  have C2 : ∀ b w, At b 0 w → Calls Try.prog 62 #[.pointer (some ⟨b, 0, none⟩), .float .f32 (zn (adds 1065353216 z)), .float .f32 1073741824] w fun e w' => e = .returned (.float .f32 (zn (mixA z))) ∧ w' = w := fun b w hA => by
    refine (div_c b 0 _ _ w (zn_fin (adds1 hz.2)) fin_2 hA).mono ?_
    rintro e w' ⟨rfl, rfl⟩
    rw [half_zn (adds1 hz.2)]; exact ⟨rfl, hA.self⟩
  have C3 : ∀ b w, At b 0 w → Calls Try.prog 64 #[.pointer (some ⟨b, 0, none⟩), .float .f32 1065353216, .float .f32 z] w fun e w' => e = .returned (.float .f32 (zn (subs 1065353216 z))) ∧ w' = w := fun b w hA => by
    refine (sub_c b 0 _ _ w fin_1 hz.2 hA).mono ?_
    rintro e w' ⟨rfl, rfl⟩
    rw [sub1_M hz.2]; exact ⟨rfl, hA.self⟩
  have C4 : ∀ b w, At b 0 w → Calls Try.prog 62 #[.pointer (some ⟨b, 0, none⟩), .float .f32 (zn (subs 1065353216 z)), .float .f32 1073741824] w fun e w' => e = .returned (.float .f32 (zn (mixD z))) ∧ w' = w := fun b w hA => by
    refine (div_c b 0 _ _ w (zn_fin (subs1 hz.2)) fin_2 hA).mono ?_
    rintro e w' ⟨rfl, rfl⟩
    rw [half_zn (subs1 hz.2)]; exact ⟨rfl, hA.self⟩
  have C5 : ∀ b w, At b 0 w → Calls Try.prog 65 #[.pointer (some ⟨b, 0, none⟩), .complex .f32 x y, .float .f32 1073741824] w fun e w' => e = .returned (.complex .f32 (zn (mixP x)) (zn (mixP y))) ∧ w' = w := fun b w hA => by
    refine (parted_c b 0 _ _ _ w hx.2 hy.2 fin_2 hA).mono ?_
    rintro e w' ⟨rfl, rfl⟩
    rw [parted_M hx.2 hy.2]; exact ⟨rfl, hA.self⟩
  have fa := mixA_FW hz.2
  have fd := mixD_FW hz.2
  have fp := mixP_FW hx.2
  have fq := mixP_FW hy.2
  have wa : FW (zn (mixA z)) := ⟨zn_lt fa.1, zn_fin fa.2⟩
  have wd : FW (zn (mixD z)) := ⟨zn_lt fd.1, zn_fin fd.2⟩
  have wp : FW (zn (mixP x)) := ⟨zn_lt fp.1, zn_fin fp.2⟩
  have wq : FW (zn (mixP y)) := ⟨zn_lt fq.1, zn_fin fq.2⟩
  clear fa fd fp fq hv hx hy hz
  generalize zn (adds 1065353216 z) = a1 at *
  generalize zn (subs 1065353216 z) = d1 at *
  generalize zn (mixA z) = A at *
  generalize zn (mixD z) = D at *
  generalize zn (mixP x) = p at *
  generalize zn (mixP y) = q at *
  have C6 := fun w => isMix_c A D p q w wa.2 wd.2
  have C7 := fun b c w hA => turn_c b c A D p q w wa wd wp wq hA
  clear wa wd wp wq
  have G1 := hid C1
  have G2 := hid C2
  have G3 := hid C3
  have G4 := hid C4
  have G5 := hid C5
  have G6 := hid C6
  have G7 := hid C7
  clear C1 C2 C3 C4 C5 C6 C7
  go_enter Try.func21, Try.ntmps21
  go_wp2_with fail
  refine (isVector_c x y z _).mono ?_; rintro e w1 ⟨rfl, hN⟩; rw [Hv.out]
  obtain ⟨l1, l2, l3⟩ := hN.laws
  have hN1 := (((New.refl w).alloc _).alloc _).trans hN
  have hs := hN1.size
  have hs2 := hN.size
  simp at hs2
  have hq1 : w.heap.size ≠ w1.heap.size := by omega
  have hq2 : w.heap.size < w1.heap.size := by omega
  have hA := At.new w1 0 83
  go_wp2_with fail
  have c0 : (w1.alloc (.cells #[.int .i64 0] 83)).cell? ⟨w.heap.size, 0, none⟩ = some (.float .f32 x) := by go_simp
  have c1 : (w1.alloc (.cells #[.int .i64 0] 83)).cell? ⟨w.heap.size, 1, none⟩ = some (.float .f32 y) := by go_simp
  have c2 : (w1.alloc (.cells #[.int .i64 0] 83)).cell? ⟨w.heap.size, 2, none⟩ = some (.float .f32 z) := by go_simp
  have zc0 : (w1.alloc (.cells #[.int .i64 0] 83)).cell? ⟨w.heap.size + 1, 0, none⟩ = some (.complex .f32 0 0) := by go_simp
  have zf0 : (w1.alloc (.cells #[.int .i64 0] 83)).frozen? ⟨w.heap.size + 1, 0, none⟩ = false := by go_simp
  have zc1 : (w1.alloc (.cells #[.int .i64 0] 83)).cell? ⟨w.heap.size + 1, 1, none⟩ = some (.complex .f32 0 0) := by go_simp
  have zf1 : (w1.alloc (.cells #[.int .i64 0] 83)).frozen? ⟨w.heap.size + 1, 1, none⟩ = false := by go_simp
  have zc2 : (w1.alloc (.cells #[.int .i64 0] 83)).cell? ⟨w.heap.size + 1, 2, none⟩ = some (.complex .f32 0 0) := by go_simp
  have zf2 : (w1.alloc (.cells #[.int .i64 0] 83)).frozen? ⟨w.heap.size + 1, 2, none⟩ = false := by go_simp
  have zc3 : (w1.alloc (.cells #[.int .i64 0] 83)).cell? ⟨w.heap.size + 1, 3, none⟩ = some (.complex .f32 0 0) := by go_simp
  have zf3 : (w1.alloc (.cells #[.int .i64 0] 83)).frozen? ⟨w.heap.size + 1, 3, none⟩ = false := by go_simp
  have HN := hid (fun (c : Int) (wx : World) (hE : Ext w1.heap.size c (w1.alloc (.cells #[.int .i64 0] 83)) wx) => hN1.ext hE hs)
  have n1 : w.heap.size + 1 ≠ w1.heap.size := by omega
  have n0 : w.heap.size ≠ w1.heap.size := by omega
  have m1 : w.heap.size + 1 < (w1.alloc (.cells #[.int .i64 0] 83)).heap.size := by simp; omega
  have hs0 : w1.heap.size < (w1.alloc (.cells #[.int .i64 0] 83)).heap.size := by simp
  clear l1 l2 l3
  generalize w1.alloc (.cells #[.int .i64 0] 83) = w0 at *
  · have HS0 : w0.drew.cell? ⟨w.heap.size, 0, none⟩ = some (.float .f32 x) ∧ w0.drew.cell? ⟨w.heap.size, 1, none⟩ = some (.float .f32 y) ∧ w0.drew.cell? ⟨w.heap.size, 2, none⟩ = some (.float .f32 z) := ⟨c0, c1, c2⟩
    refine wp_region_held_drew (S := fun wx => wx.cell? ⟨w.heap.size, 0, none⟩ = some (.float .f32 x) ∧ wx.cell? ⟨w.heap.size, 1, none⟩ = some (.float .f32 y) ∧ wx.cell? ⟨w.heap.size, 2, none⟩ = some (.float .f32 z)) (by kernel_rfl) HS0 (fun hHeld => ?_)
    refine wpAnyH_take (i := 0) (oi := { dst := some 12, op := Op.move (Operand.tmp 4), type := 81, pos := "l06_mixtures.go:124", after := #[], guard := none }) (v := ?_) rfl (by kernel_rfl) (by kernel_rfl) (by kernel_rfl) (fun _ _ _ h => h) (Or.inl ⟨by rfl, ?_⟩) (by assumption) ?_
    rotate_left
    · intro wq hSw; (try dsimp only at hSw); go_simp; try (with_reducible rfl)
    try simp only [Act.put, List.setIfInBounds_toArray, List.set_cons_zero, List.set_cons_succ]
    refine wpAnyH_take (i := 1) (oi := { dst := some 13, op := Op.move (Operand.tmp 4), type := 81, pos := "l06_mixtures.go:124", after := #[], guard := none }) (v := ?_) rfl (by kernel_rfl) (by kernel_rfl) (by kernel_rfl) (fun _ _ _ h => h) (Or.inl ⟨by rfl, ?_⟩) (by assumption) ?_
    rotate_left
    · intro wq hSw; (try dsimp only at hSw); go_simp; try (with_reducible rfl)
    try simp only [Act.put, List.setIfInBounds_toArray, List.set_cons_zero, List.set_cons_succ]
    refine wpAnyH_take (i := 2) (oi := { dst := some 14, op := Op.indexAddr 38 (Operand.tmp 1) (Operand.const (Value.int IntKind.i64 2)), type := 0, pos := "l06_mixtures.go:124", after := #[], guard := none }) (v := ?_) rfl (by kernel_rfl) (by kernel_rfl) (by kernel_rfl) (fun _ _ _ h => h) (Or.inl ⟨by rfl, ?_⟩) (by assumption) ?_
    rotate_left
    · intro wq hSw; (try dsimp only at hSw); go_simp; try (with_reducible rfl)
    try simp only [Act.put, List.setIfInBounds_toArray, List.set_cons_zero, List.set_cons_succ]
    refine wpAnyH_take (i := 3) (oi := { dst := some 15, op := Op.load 34 (Operand.tmp 14), type := 34, pos := "l06_mixtures.go:124", after := #[{ on := 2, ground := Ground.data }], guard := none }) (v := ?_) rfl (by kernel_rfl) (by kernel_rfl) (by kernel_rfl) (fun _ _ _ h => h) (Or.inl ⟨by rfl, ?_⟩) (by assumption) ?_
    rotate_left
    · intro wq hSw; (try dsimp only at hSw); go_simp; try (with_reducible rfl)
    try simp only [Act.put, List.setIfInBounds_toArray, List.set_cons_zero, List.set_cons_succ]
    refine wpAnyH_take (i := 6) (oi := { dst := some 18, op := Op.move (Operand.tmp 4), type := 81, pos := "l06_mixtures.go:124", after := #[], guard := none }) (v := ?_) rfl (by kernel_rfl) (by kernel_rfl) (by kernel_rfl) (fun _ _ _ h => h) (Or.inl ⟨by rfl, ?_⟩) (by assumption) ?_
    rotate_left
    · intro wq hSw; (try dsimp only at hSw); go_simp; try (with_reducible rfl)
    try simp only [Act.put, List.setIfInBounds_toArray, List.set_cons_zero, List.set_cons_succ]
    refine wpAnyH_take (i := 7) (oi := { dst := some 19, op := Op.move (Operand.tmp 4), type := 81, pos := "l06_mixtures.go:124", after := #[], guard := none }) (v := ?_) rfl (by kernel_rfl) (by kernel_rfl) (by kernel_rfl) (fun _ _ _ h => h) (Or.inl ⟨by rfl, ?_⟩) (by assumption) ?_
    rotate_left
    · intro wq hSw; (try dsimp only at hSw); go_simp; try (with_reducible rfl)
    try simp only [Act.put, List.setIfInBounds_toArray, List.set_cons_zero, List.set_cons_succ]
    refine wpAnyH_take (i := 8) (oi := { dst := some 20, op := Op.indexAddr 38 (Operand.tmp 1) (Operand.const (Value.int IntKind.i64 2)), type := 0, pos := "l06_mixtures.go:124", after := #[], guard := none }) (v := ?_) rfl (by kernel_rfl) (by kernel_rfl) (by kernel_rfl) (fun _ _ _ h => h) (Or.inl ⟨by rfl, ?_⟩) (by assumption) ?_
    rotate_left
    · intro wq hSw; (try dsimp only at hSw); go_simp; try (with_reducible rfl)
    try simp only [Act.put, List.setIfInBounds_toArray, List.set_cons_zero, List.set_cons_succ]
    refine wpAnyH_take (i := 9) (oi := { dst := some 21, op := Op.load 34 (Operand.tmp 20), type := 34, pos := "l06_mixtures.go:124", after := #[{ on := 8, ground := Ground.data }], guard := none }) (v := ?_) rfl (by kernel_rfl) (by kernel_rfl) (by kernel_rfl) (fun _ _ _ h => h) (Or.inl ⟨by rfl, ?_⟩) (by assumption) ?_
    rotate_left
    · intro wq hSw; (try dsimp only at hSw); go_simp; try (with_reducible rfl)
    try simp only [Act.put, List.setIfInBounds_toArray, List.set_cons_zero, List.set_cons_succ]
    refine wpAnyH_take (i := 12) (oi := { dst := some 24, op := Op.move (Operand.tmp 4), type := 81, pos := "l06_mixtures.go:124", after := #[], guard := none }) (v := ?_) rfl (by kernel_rfl) (by kernel_rfl) (by kernel_rfl) (fun _ _ _ h => h) (Or.inl ⟨by rfl, ?_⟩) (by assumption) ?_
    rotate_left
    · intro wq hSw; (try dsimp only at hSw); go_simp; try (with_reducible rfl)
    try simp only [Act.put, List.setIfInBounds_toArray, List.set_cons_zero, List.set_cons_succ]
    refine wpAnyH_take (i := 13) (oi := { dst := some 25, op := Op.indexAddr 38 (Operand.tmp 1) (Operand.const (Value.int IntKind.i64 0)), type := 0, pos := "l06_mixtures.go:124", after := #[], guard := none }) (v := ?_) rfl (by kernel_rfl) (by kernel_rfl) (by kernel_rfl) (fun _ _ _ h => h) (Or.inl ⟨by rfl, ?_⟩) (by assumption) ?_
    rotate_left
    · intro wq hSw; (try dsimp only at hSw); go_simp; try (with_reducible rfl)
    try simp only [Act.put, List.setIfInBounds_toArray, List.set_cons_zero, List.set_cons_succ]
    refine wpAnyH_take (i := 14) (oi := { dst := some 26, op := Op.load 34 (Operand.tmp 25), type := 34, pos := "l06_mixtures.go:124", after := #[{ on := 13, ground := Ground.data }], guard := none }) (v := ?_) rfl (by kernel_rfl) (by kernel_rfl) (by kernel_rfl) (fun _ _ _ h => h) (Or.inl ⟨by rfl, ?_⟩) (by assumption) ?_
    rotate_left
    · intro wq hSw; (try dsimp only at hSw); go_simp; try (with_reducible rfl)
    try simp only [Act.put, List.setIfInBounds_toArray, List.set_cons_zero, List.set_cons_succ]
    refine wpAnyH_take (i := 15) (oi := { dst := some 27, op := Op.indexAddr 38 (Operand.tmp 1) (Operand.const (Value.int IntKind.i64 1)), type := 0, pos := "l06_mixtures.go:124", after := #[], guard := none }) (v := ?_) rfl (by kernel_rfl) (by kernel_rfl) (by kernel_rfl) (fun _ _ _ h => h) (Or.inl ⟨by rfl, ?_⟩) (by assumption) ?_
    rotate_left
    · intro wq hSw; (try dsimp only at hSw); go_simp; try (with_reducible rfl)
    try simp only [Act.put, List.setIfInBounds_toArray, List.set_cons_zero, List.set_cons_succ]
    refine wpAnyH_take (i := 16) (oi := { dst := some 28, op := Op.load 34 (Operand.tmp 27), type := 34, pos := "l06_mixtures.go:124", after := #[{ on := 15, ground := Ground.data }], guard := none }) (v := ?_) rfl (by kernel_rfl) (by kernel_rfl) (by kernel_rfl) (fun _ _ _ h => h) (Or.inl ⟨by rfl, ?_⟩) (by assumption) ?_
    rotate_left
    · intro wq hSw; (try dsimp only at hSw); go_simp; try (with_reducible rfl)
    try simp only [Act.put, List.setIfInBounds_toArray, List.set_cons_zero, List.set_cons_succ]
    refine wpAnyH_take (i := 17) (oi := { dst := some 29, op := Op.call { callee := Callee.builtin Builtin.complex, args := #[Operand.tmp 26, Operand.tmp 28], argTypes := #[34, 34] }, type := 22, pos := "l06_mixtures.go:124", after := #[{ on := 14, ground := Ground.data }, { on := 16, ground := Ground.data }], guard := none }) (v := ?_) rfl (by kernel_rfl) (by kernel_rfl) (by kernel_rfl) (fun _ _ _ h => h) (Or.inl ⟨by rfl, ?_⟩) (by assumption) ?_
    rotate_left
    · intro wq hSw; (try dsimp only at hSw); go_simp; try (with_reducible rfl)
    try simp only [Act.put, List.setIfInBounds_toArray, List.set_cons_zero, List.set_cons_succ]
    refine chain_one' (n := 1) (m := 6) (fun k => match k with | 0 => 4 | 1 => 5 | 2 => 10 | 3 => 11 | 4 => 18 | _ => 19) 20 (fun k => match k with | 0 => { dst := some 16, op := Op.call { callee := Callee.value (Operand.func 63), args := #[Operand.tmp 13, Operand.const (Value.float FloatKind.f32 1065353216), Operand.tmp 15], argTypes := #[81, 34, 34] }, type := 34, pos := "l06_mixtures.go:124", after := #[{ on := 1, ground := Ground.data }, { on := 3, ground := Ground.data }], guard := none } | 1 => { dst := some 17, op := Op.call { callee := Callee.value (Operand.func 62), args := #[Operand.tmp 12, Operand.tmp 16, Operand.const (Value.float FloatKind.f32 1073741824)], argTypes := #[81, 34, 34] }, type := 34, pos := "l06_mixtures.go:124", after := #[{ on := 0, ground := Ground.data }, { on := 4, ground := Ground.data }, { on := 4, ground := Ground.chain }], guard := none } | 2 => { dst := some 22, op := Op.call { callee := Callee.value (Operand.func 64), args := #[Operand.tmp 19, Operand.const (Value.float FloatKind.f32 1065353216), Operand.tmp 21], argTypes := #[81, 34, 34] }, type := 34, pos := "l06_mixtures.go:124", after := #[{ on := 7, ground := Ground.data }, { on := 9, ground := Ground.data }, { on := 5, ground := Ground.chain }], guard := none } | 3 => { dst := some 23, op := Op.call { callee := Callee.value (Operand.func 62), args := #[Operand.tmp 18, Operand.tmp 22, Operand.const (Value.float FloatKind.f32 1073741824)], argTypes := #[81, 34, 34] }, type := 34, pos := "l06_mixtures.go:124", after := #[{ on := 6, ground := Ground.data }, { on := 10, ground := Ground.data }, { on := 10, ground := Ground.chain }], guard := none } | 4 => { dst := some 30, op := Op.call { callee := Callee.value (Operand.func 65), args := #[Operand.tmp 24, Operand.tmp 29, Operand.const (Value.float FloatKind.f32 1073741824)], argTypes := #[81, 22, 34] }, type := 22, pos := "l06_mixtures.go:124", after := #[{ on := 12, ground := Ground.data }, { on := 17, ground := Ground.data }, { on := 11, ground := Ground.chain }], guard := none } | _ => { dst := some 31, op := Op.build 87 #[(0, Operand.tmp 17), (1, Operand.tmp 23), (2, Operand.tmp 30)], type := 87, pos := "l06_mixtures.go:124", after := #[{ on := 5, ground := Ground.data }, { on := 11, ground := Ground.data }, { on := 18, ground := Ground.data }], guard := none }) ({ dst := some 5, op := Op.alloc 87, type := 0, pos := "l06_mixtures.go:124", after := #[], guard := none }) (fun k d => #[true, true, true, true, decide (0 < k), decide (1 < k), true, true, true, true, decide (2 < k), decide (3 < k), true, true, true, true, true, true, decide (4 < k), decide (5 < k), d, false]) (fun k d a wx => ∃ v5 v16 v17 v22 v23 v30 v31 : Value, a = ⟨#[V3 x y z, .pointer (some ⟨w.heap.size, 0, none⟩), .pointer (some ⟨w.heap.size + 1, 0, none⟩), .int .i64 0, .pointer (some ⟨w1.heap.size, 0, none⟩), v5, V3 x y z, .bool true, .bool false, undef, .agg #[.int .i64 0], .pointer (some ⟨w1.heap.size, 0, none⟩), .pointer (some ⟨w1.heap.size, 0, none⟩), .pointer (some ⟨w1.heap.size, 0, none⟩), .pointer (some ⟨w.heap.size, 2, none⟩), .float .f32 z, v16, v17, .pointer (some ⟨w1.heap.size, 0, none⟩), .pointer (some ⟨w1.heap.size, 0, none⟩), .pointer (some ⟨w.heap.size, 2, none⟩), .float .f32 z, v22, v23, .pointer (some ⟨w1.heap.size, 0, none⟩), .pointer (some ⟨w.heap.size, 0, none⟩), .float .f32 x, .pointer (some ⟨w.heap.size, 1, none⟩), .float .f32 y, .complex .f32 x y, v30, v31, undef, undef, undef, undef, undef, undef, undef, undef, undef, undef, undef, undef], []⟩ ∧ (1 ≤ k → v16 = .float .f32 a1) ∧ (2 ≤ k → v17 = .float .f32 A) ∧ (3 ≤ k → v22 = .float .f32 d1) ∧ (4 ≤ k → v23 = .float .f32 D) ∧ (5 ≤ k → v30 = .complex .f32 p q) ∧ (6 ≤ k → v31 = Mx A D p q) ∧ (d = false → wx = w0.drew) ∧ (d = true → v5 = .pointer (some ⟨w0.heap.size, 0, none⟩) ∧ wx = w0.drew.alloc (.cells #[.float .f32 0, .float .f32 0, .complex .f32 0 0] 87))) (by rfl) (by kernel_rfl) ?hr ?hl1 ?hl2 ?ho rfl ?s ?t ?e ⟨undef, undef, undef, undef, undef, undef, undef, rfl, (fun h => absurd h (by decide)), (fun h => absurd h (by decide)), (fun h => absurd h (by decide)), (fun h => absurd h (by decide)), (fun h => absurd h (by decide)), (fun h => absurd h (by decide)), fun _ => rfl, (fun h => nomatch h)⟩
    case hr =>
      intro k d hk hd
      rcases k with _ | _ | _ | _ | _ | _ | _ | k
      all_goals first | (exact absurd hk (by omega)) | (cases d <;> first | (exact absurd (hd rfl) (by decide)) | kernel_rfl)
    case hl1 =>
      intro k d hk
      rcases k with _ | _ | _ | _ | _ | _ | k
      all_goals first | (exact absurd hk (by omega)) | kernel_rfl
    case hl2 =>
      intro k hk
      rcases k with _ | _ | _ | _ | _ | _ | _ | k
      all_goals first | (exact absurd hk (by omega)) | kernel_rfl
    case ho =>
      intro k hk
      rcases k with _ | _ | _ | _ | _ | _ | k
      all_goals first | (exact absurd hk (by omega)) | rfl
    case s =>
      intro k d a wx hk hI
      obtain ⟨v5, v16, v17, v22, v23, v30, v31, rfl, e1, e2, e3, e4, e5, e6, hd0, hd1⟩ := hI
      have hAt : At w1.heap.size 0 wx := by
        cases d with
        | false => rw [hd0 rfl]; exact hA.drew
        | true => rw [(hd1 rfl).2]; exact hA.drew.alloc _
      have hSx : wx.cell? ⟨w.heap.size, 0, none⟩ = some (.float .f32 x) ∧ wx.cell? ⟨w.heap.size, 1, none⟩ = some (.float .f32 y) ∧ wx.cell? ⟨w.heap.size, 2, none⟩ = some (.float .f32 z) := by
        cases d with
        | false => rw [hd0 rfl]; exact HS0
        | true => rw [(hd1 rfl).2]; exact ⟨cell_alloc HS0.1 _, cell_alloc HS0.2.1 _, cell_alloc HS0.2.2 _⟩
      rcases k with _ | _ | _ | _ | _ | _ | k
      · intro K hK
        go_simp
        go_at_call 63
        with_reducible refine (G1.out _ _ hAt).mono ?_; rintro e wA ⟨rfl, rfl⟩
        try simp only [Act.put, List.setIfInBounds_toArray, List.set_cons_zero, List.set_cons_succ]
        exact hK.out _ _ hSx ⟨v5, _, v17, v22, v23, v30, v31, rfl, fun _ => rfl, (fun h => absurd h (by decide)), (fun h => absurd h (by decide)), (fun h => absurd h (by decide)), (fun h => absurd h (by decide)), (fun h => absurd h (by decide)), hd0, hd1⟩
      · intro K hK
        obtain rfl := e1 (by decide)
        go_simp
        go_at_call 62
        with_reducible refine (G2.out _ _ hAt).mono ?_; rintro e wA ⟨rfl, rfl⟩
        try simp only [Act.put, List.setIfInBounds_toArray, List.set_cons_zero, List.set_cons_succ]
        exact hK.out _ _ hSx ⟨v5, _, _, v22, v23, v30, v31, rfl, fun _ => rfl, fun _ => rfl, (fun h => absurd h (by decide)), (fun h => absurd h (by decide)), (fun h => absurd h (by decide)), (fun h => absurd h (by decide)), hd0, hd1⟩
      · intro K hK
        obtain rfl := e1 (by decide)
        obtain rfl := e2 (by decide)
        go_simp
        go_at_call 64
        with_reducible refine (G3.out _ _ hAt).mono ?_; rintro e wA ⟨rfl, rfl⟩
        try simp only [Act.put, List.setIfInBounds_toArray, List.set_cons_zero, List.set_cons_succ]
        exact hK.out _ _ hSx ⟨v5, _, _, _, v23, v30, v31, rfl, fun _ => rfl, fun _ => rfl, fun _ => rfl, (fun h => absurd h (by decide)), (fun h => absurd h (by decide)), (fun h => absurd h (by decide)), hd0, hd1⟩
      · intro K hK
        obtain rfl := e1 (by decide)
        obtain rfl := e2 (by decide)
        obtain rfl := e3 (by decide)
        go_simp
        go_at_call 62
        with_reducible refine (G4.out _ _ hAt).mono ?_; rintro e wA ⟨rfl, rfl⟩
        try simp only [Act.put, List.setIfInBounds_toArray, List.set_cons_zero, List.set_cons_succ]
        exact hK.out _ _ hSx ⟨v5, _, _, _, _, v30, v31, rfl, fun _ => rfl, fun _ => rfl, fun _ => rfl, fun _ => rfl, (fun h => absurd h (by decide)), (fun h => absurd h (by decide)), hd0, hd1⟩
      · intro K hK
        obtain rfl := e1 (by decide)
        obtain rfl := e2 (by decide)
        obtain rfl := e3 (by decide)
        obtain rfl := e4 (by decide)
        go_simp
        go_at_call 65
        with_reducible refine (G5.out _ _ hAt).mono ?_; rintro e wA ⟨rfl, rfl⟩
        try simp only [Act.put, List.setIfInBounds_toArray, List.set_cons_zero, List.set_cons_succ]
        exact hK.out _ _ hSx ⟨v5, _, _, _, _, _, v31, rfl, fun _ => rfl, fun _ => rfl, fun _ => rfl, fun _ => rfl, fun _ => rfl, (fun h => absurd h (by decide)), hd0, hd1⟩
      · intro K hK
        obtain rfl := e1 (by decide)
        obtain rfl := e2 (by decide)
        obtain rfl := e3 (by decide)
        obtain rfl := e4 (by decide)
        obtain rfl := e5 (by decide)
        go_simp
        try simp only [Act.put, List.setIfInBounds_toArray, List.set_cons_zero, List.set_cons_succ]
        exact hK.out _ _ hSx ⟨v5, _, _, _, _, _, _, rfl, fun _ => rfl, fun _ => rfl, fun _ => rfl, fun _ => rfl, fun _ => rfl, fun _ => rfl, hd0, hd1⟩
      · exact absurd hk (by omega)
    case t =>
      intro k a wx hk hI K hK
      obtain ⟨v5, v16, v17, v22, v23, v30, v31, rfl, e1, e2, e3, e4, e5, e6, hd0, hd1⟩ := hI
      obtain rfl := hd0 rfl
      have E := hid (And.intro e1 (And.intro e2 (And.intro e3 (And.intro e4 (And.intro e5 e6)))))
      clear e1 e2 e3 e4 e5 e6 hd0 hd1
      go_simp
      try simp only [Act.put, List.setIfInBounds_toArray, List.set_cons_zero, List.set_cons_succ]
      exact hK.out _ _ ⟨cell_alloc HS0.1 _, cell_alloc HS0.2.1 _, cell_alloc HS0.2.2 _⟩ ⟨_, v16, v17, v22, v23, v30, v31, rfl, E.out.1, E.out.2.1, E.out.2.2.1, E.out.2.2.2.1, E.out.2.2.2.2.1, E.out.2.2.2.2.2, (fun h => nomatch h), fun _ => ⟨rfl, rfl⟩⟩
    case e =>
      intro a wx hI
      obtain ⟨v5, v16, v17, v22, v23, v30, v31, rfl, e1, e2, e3, e4, e5, e6, hd0, hd1⟩ := hI
      obtain rfl := e1 (by decide)
      obtain rfl := e2 (by decide)
      obtain rfl := e3 (by decide)
      obtain rfl := e4 (by decide)
      obtain rfl := e5 (by decide)
      obtain rfl := e6 (by decide)
      obtain ⟨rfl, rfl⟩ := hd1 rfl
      clear e1 e2 e3 e4 e5 e6 hd0 hd1
      have hHeld : True := trivial
      refine wpAnyH_ready (rs := [21]) (by kernel_rfl) (by simp) ?_
      refine AllReadyH.cons (o := { dst := none, op := Op.store 87 (Operand.tmp 5) (Operand.tmp 31), type := 0, pos := "l06_mixtures.go:124", after := #[{ on := 20, ground := Ground.data }, { on := 19, ground := Ground.data }, { on := 18, ground := Ground.chain }, { on := 0, ground := Ground.phase }, { on := 1, ground := Ground.phase }, { on := 2, ground := Ground.phase }, { on := 3, ground := Ground.phase }, { on := 4, ground := Ground.phase }, { on := 5, ground := Ground.phase }, { on := 6, ground := Ground.phase }, { on := 7, ground := Ground.phase }, { on := 8, ground := Ground.phase }, { on := 9, ground := Ground.phase }, { on := 10, ground := Ground.phase }, { on := 11, ground := Ground.phase }, { on := 12, ground := Ground.phase }, { on := 13, ground := Ground.phase }, { on := 14, ground := Ground.phase }, { on := 15, ground := Ground.phase }, { on := 16, ground := Ground.phase }, { on := 17, ground := Ground.phase }, { on := 18, ground := Ground.phase }, { on := 19, ground := Ground.phase }, { on := 20, ground := Ground.phase }], guard := none }) rfl (fun K hK => ?_) AllReadyH.nil
      go_simp
      refine hK.out _ _ (by refine ⟨?_, ?_, ?_⟩ <;> (go_simp; exact cell_alloc (by with_reducible assumption) _)) (fun hHeld' => ?_)
      clear hK K hHeld; have hHeld := hHeld'; clear hHeld'
      try simp only [Act.put, List.setIfInBounds_toArray, List.set_cons_zero, List.set_cons_succ]
      refine wpAnyH_done (by kernel_rfl) ?_ _
      have hX0 := ((Ext.refl hA).alloc (.cells #[.float .f32 A, .float .f32 D, .complex .f32 p q] 87)).drew
      go_wp2_with fail
      refine (G6.out _).mono ?_; rintro e w2 ⟨rfl, hN2⟩
      have hX2 := Ext.new hX0 hN2
      have x0 := hN2.cell_at (k := w0.heap.size) (o := 0) (v := .float .f32 A) (by go_simp)
      have x1 := hN2.cell_at (k := w0.heap.size) (o := 1) (v := .float .f32 D) (by go_simp)
      have x2 := hN2.cell_at (k := w0.heap.size) (o := 2) (v := .complex .f32 p q) (by go_simp)
      replace zc0 := hN2.cell_at (cell_alloc zc0 (.cells #[.float .f32 A, .float .f32 D, .complex .f32 p q] 87))
      replace zf0 := hN2.frozen_at (k := w.heap.size + 1) (o := 0) (by simp; omega) (frozen_alloc m1 zf0 (.cells #[.float .f32 A, .float .f32 D, .complex .f32 p q] 87))
      replace zc1 := hN2.cell_at (cell_alloc zc1 (.cells #[.float .f32 A, .float .f32 D, .complex .f32 p q] 87))
      replace zf1 := hN2.frozen_at (k := w.heap.size + 1) (o := 1) (by simp; omega) (frozen_alloc m1 zf1 (.cells #[.float .f32 A, .float .f32 D, .complex .f32 p q] 87))
      replace zc2 := hN2.cell_at (cell_alloc zc2 (.cells #[.float .f32 A, .float .f32 D, .complex .f32 p q] 87))
      replace zf2 := hN2.frozen_at (k := w.heap.size + 1) (o := 2) (by simp; omega) (frozen_alloc m1 zf2 (.cells #[.float .f32 A, .float .f32 D, .complex .f32 p q] 87))
      replace zc3 := hN2.cell_at (cell_alloc zc3 (.cells #[.float .f32 A, .float .f32 D, .complex .f32 p q] 87))
      replace zf3 := hN2.frozen_at (k := w.heap.size + 1) (o := 3) (by simp; omega) (frozen_alloc m1 zf3 (.cells #[.float .f32 A, .float .f32 D, .complex .f32 p q] 87))
      have hz := cell_lt zc0
      have hx2 := cell_lt x0
      have ne2 : w0.heap.size ≠ w1.heap.size := by omega
      clear hX0 hN2 c0 c1 c2 HS0 hA hHeld
      cases hb : (geB A && geB D) with
      | true =>
        have HB := hid hb
        clear hb
        have hX3 := hX2
        go_wp2_with fail
        with_reducible refine (G7.out _ 0 _ hX3.at_).mono ?_; rintro e w3 ⟨rfl, hE3⟩
        have zc0' := hE3.cell_at zc0 n1
        have zf0' := hE3.frozen_at hz zf0 n1
        have zc1' := hE3.cell_at zc1 n1
        have zf1' := hE3.frozen_at hz zf1 n1
        have zc2' := hE3.cell_at zc2 n1
        have zf2' := hE3.frozen_at hz zf2 n1
        have zc3' := hE3.cell_at zc3 n1
        have zf3' := hE3.frozen_at hz zf3 n1
        have hz3 := cell_lt zc0'
        have H10 := hid (fun (w' : World) hA => toldT_c w1.heap.size (turnM A D p q 0) w' hA)
        have HV := hid (rfl : toldC (turnM A D p q 0) = toldC (turnM A D p q 0))
        go_wp2_with fail
        with_reducible refine (H10.out _ hE3.at_).mono ?_; rintro e w4 ⟨rfl, hN4⟩
        have zd0 := hN4.cell_at zc0'
        have ze0 := hN4.frozen_at hz3 zf0'
        have zd1 := hN4.cell_at zc1'
        have ze1 := hN4.frozen_at hz3 zf1'
        have zd2 := hN4.cell_at zc2'
        have ze2 := hN4.frozen_at hz3 zf2'
        have zd3 := hN4.cell_at zc3'
        have ze3 := hN4.frozen_at hz3 zf3'
        go_wp2
        refine bodyPost_ret (v := (toldC (turnM A D p q 0)).told) (by simp [results, Try.results21, go_sem, zd0, zd1, zd2, zd3]) rfl ⟨rfl, ?_⟩
        have g1 : w.heap.size ≤ w.heap.size + 1 := Nat.le_succ _
        exact New.set4 ((HN.out _ _ (Ext.trans hX3 hE3)).trans hN4) g1 _ _ _ _
      | false =>
        have HB := hid (show ¬ (geB A && geB D) = true by rw [hb]; simp)
        clear hb
        have hA2 := hX2.at_
        go_wp2_with fail
        refine (fail_c w1.heap.size 0 5 _ hA2).mono ?_; rintro e w' ⟨rfl, rfl⟩
        have hX3 := hX2.set 5
        have hA3 : At w1.heap.size 5 (w2.setCell ⟨w1.heap.size, 0, none⟩ (.int .i64 (failc 5 0))) := hA2.set 5
        replace x0 : (w2.setCell ⟨w1.heap.size, 0, none⟩ (.int .i64 (failc 5 0))).cell? ⟨w0.heap.size, 0, none⟩ = some (.float .f32 A) := by rw [World.cell?_setCell_other _ _ _ _ (by simp <;> omega)]; exact x0
        replace x1 : (w2.setCell ⟨w1.heap.size, 0, none⟩ (.int .i64 (failc 5 0))).cell? ⟨w0.heap.size, 1, none⟩ = some (.float .f32 D) := by rw [World.cell?_setCell_other _ _ _ _ (by simp <;> omega)]; exact x1
        replace x2 : (w2.setCell ⟨w1.heap.size, 0, none⟩ (.int .i64 (failc 5 0))).cell? ⟨w0.heap.size, 2, none⟩ = some (.complex .f32 p q) := by rw [World.cell?_setCell_other _ _ _ _ (by simp <;> omega)]; exact x2
        replace zc0 : (w2.setCell ⟨w1.heap.size, 0, none⟩ (.int .i64 (failc 5 0))).cell? ⟨w.heap.size + 1, 0, none⟩ = some (.complex .f32 0 0) := by rw [World.cell?_setCell_other _ _ _ _ (by simp <;> omega)]; exact zc0
        replace zf0 : (w2.setCell ⟨w1.heap.size, 0, none⟩ (.int .i64 (failc 5 0))).frozen? ⟨w.heap.size + 1, 0, none⟩ = false := by rw [World.frozen?_setCell]; exact zf0
        replace zc1 : (w2.setCell ⟨w1.heap.size, 0, none⟩ (.int .i64 (failc 5 0))).cell? ⟨w.heap.size + 1, 1, none⟩ = some (.complex .f32 0 0) := by rw [World.cell?_setCell_other _ _ _ _ (by simp <;> omega)]; exact zc1
        replace zf1 : (w2.setCell ⟨w1.heap.size, 0, none⟩ (.int .i64 (failc 5 0))).frozen? ⟨w.heap.size + 1, 1, none⟩ = false := by rw [World.frozen?_setCell]; exact zf1
        replace zc2 : (w2.setCell ⟨w1.heap.size, 0, none⟩ (.int .i64 (failc 5 0))).cell? ⟨w.heap.size + 1, 2, none⟩ = some (.complex .f32 0 0) := by rw [World.cell?_setCell_other _ _ _ _ (by simp <;> omega)]; exact zc2
        replace zf2 : (w2.setCell ⟨w1.heap.size, 0, none⟩ (.int .i64 (failc 5 0))).frozen? ⟨w.heap.size + 1, 2, none⟩ = false := by rw [World.frozen?_setCell]; exact zf2
        replace zc3 : (w2.setCell ⟨w1.heap.size, 0, none⟩ (.int .i64 (failc 5 0))).cell? ⟨w.heap.size + 1, 3, none⟩ = some (.complex .f32 0 0) := by rw [World.cell?_setCell_other _ _ _ _ (by simp <;> omega)]; exact zc3
        replace zf3 : (w2.setCell ⟨w1.heap.size, 0, none⟩ (.int .i64 (failc 5 0))).frozen? ⟨w.heap.size + 1, 3, none⟩ = false := by rw [World.frozen?_setCell]; exact zf3
        replace hX3 : Ext w1.heap.size 5 w0 (w2.setCell ⟨w1.heap.size, 0, none⟩ (.int .i64 (failc 5 0))) := hX3
        clear hA2 hX2
        generalize w2.setCell ⟨w1.heap.size, 0, none⟩ (.int .i64 (failc 5 0)) = w2' at *
        replace hz := cell_lt zc0
        go_wp2_with fail
        with_reducible refine (G7.out _ 5 _ hA3).mono ?_; rintro e w3 ⟨rfl, hE3⟩
        have zc0' := hE3.cell_at zc0 n1
        have zf0' := hE3.frozen_at hz zf0 n1
        have zc1' := hE3.cell_at zc1 n1
        have zf1' := hE3.frozen_at hz zf1 n1
        have zc2' := hE3.cell_at zc2 n1
        have zf2' := hE3.frozen_at hz zf2 n1
        have zc3' := hE3.cell_at zc3 n1
        have zf3' := hE3.frozen_at hz zf3 n1
        have hz3 := cell_lt zc0'
        have H10 := hid (fun (w' : World) hA => toldT_c w1.heap.size (turnM A D p q 5) w' hA)
        have HV := hid (rfl : toldC (turnM A D p q 5) = toldC (turnM A D p q 5))
        go_wp2_with fail
        with_reducible refine (H10.out _ hE3.at_).mono ?_; rintro e w4 ⟨rfl, hN4⟩
        have zd0 := hN4.cell_at zc0'
        have ze0 := hN4.frozen_at hz3 zf0'
        have zd1 := hN4.cell_at zc1'
        have ze1 := hN4.frozen_at hz3 zf1'
        have zd2 := hN4.cell_at zc2'
        have ze2 := hN4.frozen_at hz3 zf2'
        have zd3 := hN4.cell_at zc3'
        have ze3 := hN4.frozen_at hz3 zf3'
        go_wp2
        refine bodyPost_ret (v := (toldC (turnM A D p q 5)).told) (by simp [results, Try.results21, go_sem, zd0, zd1, zd2, zd3]) rfl ⟨rfl, ?_⟩
        have g1 : w.heap.size ≤ w.heap.size + 1 := Nat.le_succ _
        exact New.set4 ((HN.out _ _ (Ext.trans hX3 hE3)).trans hN4) g1 _ _ _ _

set_option maxHeartbeats 1000000 in
theorem mixtureOfVector_c (x y z : Nat) (w : World) (hx : x < 2 ^ 32) (hy : y < 2 ^ 32) (hz : z < 2 ^ 32) :
    Calls Try.prog 21 #[V3 x y z] w fun e w' => e = .returned (mixR x y z).told ∧ New w w' := by
  cases hf : (fin S x && fin S y && fin S z) with
  | false =>
    have hR : mixR x y z = bad8 1 := if_neg (by simp [hf])
    rw [hR]
    have HF := hid hf
    clear hR hf hx hy hz
    have g1 : w.heap.size ≤ w.heap.size + 1 := Nat.le_succ _
    go_enter Try.func21, Try.ntmps21
    go_wp2_with fail
    refine (isVector_c x y z _).mono ?_; rintro e w1 ⟨rfl, hN⟩; rw [HF.out]
    obtain ⟨l1, l2, l3⟩ := hN.laws
    go_wp2
    refine bodyPost_ret (v := (bad8 1).told) (by simp [results, Try.results21, go_sem, bad8, l1, l2, l3]) rfl ⟨rfl, ?_⟩
    exact New.set4 ((((New.refl w).alloc _).alloc _).trans hN) g1 _ _ _ _
  | true =>
    have hR : mixR x y z = toldC (turnM (zn (mixA z)) (zn (mixD z)) (zn (mixP x)) (zn (mixP y)) (if (geB (zn (mixA z)) && geB (zn (mixD z))) = true then 0 else 5)) := if_pos hf
    rw [hR]
    simp only [Bool.and_eq_true] at hf
    exact mixOfV_g x y z w ⟨hx, hf.1.1⟩ ⟨hy, hf.1.2⟩ ⟨hz, hf.2⟩
end Go.Proofs.Ytmbjomjpnfnbkaa
