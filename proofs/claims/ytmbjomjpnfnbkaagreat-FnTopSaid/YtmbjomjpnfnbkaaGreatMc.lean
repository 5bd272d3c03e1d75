/-
  Walks of the sources of numbers.
-/
import Derived.Test.YtmbjomjpnfnbkaaGreatK2
import Derived.Test.YtmbjomjpnfnbkaaGreatP16
set_option linter.unusedSimpArgs false
set_option linter.unusedVariables false
namespace Go.Proofs.YtmbjomjpnfnbkaaGreat
open Go.RowKit Flt

/-- A source of numbers at a block: its bytes, where it stands, its state. -/
structure Src (w : World) (s : Nat) (cv : Value) (n : Nat) : Prop where
  code : w.cell? ⟨s, 0, none⟩ = some cv
  at_ : ∃ a : Nat, a ≤ n ∧ w.cell? ⟨s, 1, none⟩ = some (.int .i64 a)
  hash : ∃ h : Int, w.cell? ⟨s, 2, none⟩ = some (.int .u64 h)
  f1 : w.frozen? ⟨s, 1, none⟩ = false
  f2 : w.frozen? ⟨s, 2, none⟩ = false

theorem and_le (x : Int) (m : Nat) (hm : m < 2 ^ 32) : ∃ r : Int, 0 ≤ r ∧ r ≤ m ∧ wrap64 (bits .and .u64 x m) = r := by
  have key : (BitVec.ofInt 64 x &&& BitVec.ofInt 64 (m : Int)).toNat ≤ m := by
    rw [BitVec.toNat_and]
    refine Nat.le_trans Nat.and_le_right ?_
    simp [BitVec.toNat_ofInt]
    omega
  refine ⟨((BitVec.ofInt 64 x &&& BitVec.ofInt 64 (m : Int)).toNat : Int), by omega, by omega, ?_⟩
  have e : bits .and .u64 x m = IntKind.u64.wrap ((BitVec.ofInt 64 x &&& BitVec.ofInt 64 (m : Int)).toNat : Int) := rfl
  rw [e]
  generalize (BitVec.ofInt 64 x &&& BitVec.ofInt 64 (m : Int)).toNat = y at *
  unfold IntKind.wrap wrap64
  simp only [IntKind.bits, IntKind.signed]
  simp
  omega

theorem Grow.refl (w : World) (r : Option Nat) : w.grownBy w r := ⟨rfl, rfl, rfl, Nat.le_refl _, fun _ _ _ => rfl⟩
theorem _root_.Go.World.grownBy.set {w w' : World} {r : Option Nat} (h : w.grownBy w' r) (s o : Nat) (v : Value) (hr : r = some s) : w.grownBy (w'.setCell ⟨s, o, none⟩ v) r :=
  ⟨h.os, h.tape, h.output, by simpa using h.size, fun k hk hne => by
    rw [Below.heap_setCell _ _ _ _ (fun he => hne (by rw [hr, he]))]; exact h.block k hk hne⟩
theorem _root_.Go.World.grownBy.drew {w w' : World} {r : Option Nat} (h : w.grownBy w' r) : w.grownBy w'.drew r := ⟨h.os, h.tape, h.output, h.size, h.block⟩
theorem _root_.Go.World.grownBy.alloc {w w' : World} {r : Option Nat} (h : w.grownBy w' r) (o : Obj) : w.grownBy (w'.alloc o) r :=
  ⟨h.os, h.tape, h.output, by have := h.size; simp; omega, fun k hk hne => by
    rw [Below.heap_alloc _ _ _ (by have := h.size; omega)]; exact h.block k hk hne⟩
theorem _root_.Go.World.grownBy.trans {a b c : World} {r : Option Nat} (h : a.grownBy b r) (k : b.grownBy c r) : a.grownBy c r :=
  ⟨k.os.trans h.os, k.tape.trans h.tape, k.output.trans h.output, Nat.le_trans h.size k.size, fun i hi hne => (k.block i (Nat.lt_of_lt_of_le hi h.size) hne).trans (h.block i hi hne)⟩
set_option maxHeartbeats 2000000 in
theorem l01Next_c (s n g o cap : Nat) (m : Int) (w : World) (hm : 1 ≤ m) (hm2 : m ≤ 1000000) (hn : n ≤ 4096) (hg : g ≠ s)
    (hS : Src w s (.slice (some ⟨g, o, none⟩) n cap) n) (hB : ∀ j, j < n → ∃ b : Int, 0 ≤ b ∧ b ≤ 255 ∧ w.cell? ⟨g, o + j, none⟩ = some (.int .u8 b)) :
    Calls Tryz.prog 40 #[.pointer (some ⟨s, 0, none⟩), .int .i64 m] w fun e w' => ∃ r : Int, 0 ≤ r ∧ r < m ∧ e = .returned (.int .i64 r) ∧ Src w' s (.slice (some ⟨g, o, none⟩) n cap) n ∧ w.grownBy w' (some s) := by
  obtain ⟨c0, ⟨a, ha, c1⟩, ⟨h, c2⟩, f1, f2⟩ := hS
  have hm0 : ¬ (m < 1) := by omega
  have hmz : ¬ (m = 0) := by omega
  obtain ⟨x, hx0, hx1, hxe⟩ := and_le (IntKind.u64.wrap (IntKind.u64.wrap (h * 6364136223846793005) + 1442695040888963407) / 8589934592) 2147483647 (by decide)
  by_cases hlt : a < n
  · obtain ⟨b, hb0, hb1, cb⟩ := hB a hlt
    have hltI : (a : Int) < (n : Int) := by omega
    go_enter Tryz.func40, Tryz.ntmps40
    go_wp2_with fail
    rw [show ((2147483647 : Nat) : Int) = 2147483647 from rfl] at hxe
    simp only [hxe]
    go_wp2_with fail
    go_region_held3 (fun w' => w'.cell? ⟨s, 0, none⟩ = some (.slice (some ⟨g, o, none⟩) n cap) ∧ w'.cell? ⟨s, 1, none⟩ = some (.int .i64 a)) (((repeat' apply And.intro) <;> (first | (with_reducible assumption) | (go_simp; done))))
      (fail)
    all_goals (rename_i hh; clear hh)
    go_wp2_with fail
    have e1 : IntKind.i64.wrap (x + b) = x + b := wrap_small (by omega) (by omega)
    have e2 : IntKind.i64.wrap ((a : Int) + 1) = (a : Int) + 1 := wrap_small (by omega) (by omega)
    go_region_held3 (fun w' => w'.cell? ⟨s, 0, none⟩ = some (.slice (some ⟨g, o, none⟩) n cap) ∧ w'.cell? ⟨s, 1, none⟩ = some (.int .i64 a) ∧ w'.cell? ⟨g, o + a, none⟩ = some (.int .u8 b)) (((repeat' apply And.intro) <;> (first | (with_reducible assumption) | (go_simp; done))))
      (fail)
    all_goals (rename_i hh; clear hh)
    go_wp2_with fail
    go_ret
    refine ⟨(x + b) % m, Int.emod_nonneg _ (by omega), Int.emod_lt_of_pos _ (by omega), rfl, ⟨by go_simp, ⟨a + 1, by omega, by go_simp⟩, ⟨_, by go_simp; rfl⟩, by go_simp, by go_simp⟩, ?_⟩
    exact (((Grow.refl w (some s)).set s 2 _ rfl).set s 1 _ rfl).drew.drew
  · have hltI : ¬ ((a : Int) < (n : Int)) := by omega
    clear hB
    go_enter Tryz.func40, Tryz.ntmps40
    go_wp2_with fail
    rw [show ((2147483647 : Nat) : Int) = 2147483647 from rfl] at hxe
    simp only [hxe]
    go_wp2_with fail
    go_region_held3 (fun w' => w'.cell? ⟨s, 0, none⟩ = some (.slice (some ⟨g, o, none⟩) n cap) ∧ w'.cell? ⟨s, 1, none⟩ = some (.int .i64 a)) (((repeat' apply And.intro) <;> (first | (with_reducible assumption) | (go_simp; done))))
      (fail)
    all_goals (rename_i hh; clear hh)
    go_wp2_with fail
    go_ret
    refine ⟨x % m, Int.emod_nonneg _ (by omega), Int.emod_lt_of_pos _ (by omega), rfl, ⟨by go_simp, ⟨a, by omega, by go_simp⟩, ⟨_, by go_simp; rfl⟩, by go_simp, by go_simp⟩, ?_⟩
    exact ((Grow.refl w (some s)).set s 2 _ rfl).drew

set_option maxHeartbeats 2000000 in
theorem l01Next0_c (s : Nat) (m : Int) (w : World) (hm : 1 ≤ m) (hm2 : m ≤ 1000000) (hS : Src w s (.slice none 0 0) 0) :
    Calls Tryz.prog 40 #[.pointer (some ⟨s, 0, none⟩), .int .i64 m] w fun e w' => ∃ r : Int, 0 ≤ r ∧ r < m ∧ e = .returned (.int .i64 r) ∧ Src w' s (.slice none 0 0) 0 ∧ w.grownBy w' (some s) := by
  obtain ⟨c0, ⟨a, ha, c1⟩, ⟨h, c2⟩, f1, f2⟩ := hS
  have ha0 : a = 0 := by omega
  subst ha0
  have hm0 : ¬ (m < 1) := by omega
  have hmz : ¬ (m = 0) := by omega
  obtain ⟨x, hx0, hx1, hxe⟩ := and_le (IntKind.u64.wrap (IntKind.u64.wrap (h * 6364136223846793005) + 1442695040888963407) / 8589934592) 2147483647 (by decide)
  clear ha
  go_enter Tryz.func40, Tryz.ntmps40
  go_wp2_with fail
  rw [show ((2147483647 : Nat) : Int) = 2147483647 from rfl] at hxe
  simp only [hxe]
  go_wp2_with fail
  go_region_held3 (fun w' => w'.cell? ⟨s, 0, none⟩ = some (.slice none 0 0) ∧ w'.cell? ⟨s, 1, none⟩ = some (.int .i64 ((0 : Nat) : Int))) (((repeat' apply And.intro) <;> (first | (with_reducible assumption) | (go_simp; done))))
    (fail)
  all_goals (rename_i hh; clear hh)
  go_wp2_with fail
  go_ret
  refine ⟨x % m, Int.emod_nonneg _ (by omega), Int.emod_lt_of_pos _ (by omega), rfl, ⟨by go_simp, ⟨0, by omega, by go_simp⟩, ⟨_, by go_simp; rfl⟩, by go_simp, by go_simp⟩, ?_⟩
  exact ((Grow.refl w (some s)).set s 2 _ rfl).drew

/-- A source with its bytes elsewhere. -/
structure Sc (w : World) (s : Nat) (cv : Value) (n : Nat) : Prop where
  src : Src w s cv n
  le : n ≤ 4096
  form : (∃ g o cap, cv = .slice (some ⟨g, o, none⟩) n cap ∧ g ≠ s ∧ ∀ j, j < n → ∃ b : Int, 0 ≤ b ∧ b ≤ 255 ∧ w.cell? ⟨g, o + j, none⟩ = some (.int .u8 b)) ∨ (cv = .slice none 0 0 ∧ n = 0)
theorem grown_cell {w w1 : World} {r : Option Nat} (hg : w.grownBy w1 r) {i o : Nat} {u : Value} (hi : r ≠ some i) (hc : w.cell? ⟨i, o, none⟩ = some u) : w1.cell? ⟨i, o, none⟩ = some u := by
  rw [World.cell?_of_block (a := ⟨i, o, none⟩) (hg.block i (cell_lt hc) (fun he => hi he.symm))]; exact hc
theorem grown_frozen {w w1 : World} {r : Option Nat} (hg : w.grownBy w1 r) {i o : Nat} (hi : r ≠ some i) (hl : i < w.heap.size) (hc : w.frozen? ⟨i, o, none⟩ = false) : w1.frozen? ⟨i, o, none⟩ = false := by
  rw [World.frozen?_of_block (a := ⟨i, o, none⟩) (hg.block i hl (fun he => hi he.symm))]; exact hc
theorem Sc.lt {w : World} {s n : Nat} {cv : Value} (h : Sc w s cv n) : s < w.heap.size := cell_lt h.src.code
/-- What turned other blocks alone keeps a source. -/
theorem Sc.grown {w w1 : World} {s n : Nat} {cv : Value} (h : Sc w s cv n) {r : Option Nat} (hg : w.grownBy w1 r) (h1 : r ≠ some s) (h2 : ∀ g o c, cv = .slice (some ⟨g, o, none⟩) n c → n = 0 ∨ r ≠ some g) : Sc w1 s cv n := by
  refine ⟨⟨grown_cell hg h1 h.src.code, ?_, ?_, grown_frozen hg h1 h.lt h.src.f1, grown_frozen hg h1 h.lt h.src.f2⟩, h.le, ?_⟩
  · obtain ⟨a, ha, c⟩ := h.src.at_; exact ⟨a, ha, grown_cell hg h1 c⟩
  · obtain ⟨a, c⟩ := h.src.hash; exact ⟨a, grown_cell hg h1 c⟩
  · rcases h.form with ⟨g, o, cap, e, hgs, hb⟩ | h0
    · refine .inl ⟨g, o, cap, e, hgs, fun j hj => ?_⟩
      obtain ⟨b, b0, b1, c⟩ := hb j hj
      rcases h2 g o cap e with h0 | h0
      · omega
      · exact ⟨b, b0, b1, grown_cell hg h0 c⟩
    · exact .inr h0
theorem Sc.new {w w1 : World} {s n : Nat} {cv : Value} (h : Sc w s cv n) (hN : New w w1) : Sc w1 s cv n :=
  h.grown (r := none) ⟨hN.os, hN.tape, hN.output, hN.size, fun k hk _ => hN.block k hk⟩ (by simp) (fun _ _ _ _ => .inr (by simp))
theorem next_c (s n : Nat) (cv : Value) (m : Int) (w : World) (hm : 1 ≤ m) (hm2 : m ≤ 1000000) (h : Sc w s cv n) :
    Calls Tryz.prog 40 #[.pointer (some ⟨s, 0, none⟩), .int .i64 m] w fun e w' => ∃ r : Int, 0 ≤ r ∧ r < m ∧ e = .returned (.int .i64 r) ∧ Sc w' s cv n ∧ w.grownBy w' (some s) := by
  rcases h.form with ⟨g, o, cap, rfl, hgs, hb⟩ | ⟨rfl, rfl⟩
  · refine (l01Next_c s n g o cap m w hm hm2 h.le hgs h.src hb).mono ?_
    rintro e w' ⟨r, r0, r1, he, hS, hG⟩
    refine ⟨r, r0, r1, he, ⟨hS, h.le, .inl ⟨g, o, cap, rfl, hgs, fun j hj => ?_⟩⟩, hG⟩
    obtain ⟨b, b0, b1, c⟩ := hb j hj
    exact ⟨b, b0, b1, grown_cell hG (by simpa using fun he => hgs he.symm) c⟩
  · refine (l01Next0_c s m w hm hm2 h.src).mono ?_
    rintro e w' ⟨r, r0, r1, he, hS, hG⟩
    exact ⟨r, r0, r1, he, ⟨hS, h.le, .inr ⟨rfl, rfl⟩⟩, hG⟩

set_option maxHeartbeats 1000000 in
theorem pick_c (s n : Nat) (cv : Value) (B l : Nat) (xs : List Int) (w : World) (hl : xs.length = l) (hl1 : 1 ≤ l) (hl2 : l ≤ 10) (hBs : B ≠ s) (h : Sc w s cv n)
    (hx : ∀ j, j < l → w.cell? ⟨B, j, none⟩ = some (.int .i64 (xs.getD j 0))) :
    Calls Tryz.prog 39 #[.pointer (some ⟨s, 0, none⟩), .slice (some ⟨B, 0, none⟩) l l] w fun e w' => ∃ r : Int, r ∈ xs ∧ e = .returned (.int .i64 r) ∧ Sc w' s cv n ∧ w.grownBy w' (some s) := by
  have K := hid (fun w h => next_c s n cv (l : Int) w (by omega) (by omega) h)
  go_enter Tryz.func39, Tryz.ntmps39
  go_wp2_with fail
  refine (K.out _ h).mono ?_; rintro e w1 ⟨r, hr0, hr1, rfl, hS1, hG1⟩
  obtain ⟨j, rfl⟩ : ∃ j : Nat, r = j := ⟨r.toNat, by omega⟩
  have hj : j < l := by omega
  have cj := hx j hj
  have hbl := cell_lt cj
  have cj1 : w1.cell? ⟨B, j, none⟩ = some (.int .i64 (xs.getD j 0)) := by
    rw [World.cell?_of_block (a := ⟨B, j, none⟩) (hG1.block B hbl (by simp; exact hBs))]; exact cj
  have hmem : xs.getD j 0 ∈ xs := by
    have : xs.getD j 0 = xs[j]'(by omega) := by simp [List.getD, show j < xs.length by omega]
    rw [this]; exact List.getElem_mem _
  generalize xs.getD j 0 = y at *
  go_wp2
  go_ret
  exact ⟨y, hmem, rfl, hS1, hG1⟩
end Go.Proofs.YtmbjomjpnfnbkaaGreat

namespace Go.Proofs.YtmbjomjpnfnbkaaGreat
open Go.RowKit Flt

/-- Bytes of an argument. -/
def Bs (w : World) (cv : Value) (n : Nat) : Prop := (∃ g o cap, cv = .slice (some ⟨g, o, none⟩) n cap ∧ g < w.heap.size ∧ ∀ j, j < n → ∃ b : Int, 0 ≤ b ∧ b ≤ 255 ∧ w.cell? ⟨g, o + j, none⟩ = some (.int .u8 b)) ∨ (cv = .slice none 0 0 ∧ n = 0)
theorem Bs.new {w w1 : World} {cv : Value} {n : Nat} (h : Bs w cv n) (hN : New w w1) : Bs w1 cv n := by
  rcases h with ⟨g, o, cap, e, hg, hb⟩ | h
  · refine .inl ⟨g, o, cap, e, Nat.lt_of_lt_of_le hg hN.size, fun j hj => ?_⟩
    obtain ⟨b, b0, b1, c⟩ := hb j hj
    exact ⟨b, b0, b1, hN.cell_at c⟩
  · exact .inr h
set_option maxHeartbeats 2000000 in
theorem l01From_c (g o cap n : Nat) (w : World) (hn : n ≤ 4096) (hg : g < w.heap.size) (hb : ∀ j, j < n → ∃ b : Int, 0 ≤ b ∧ b ≤ 255 ∧ w.cell? ⟨g, o + j, none⟩ = some (.int .u8 b)) :
    Calls Tryz.prog 16 #[.slice (some ⟨g, o, none⟩) n cap] w fun e w' => ∃ s, w.heap.size ≤ s ∧ e = .returned (.pointer (some ⟨s, 0, none⟩)) ∧ Sc w' s (.slice (some ⟨g, o, none⟩) n cap) n ∧ New w w' := by
  have HB := hid hb
  clear hb
  have hgs : g ≠ w.heap.size := by omega
  go_enter Tryz.func16, Tryz.ntmps16
  go_wp2_with fail
  go_loopw [4] (fun i wr => ∃ (k : Nat) (h : Int), k ≤ n ∧ i = .int .i64 k ∧ wr.cell? ⟨w.heap.size, 0, none⟩ = some (.slice (some ⟨g, o, none⟩) n cap) ∧ wr.cell? ⟨w.heap.size, 1, none⟩ = some (.int .i64 0) ∧ wr.cell? ⟨w.heap.size, 2, none⟩ = some (.int .u64 h) ∧ wr.frozen? ⟨w.heap.size, 1, none⟩ = false ∧ wr.frozen? ⟨w.heap.size, 2, none⟩ = false ∧ New w wr) (fun i _ => n - (intOf i).toNat)
  case atStart => exact ⟨0, _, Nat.zero_le _, rfl, by go_simp, by go_simp, by go_simp; rfl, by go_simp, by go_simp, (New.refl w).alloc _⟩
  case round =>
    obtain ⟨k, h, hk, rfl, c0, c1, c2, f1, f2, hN⟩ := hrel
    by_cases hlt : k < n
    · obtain ⟨b, b0, b1, cb⟩ := HB.out k hlt
      have cb' := hN.cell_at cb
      have hkn : (k : Int) < (n : Int) := by omega
      have hk4 : (k : Int) < 4096 := by omega
      clear cb
      go_wp2_with fail
      refine wp_region_held_drew (S := fun w' => w'.cell? ⟨g, o + k, none⟩ = some (.int .u8 b)) (by kernel_rfl) (by first | (with_reducible assumption) | (go_simp; done)) (fun hHeld => ?_)
      refine wpAnyH_take (i := 0) (oi := { dst := some 22, op := Op.move (Operand.tmp 3), type := 50, pos := "l01_numbers.go:405", after := #[], guard := none }) (v := ?_) rfl (by kernel_rfl) (by kernel_rfl) (by kernel_rfl) (fun _ _ _ h => h) (Or.inl ⟨by rfl, ?_⟩) (by assumption) ?_
      rotate_left
      · intro wq hSw; (try dsimp only at hSw); go_simp; try (with_reducible rfl)
      try simp only [Act.put, List.setIfInBounds_toArray, List.set_cons_zero, List.set_cons_succ]
      refine wpAnyH_take (i := 1) (oi := { dst := some 23, op := Op.move (Operand.tmp 3), type := 50, pos := "l01_numbers.go:405", after := #[], guard := none }) (v := ?_) rfl (by kernel_rfl) (by kernel_rfl) (by kernel_rfl) (fun _ _ _ h => h) (Or.inl ⟨by rfl, ?_⟩) (by assumption) ?_
      rotate_left
      · intro wq hSw; (try dsimp only at hSw); go_simp; try (with_reducible rfl)
      try simp only [Act.put, List.setIfInBounds_toArray, List.set_cons_zero, List.set_cons_succ]
      refine wpAnyH_take (i := 2) (oi := { dst := some 24, op := Op.nilCheck (Operand.tmp 23), type := 0, pos := "l01_numbers.go:405", after := #[{ on := 1, ground := Ground.data }], guard := none }) (v := ?_) rfl (by kernel_rfl) (by kernel_rfl) (by kernel_rfl) (fun _ _ _ h => h) (Or.inl ⟨by rfl, ?_⟩) (by assumption) ?_
      rotate_left
      · intro wq hSw; (try dsimp only at hSw); go_simp; try (with_reducible rfl)
      try simp only [Act.put, List.setIfInBounds_toArray, List.set_cons_zero, List.set_cons_succ]
      refine wpAnyH_take (i := 3) (oi := { dst := some 25, op := Op.fieldAddr 81 (Operand.tmp 24) 2, type := 0, pos := "l01_numbers.go:405", after := #[{ on := 2, ground := Ground.data }], guard := none }) (v := ?_) rfl (by kernel_rfl) (by kernel_rfl) (by kernel_rfl) (fun _ _ _ h => h) (Or.inl ⟨by rfl, ?_⟩) (by assumption) ?_
      rotate_left
      · intro wq hSw; (try dsimp only at hSw); go_simp; try (with_reducible rfl)
      try simp only [Act.put, List.setIfInBounds_toArray, List.set_cons_zero, List.set_cons_succ]
      refine wpAnyH_take (i := 6) (oi := { dst := some 28, op := Op.move (Operand.tmp 0), type := 22, pos := "l01_numbers.go:405", after := #[], guard := none }) (v := ?_) rfl (by kernel_rfl) (by kernel_rfl) (by kernel_rfl) (fun _ _ _ h => h) (Or.inl ⟨by rfl, ?_⟩) (by assumption) ?_
      rotate_left
      · intro wq hSw; (try dsimp only at hSw); go_simp; try (with_reducible rfl)
      try simp only [Act.put, List.setIfInBounds_toArray, List.set_cons_zero, List.set_cons_succ]
      refine wpAnyH_take (i := 7) (oi := { dst := some 29, op := Op.move (Operand.tmp 4), type := 3, pos := "l01_numbers.go:405", after := #[], guard := none }) (v := ?_) rfl (by kernel_rfl) (by kernel_rfl) (by kernel_rfl) (fun _ _ _ h => h) (Or.inl ⟨by rfl, ?_⟩) (by assumption) ?_
      rotate_left
      · intro wq hSw; (try dsimp only at hSw); go_simp; try (with_reducible rfl)
      try simp only [Act.put, List.setIfInBounds_toArray, List.set_cons_zero, List.set_cons_succ]
      refine wpAnyH_take (i := 8) (oi := { dst := some 30, op := Op.indexAddr 22 (Operand.tmp 28) (Operand.tmp 29), type := 0, pos := "l01_numbers.go:405", after := #[{ on := 6, ground := Ground.data }, { on := 7, ground := Ground.data }], guard := none }) (v := ?_) rfl (by kernel_rfl) (by kernel_rfl) (by kernel_rfl) (fun _ _ _ h => h) (Or.inl ⟨by rfl, ?_⟩) (by assumption) ?_
      rotate_left
      · intro wq hSw; (try dsimp only at hSw); go_simp; try (with_reducible rfl)
      try simp only [Act.put, List.setIfInBounds_toArray, List.set_cons_zero, List.set_cons_succ]
      refine wpAnyH_take (i := 9) (oi := { dst := some 31, op := Op.load 5 (Operand.tmp 30), type := 5, pos := "l01_numbers.go:405", after := #[{ on := 8, ground := Ground.data }], guard := none }) (v := ?_) rfl (by kernel_rfl) (by kernel_rfl) (by kernel_rfl) (fun _ _ _ h => h) (Or.inl ⟨by rfl, ?_⟩) (by assumption) ?_
      rotate_left
      · intro wq hSw; (try dsimp only at hSw); go_simp; try (with_reducible rfl)
      try simp only [Act.put, List.setIfInBounds_toArray, List.set_cons_zero, List.set_cons_succ]
      refine wpAnyH_take (i := 10) (oi := { dst := some 32, op := Op.convert 5 37 (Operand.tmp 31), type := 37, pos := "l01_numbers.go:405", after := #[{ on := 9, ground := Ground.data }], guard := none }) (v := ?_) rfl (by kernel_rfl) (by kernel_rfl) (by kernel_rfl) (fun _ _ _ h => h) (Or.inl ⟨by rfl, ?_⟩) (by assumption) ?_
      rotate_left
      · intro wq hSw; (try dsimp only at hSw); go_simp; try (with_reducible rfl)
      try simp only [Act.put, List.setIfInBounds_toArray, List.set_cons_zero, List.set_cons_succ]
      refine wpAnyH_ready (rs := [4]) (by kernel_rfl) (by simp) ?_
      refine AllReadyH.cons (o := { dst := some 26, op := Op.load 37 (Operand.tmp 25), type := 37, pos := "l01_numbers.go:405", after := #[{ on := 3, ground := Ground.data }], guard := none }) rfl (fun K hK => ?_) AllReadyH.nil
      go_simp
      refine hK.out _ _ (by first | (with_reducible assumption) | (go_simp; done)) (fun hHeld' => ?_)
      clear hK K hHeld; have hHeld := hHeld'; clear hHeld'
      try simp only [Act.put, List.setIfInBounds_toArray, List.set_cons_zero, List.set_cons_succ]
      refine wpAnyH_take (i := 5) (oi := { dst := some 27, op := Op.binOp BinOp.mul 37 (Operand.tmp 26) (Operand.const (Value.int IntKind.u64 1099511628211)) 37, type := 37, pos := "l01_numbers.go:405", after := #[{ on := 4, ground := Ground.data }], guard := none }) (v := ?_) rfl (by kernel_rfl) (by kernel_rfl) (by kernel_rfl) (fun _ _ _ h => h) (Or.inl ⟨by rfl, ?_⟩) (by assumption) ?_
      rotate_left
      · intro wq hSw; (try dsimp only at hSw); go_simp; try (with_reducible rfl)
      try simp only [Act.put, List.setIfInBounds_toArray, List.set_cons_zero, List.set_cons_succ]
      refine wpAnyH_take (i := 11) (oi := { dst := some 33, op := Op.binOp BinOp.add 37 (Operand.tmp 27) (Operand.tmp 32) 37, type := 37, pos := "l01_numbers.go:405", after := #[{ on := 5, ground := Ground.data }, { on := 10, ground := Ground.data }], guard := none }) (v := ?_) rfl (by kernel_rfl) (by kernel_rfl) (by kernel_rfl) (fun _ _ _ h => h) (Or.inl ⟨by rfl, ?_⟩) (by assumption) ?_
      rotate_left
      · intro wq hSw; (try dsimp only at hSw); go_simp; try (with_reducible rfl)
      try simp only [Act.put, List.setIfInBounds_toArray, List.set_cons_zero, List.set_cons_succ]
      refine wpAnyH_take (i := 12) (oi := { dst := some 34, op := Op.binOp BinOp.add 37 (Operand.tmp 33) (Operand.const (Value.int IntKind.u64 31)) 37, type := 37, pos := "l01_numbers.go:405", after := #[{ on := 11, ground := Ground.data }], guard := none }) (v := ?_) rfl (by kernel_rfl) (by kernel_rfl) (by kernel_rfl) (fun _ _ _ h => h) (Or.inl ⟨by rfl, ?_⟩) (by assumption) ?_
      rotate_left
      · intro wq hSw; (try dsimp only at hSw); go_simp; try (with_reducible rfl)
      try simp only [Act.put, List.setIfInBounds_toArray, List.set_cons_zero, List.set_cons_succ]
      refine wpAnyH_take (i := 13) (oi := { dst := some 35, op := Op.nilCheck (Operand.tmp 22), type := 0, pos := "l01_numbers.go:405", after := #[{ on := 0, ground := Ground.data }, { on := 0, ground := Ground.phase }, { on := 1, ground := Ground.phase }, { on := 2, ground := Ground.phase }, { on := 3, ground := Ground.phase }, { on := 4, ground := Ground.phase }, { on := 5, ground := Ground.phase }, { on := 6, ground := Ground.phase }, { on := 7, ground := Ground.phase }, { on := 8, ground := Ground.phase }, { on := 9, ground := Ground.phase }, { on := 10, ground := Ground.phase }, { on := 11, ground := Ground.phase }, { on := 12, ground := Ground.phase }], guard := none }) (v := ?_) rfl (by kernel_rfl) (by kernel_rfl) (by kernel_rfl) (fun _ _ _ h => h) (Or.inl ⟨by rfl, ?_⟩) (by assumption) ?_
      rotate_left
      · intro wq hSw; (try dsimp only at hSw); go_simp; try (with_reducible rfl)
      try simp only [Act.put, List.setIfInBounds_toArray, List.set_cons_zero, List.set_cons_succ]
      refine wpAnyH_take (i := 14) (oi := { dst := some 36, op := Op.fieldAddr 81 (Operand.tmp 35) 2, type := 0, pos := "l01_numbers.go:405", after := #[{ on := 13, ground := Ground.data }, { on := 0, ground := Ground.phase }, { on := 1, ground := Ground.phase }, { on := 2, ground := Ground.phase }, { on := 3, ground := Ground.phase }, { on := 4, ground := Ground.phase }, { on := 5, ground := Ground.phase }, { on := 6, ground := Ground.phase }, { on := 7, ground := Ground.phase }, { on := 8, ground := Ground.phase }, { on := 9, ground := Ground.phase }, { on := 10, ground := Ground.phase }, { on := 11, ground := Ground.phase }, { on := 12, ground := Ground.phase }], guard := none }) (v := ?_) rfl (by kernel_rfl) (by kernel_rfl) (by kernel_rfl) (fun _ _ _ h => h) (Or.inl ⟨by rfl, ?_⟩) (by assumption) ?_
      rotate_left
      · intro wq hSw; (try dsimp only at hSw); go_simp; try (with_reducible rfl)
      try simp only [Act.put, List.setIfInBounds_toArray, List.set_cons_zero, List.set_cons_succ]
      refine wpAnyH_ready (rs := [15]) (by kernel_rfl) (by simp) ?_
      refine AllReadyH.cons (o := { dst := none, op := Op.store 37 (Operand.tmp 36) (Operand.tmp 34), type := 0, pos := "l01_numbers.go:405", after := #[{ on := 14, ground := Ground.data }, { on := 12, ground := Ground.data }, { on := 0, ground := Ground.phase }, { on := 1, ground := Ground.phase }, { on := 2, ground := Ground.phase }, { on := 3, ground := Ground.phase }, { on := 4, ground := Ground.phase }, { on := 5, ground := Ground.phase }, { on := 6, ground := Ground.phase }, { on := 7, ground := Ground.phase }, { on := 8, ground := Ground.phase }, { on := 9, ground := Ground.phase }, { on := 10, ground := Ground.phase }, { on := 11, ground := Ground.phase }, { on := 12, ground := Ground.phase }], guard := none }) rfl (fun K hK => ?_) AllReadyH.nil
      go_simp
      refine hK.out _ _ (by first | (with_reducible assumption) | (go_simp; done)) (fun hHeld' => ?_)
      clear hK K hHeld; have hHeld := hHeld'; clear hHeld'
      try simp only [Act.put, List.setIfInBounds_toArray, List.set_cons_zero, List.set_cons_succ]
      refine wpAnyH_done (by kernel_rfl) ?_ _
      go_wp2_with fail
      go_roundw
      case rel => exact ⟨k + 1, _, by omega, by go_num, by go_simp, by go_simp, by go_simp; rfl, by go_simp, by go_simp, (hN.drew.set (p := ⟨w.heap.size, 2, none⟩) (Nat.le_refl _) _)⟩
      case measure => simp [intOf]; omega
    · have hk' : k = n := by omega
      subst hk'
      have hkn : ¬ ((k : Int) < (k : Int)) := by omega
      go_wp2
      go_ret
      refine ⟨_, Nat.le_refl _, rfl, ⟨⟨c0, ⟨0, Nat.zero_le _, c1⟩, ⟨_, c2⟩, f1, f2⟩, hn, .inl ⟨g, o, cap, rfl, hgs, fun j hj => ?_⟩⟩, hN⟩
      obtain ⟨b, b0, b1, c⟩ := HB.out j hj
      exact ⟨b, b0, b1, hN.cell_at c⟩
theorem l01From0_c (w : World) :
    Calls Tryz.prog 16 #[.slice none 0 0] w fun e w' => ∃ s, w.heap.size ≤ s ∧ e = .returned (.pointer (some ⟨s, 0, none⟩)) ∧ Sc w' s (.slice none 0 0) 0 ∧ New w w' := by
  go_enter Tryz.func16, Tryz.ntmps16
  go_wp2_with fail
  refine wp_loop_rounds 1 ?_; rw [rounds_succ]
  go_wp2
  go_ret
  exact ⟨_, Nat.le_refl _, rfl, ⟨⟨by go_simp, ⟨0, Nat.zero_le _, by go_simp⟩, ⟨_, by go_simp; rfl⟩, by go_simp, by go_simp⟩, by decide, .inr ⟨rfl, rfl⟩⟩, (New.refl w).alloc _⟩
theorem from_c (cv : Value) (n : Nat) (w : World) (hn : n ≤ 4096) (h : Bs w cv n) :
    Calls Tryz.prog 16 #[cv] w fun e w' => ∃ s, w.heap.size ≤ s ∧ e = .returned (.pointer (some ⟨s, 0, none⟩)) ∧ Sc w' s cv n ∧ New w w' := by
  rcases h with ⟨g, o, cap, rfl, hg, hb⟩ | ⟨rfl, rfl⟩
  · exact l01From_c g o cap n w hn hg hb
  · exact l01From0_c w
set_option maxHeartbeats 2000000 in
theorem roll1_c (seed : Int) (g o cap n : Nat) (w : World) (hn : n ≤ 4096) (hg : g < w.heap.size) (hb : ∀ j, j < n → ∃ b : Int, 0 ≤ b ∧ b ≤ 255 ∧ w.cell? ⟨g, o + j, none⟩ = some (.int .u8 b)) :
    Calls Tryz.prog 10 #[.slice (some ⟨g, o, none⟩) n cap, .int .u64 seed] w fun e w' => ∃ s, w.heap.size ≤ s ∧ e = .returned (.pointer (some ⟨s, 0, none⟩)) ∧ Sc w' s (.slice (some ⟨g, o, none⟩) n cap) n ∧ New w w' := by
  have HB := hid hb
  clear hb
  have hgs : g ≠ w.heap.size := by omega
  go_enter Tryz.func10, Tryz.ntmps10
  go_wp2_with fail
  go_loopw [6] (fun i wr => ∃ (k : Nat) (h : Int), k ≤ n ∧ i = .int .i64 k ∧ wr.cell? ⟨w.heap.size, 0, none⟩ = some (.slice (some ⟨g, o, none⟩) n cap) ∧ wr.cell? ⟨w.heap.size, 1, none⟩ = some (.int .i64 0) ∧ wr.cell? ⟨w.heap.size, 2, none⟩ = some (.int .u64 h) ∧ wr.frozen? ⟨w.heap.size, 1, none⟩ = false ∧ wr.frozen? ⟨w.heap.size, 2, none⟩ = false ∧ New w wr) (fun i _ => n - (intOf i).toNat)
  case atStart => exact ⟨0, _, Nat.zero_le _, rfl, by go_simp, by go_simp, by go_simp; rfl, by go_simp, by go_simp, (New.refl w).alloc _⟩
  case round =>
    obtain ⟨k, h, hk, rfl, c0, c1, c2, f1, f2, hN⟩ := hrel
    by_cases hlt : k < n
    · obtain ⟨b, b0, b1, cb⟩ := HB.out k hlt
      have cb' := hN.cell_at cb
      have hkn : (k : Int) < (n : Int) := by omega
      have hk4 : (k : Int) < 4096 := by omega
      clear cb
      go_wp2_with fail
      refine wp_region_held_drew (S := fun w' => w'.cell? ⟨g, o + k, none⟩ = some (.int .u8 b)) (by kernel_rfl) (by first | (with_reducible assumption) | (go_simp; done)) (fun hHeld => ?_)
      refine wpAnyH_take (i := 0) (oi := { dst := some 22, op := Op.move (Operand.tmp 5), type := 35, pos := "laws.go:20", after := #[], guard := none }) (v := ?_) rfl (by kernel_rfl) (by kernel_rfl) (by kernel_rfl) (fun _ _ _ h => h) (Or.inl ⟨by rfl, ?_⟩) (by assumption) ?_
      rotate_left
      · intro wq hSw; (try dsimp only at hSw); go_simp; try (with_reducible rfl)
      try simp only [Act.put, List.setIfInBounds_toArray, List.set_cons_zero, List.set_cons_succ]
      refine wpAnyH_take (i := 1) (oi := { dst := some 23, op := Op.move (Operand.tmp 5), type := 35, pos := "laws.go:20", after := #[], guard := none }) (v := ?_) rfl (by kernel_rfl) (by kernel_rfl) (by kernel_rfl) (fun _ _ _ h => h) (Or.inl ⟨by rfl, ?_⟩) (by assumption) ?_
      rotate_left
      · intro wq hSw; (try dsimp only at hSw); go_simp; try (with_reducible rfl)
      try simp only [Act.put, List.setIfInBounds_toArray, List.set_cons_zero, List.set_cons_succ]
      refine wpAnyH_take (i := 2) (oi := { dst := some 24, op := Op.nilCheck (Operand.tmp 23), type := 0, pos := "laws.go:20", after := #[{ on := 1, ground := Ground.data }], guard := none }) (v := ?_) rfl (by kernel_rfl) (by kernel_rfl) (by kernel_rfl) (fun _ _ _ h => h) (Or.inl ⟨by rfl, ?_⟩) (by assumption) ?_
      rotate_left
      · intro wq hSw; (try dsimp only at hSw); go_simp; try (with_reducible rfl)
      try simp only [Act.put, List.setIfInBounds_toArray, List.set_cons_zero, List.set_cons_succ]
      refine wpAnyH_take (i := 3) (oi := { dst := some 25, op := Op.fieldAddr 65 (Operand.tmp 24) 2, type := 0, pos := "laws.go:20", after := #[{ on := 2, ground := Ground.data }], guard := none }) (v := ?_) rfl (by kernel_rfl) (by kernel_rfl) (by kernel_rfl) (fun _ _ _ h => h) (Or.inl ⟨by rfl, ?_⟩) (by assumption) ?_
      rotate_left
      · intro wq hSw; (try dsimp only at hSw); go_simp; try (with_reducible rfl)
      try simp only [Act.put, List.setIfInBounds_toArray, List.set_cons_zero, List.set_cons_succ]
      refine wpAnyH_take (i := 6) (oi := { dst := some 28, op := Op.move (Operand.tmp 0), type := 22, pos := "laws.go:20", after := #[], guard := none }) (v := ?_) rfl (by kernel_rfl) (by kernel_rfl) (by kernel_rfl) (fun _ _ _ h => h) (Or.inl ⟨by rfl, ?_⟩) (by assumption) ?_
      rotate_left
      · intro wq hSw; (try dsimp only at hSw); go_simp; try (with_reducible rfl)
      try simp only [Act.put, List.setIfInBounds_toArray, List.set_cons_zero, List.set_cons_succ]
      refine wpAnyH_take (i := 7) (oi := { dst := some 29, op := Op.move (Operand.tmp 6), type := 3, pos := "laws.go:20", after := #[], guard := none }) (v := ?_) rfl (by kernel_rfl) (by kernel_rfl) (by kernel_rfl) (fun _ _ _ h => h) (Or.inl ⟨by rfl, ?_⟩) (by assumption) ?_
      rotate_left
      · intro wq hSw; (try dsimp only at hSw); go_simp; try (with_reducible rfl)
      try simp only [Act.put, List.setIfInBounds_toArray, List.set_cons_zero, List.set_cons_succ]
      refine wpAnyH_take (i := 8) (oi := { dst := some 30, op := Op.indexAddr 22 (Operand.tmp 28) (Operand.tmp 29), type := 0, pos := "laws.go:20", after := #[{ on := 6, ground := Ground.data }, { on := 7, ground := Ground.data }], guard := none }) (v := ?_) rfl (by kernel_rfl) (by kernel_rfl) (by kernel_rfl) (fun _ _ _ h => h) (Or.inl ⟨by rfl, ?_⟩) (by assumption) ?_
      rotate_left
      · intro wq hSw; (try dsimp only at hSw); go_simp; try (with_reducible rfl)
      try simp only [Act.put, List.setIfInBounds_toArray, List.set_cons_zero, List.set_cons_succ]
      refine wpAnyH_take (i := 9) (oi := { dst := some 31, op := Op.load 5 (Operand.tmp 30), type := 5, pos := "laws.go:20", after := #[{ on := 8, ground := Ground.data }], guard := none }) (v := ?_) rfl (by kernel_rfl) (by kernel_rfl) (by kernel_rfl) (fun _ _ _ h => h) (Or.inl ⟨by rfl, ?_⟩) (by assumption) ?_
      rotate_left
      · intro wq hSw; (try dsimp only at hSw); go_simp; try (with_reducible rfl)
      try simp only [Act.put, List.setIfInBounds_toArray, List.set_cons_zero, List.set_cons_succ]
      refine wpAnyH_take (i := 10) (oi := { dst := some 32, op := Op.convert 5 37 (Operand.tmp 31), type := 37, pos := "laws.go:20", after := #[{ on := 9, ground := Ground.data }], guard := none }) (v := ?_) rfl (by kernel_rfl) (by kernel_rfl) (by kernel_rfl) (fun _ _ _ h => h) (Or.inl ⟨by rfl, ?_⟩) (by assumption) ?_
      rotate_left
      · intro wq hSw; (try dsimp only at hSw); go_simp; try (with_reducible rfl)
      try simp only [Act.put, List.setIfInBounds_toArray, List.set_cons_zero, List.set_cons_succ]
      refine wpAnyH_ready (rs := [4]) (by kernel_rfl) (by simp) ?_
      refine AllReadyH.cons (o := { dst := some 26, op := Op.load 37 (Operand.tmp 25), type := 37, pos := "laws.go:20", after := #[{ on := 3, ground := Ground.data }], guard := none }) rfl (fun K hK => ?_) AllReadyH.nil
      go_simp
      refine hK.out _ _ (by first | (with_reducible assumption) | (go_simp; done)) (fun hHeld' => ?_)
      clear hK K hHeld; have hHeld := hHeld'; clear hHeld'
      try simp only [Act.put, List.setIfInBounds_toArray, List.set_cons_zero, List.set_cons_succ]
      refine wpAnyH_take (i := 5) (oi := { dst := some 27, op := Op.binOp BinOp.mul 37 (Operand.tmp 26) (Operand.const (Value.int IntKind.u64 1099511628211)) 37, type := 37, pos := "laws.go:20", after := #[{ on := 4, ground := Ground.data }], guard := none }) (v := ?_) rfl (by kernel_rfl) (by kernel_rfl) (by kernel_rfl) (fun _ _ _ h => h) (Or.inl ⟨by rfl, ?_⟩) (by assumption) ?_
      rotate_left
      · intro wq hSw; (try dsimp only at hSw); go_simp; try (with_reducible rfl)
      try simp only [Act.put, List.setIfInBounds_toArray, List.set_cons_zero, List.set_cons_succ]
      refine wpAnyH_take (i := 11) (oi := { dst := some 33, op := Op.binOp BinOp.add 37 (Operand.tmp 27) (Operand.tmp 32) 37, type := 37, pos := "laws.go:20", after := #[{ on := 5, ground := Ground.data }, { on := 10, ground := Ground.data }], guard := none }) (v := ?_) rfl (by kernel_rfl) (by kernel_rfl) (by kernel_rfl) (fun _ _ _ h => h) (Or.inl ⟨by rfl, ?_⟩) (by assumption) ?_
      rotate_left
      · intro wq hSw; (try dsimp only at hSw); go_simp; try (with_reducible rfl)
      try simp only [Act.put, List.setIfInBounds_toArray, List.set_cons_zero, List.set_cons_succ]
      refine wpAnyH_take (i := 12) (oi := { dst := some 34, op := Op.binOp BinOp.add 37 (Operand.tmp 33) (Operand.const (Value.int IntKind.u64 5)) 37, type := 37, pos := "laws.go:20", after := #[{ on := 11, ground := Ground.data }], guard := none }) (v := ?_) rfl (by kernel_rfl) (by kernel_rfl) (by kernel_rfl) (fun _ _ _ h => h) (Or.inl ⟨by rfl, ?_⟩) (by assumption) ?_
      rotate_left
      · intro wq hSw; (try dsimp only at hSw); go_simp; try (with_reducible rfl)
      try simp only [Act.put, List.setIfInBounds_toArray, List.set_cons_zero, List.set_cons_succ]
      refine wpAnyH_take (i := 13) (oi := { dst := some 35, op := Op.nilCheck (Operand.tmp 22), type := 0, pos := "laws.go:20", after := #[{ on := 0, ground := Ground.data }, { on := 0, ground := Ground.phase }, { on := 1, ground := Ground.phase }, { on := 2, ground := Ground.phase }, { on := 3, ground := Ground.phase }, { on := 4, ground := Ground.phase }, { on := 5, ground := Ground.phase }, { on := 6, ground := Ground.phase }, { on := 7, ground := Ground.phase }, { on := 8, ground := Ground.phase }, { on := 9, ground := Ground.phase }, { on := 10, ground := Ground.phase }, { on := 11, ground := Ground.phase }, { on := 12, ground := Ground.phase }], guard := none }) (v := ?_) rfl (by kernel_rfl) (by kernel_rfl) (by kernel_rfl) (fun _ _ _ h => h) (Or.inl ⟨by rfl, ?_⟩) (by assumption) ?_
      rotate_left
      · intro wq hSw; (try dsimp only at hSw); go_simp; try (with_reducible rfl)
      try simp only [Act.put, List.setIfInBounds_toArray, List.set_cons_zero, List.set_cons_succ]
      refine wpAnyH_take (i := 14) (oi := { dst := some 36, op := Op.fieldAddr 65 (Operand.tmp 35) 2, type := 0, pos := "laws.go:20", after := #[{ on := 13, ground := Ground.data }, { on := 0, ground := Ground.phase }, { on := 1, ground := Ground.phase }, { on := 2, ground := Ground.phase }, { on := 3, ground := Ground.phase }, { on := 4, ground := Ground.phase }, { on := 5, ground := Ground.phase }, { on := 6, ground := Ground.phase }, { on := 7, ground := Ground.phase }, { on := 8, ground := Ground.phase }, { on := 9, ground := Ground.phase }, { on := 10, ground := Ground.phase }, { on := 11, ground := Ground.phase }, { on := 12, ground := Ground.phase }], guard := none }) (v := ?_) rfl (by kernel_rfl) (by kernel_rfl) (by kernel_rfl) (fun _ _ _ h => h) (Or.inl ⟨by rfl, ?_⟩) (by assumption) ?_
      rotate_left
      · intro wq hSw; (try dsimp only at hSw); go_simp; try (with_reducible rfl)
      try simp only [Act.put, List.setIfInBounds_toArray, List.set_cons_zero, List.set_cons_succ]
      refine wpAnyH_ready (rs := [15]) (by kernel_rfl) (by simp) ?_
      refine AllReadyH.cons (o := { dst := none, op := Op.store 37 (Operand.tmp 36) (Operand.tmp 34), type := 0, pos := "laws.go:20", after := #[{ on := 14, ground := Ground.data }, { on := 12, ground := Ground.data }, { on := 0, ground := Ground.phase }, { on := 1, ground := Ground.phase }, { on := 2, ground := Ground.phase }, { on := 3, ground := Ground.phase }, { on := 4, ground := Ground.phase }, { on := 5, ground := Ground.phase }, { on := 6, ground := Ground.phase }, { on := 7, ground := Ground.phase }, { on := 8, ground := Ground.phase }, { on := 9, ground := Ground.phase }, { on := 10, ground := Ground.phase }, { on := 11, ground := Ground.phase }, { on := 12, ground := Ground.phase }], guard := none }) rfl (fun K hK => ?_) AllReadyH.nil
      go_simp
      refine hK.out _ _ (by first | (with_reducible assumption) | (go_simp; done)) (fun hHeld' => ?_)
      clear hK K hHeld; have hHeld := hHeld'; clear hHeld'
      try simp only [Act.put, List.setIfInBounds_toArray, List.set_cons_zero, List.set_cons_succ]
      refine wpAnyH_done (by kernel_rfl) ?_ _
      go_wp2_with fail
      go_roundw
      case rel => exact ⟨k + 1, _, by omega, by go_num, by go_simp, by go_simp, by go_simp; rfl, by go_simp, by go_simp, (hN.drew.set (p := ⟨w.heap.size, 2, none⟩) (Nat.le_refl _) _)⟩
      case measure => simp [intOf]; omega
    · have hk' : k = n := by omega
      subst hk'
      have hkn : ¬ ((k : Int) < (k : Int)) := by omega
      go_wp2
      go_ret
      refine ⟨_, Nat.le_refl _, rfl, ⟨⟨c0, ⟨0, Nat.zero_le _, c1⟩, ⟨_, c2⟩, f1, f2⟩, hn, .inl ⟨g, o, cap, rfl, hgs, fun j hj => ?_⟩⟩, hN⟩
      obtain ⟨b, b0, b1, c⟩ := HB.out j hj
      exact ⟨b, b0, b1, hN.cell_at c⟩
theorem roll0_c (seed : Int) (w : World) :
    Calls Tryz.prog 10 #[.slice none 0 0, .int .u64 seed] w fun e w' => ∃ s, w.heap.size ≤ s ∧ e = .returned (.pointer (some ⟨s, 0, none⟩)) ∧ Sc w' s (.slice none 0 0) 0 ∧ New w w' := by
  go_enter Tryz.func10, Tryz.ntmps10
  go_wp2_with fail
  refine wp_loop_rounds 1 ?_; rw [rounds_succ]
  go_wp2
  go_ret
  exact ⟨_, Nat.le_refl _, rfl, ⟨⟨by go_simp, ⟨0, Nat.zero_le _, by go_simp⟩, ⟨_, by go_simp; rfl⟩, by go_simp, by go_simp⟩, by decide, .inr ⟨rfl, rfl⟩⟩, (New.refl w).alloc _⟩
theorem roll_c (seed : Int) (cv : Value) (n : Nat) (w : World) (hn : n ≤ 4096) (h : Bs w cv n) :
    Calls Tryz.prog 10 #[cv, .int .u64 seed] w fun e w' => ∃ s, w.heap.size ≤ s ∧ e = .returned (.pointer (some ⟨s, 0, none⟩)) ∧ Sc w' s cv n ∧ New w w' := by
  rcases h with ⟨g, o, cap, rfl, hg, hb⟩ | ⟨rfl, rfl⟩
  · exact roll1_c seed g o cap n w hn hg hb
  · exact roll0_c seed w
end Go.Proofs.YtmbjomjpnfnbkaaGreat

namespace Go.Proofs.YtmbjomjpnfnbkaaGreat
open Go.RowKit Flt

set_option maxHeartbeats 2000000 in
theorem below1_c (s n g o cap : Nat) (m : Int) (w : World) (hm : 1 ≤ m) (hm2 : m ≤ 1000000) (hn : n ≤ 4096) (hg : g ≠ s)
    (hS : Src w s (.slice (some ⟨g, o, none⟩) n cap) n) (hB : ∀ j, j < n → ∃ b : Int, 0 ≤ b ∧ b ≤ 255 ∧ w.cell? ⟨g, o + j, none⟩ = some (.int .u8 b)) :
    Calls Tryz.prog 11 #[.pointer (some ⟨s, 0, none⟩), .int .i64 m] w fun e w' => ∃ r : Int, 0 ≤ r ∧ r < m ∧ e = .returned (.int .i64 r) ∧ Src w' s (.slice (some ⟨g, o, none⟩) n cap) n ∧ w.grownBy w' (some s) := by
  obtain ⟨c0, ⟨a, ha, c1⟩, ⟨h, c2⟩, f1, f2⟩ := hS
  have hm0 : ¬ (m < 1) := by omega
  have hmz : ¬ (m = 0) := by omega
  obtain ⟨x, hx0, hx1, hxe⟩ := and_le (IntKind.u64.wrap (IntKind.u64.wrap (h * 6364136223846793005) + 1442695040888963407) / 8589934592) 16777215 (by decide)
  by_cases hlt : a < n
  · obtain ⟨b, hb0, hb1, cb⟩ := hB a hlt
    have hltI : (a : Int) < (n : Int) := by omega
    go_enter Tryz.func11, Tryz.ntmps11
    go_wp2_with fail
    rw [show ((16777215 : Nat) : Int) = 16777215 from rfl] at hxe
    simp only [hxe]
    go_wp2_with fail
    go_region_held3 (fun w' => w'.cell? ⟨s, 0, none⟩ = some (.slice (some ⟨g, o, none⟩) n cap) ∧ w'.cell? ⟨s, 1, none⟩ = some (.int .i64 a)) (((repeat' apply And.intro) <;> (first | (with_reducible assumption) | (go_simp; done))))
      (fail)
    all_goals (rename_i hh; clear hh)
    go_wp2_with fail
    have e1 : IntKind.i64.wrap (x + b) = x + b := wrap_small (by omega) (by omega)
    have e2 : IntKind.i64.wrap ((a : Int) + 1) = (a : Int) + 1 := wrap_small (by omega) (by omega)
    go_region_held3 (fun w' => w'.cell? ⟨s, 0, none⟩ = some (.slice (some ⟨g, o, none⟩) n cap) ∧ w'.cell? ⟨s, 1, none⟩ = some (.int .i64 a) ∧ w'.cell? ⟨g, o + a, none⟩ = some (.int .u8 b)) (((repeat' apply And.intro) <;> (first | (with_reducible assumption) | (go_simp; done))))
      (fail)
    all_goals (rename_i hh; clear hh)
    go_wp2_with fail
    go_ret
    refine ⟨(x + b) % m, Int.emod_nonneg _ (by omega), Int.emod_lt_of_pos _ (by omega), rfl, ⟨by go_simp, ⟨a + 1, by omega, by go_simp⟩, ⟨_, by go_simp; rfl⟩, by go_simp, by go_simp⟩, ?_⟩
    exact (((Grow.refl w (some s)).set s 2 _ rfl).set s 1 _ rfl).drew.drew
  · have hltI : ¬ ((a : Int) < (n : Int)) := by omega
    clear hB
    go_enter Tryz.func11, Tryz.ntmps11
    go_wp2_with fail
    rw [show ((16777215 : Nat) : Int) = 16777215 from rfl] at hxe
    simp only [hxe]
    go_wp2_with fail
    go_region_held3 (fun w' => w'.cell? ⟨s, 0, none⟩ = some (.slice (some ⟨g, o, none⟩) n cap) ∧ w'.cell? ⟨s, 1, none⟩ = some (.int .i64 a)) (((repeat' apply And.intro) <;> (first | (with_reducible assumption) | (go_simp; done))))
      (fail)
    all_goals (rename_i hh; clear hh)
    go_wp2_with fail
    go_ret
    refine ⟨x % m, Int.emod_nonneg _ (by omega), Int.emod_lt_of_pos _ (by omega), rfl, ⟨by go_simp, ⟨a, by omega, by go_simp⟩, ⟨_, by go_simp; rfl⟩, by go_simp, by go_simp⟩, ?_⟩
    exact ((Grow.refl w (some s)).set s 2 _ rfl).drew
set_option maxHeartbeats 2000000 in
theorem below0_c (s : Nat) (m : Int) (w : World) (hm : 1 ≤ m) (hm2 : m ≤ 1000000) (hS : Src w s (.slice none 0 0) 0) :
    Calls Tryz.prog 11 #[.pointer (some ⟨s, 0, none⟩), .int .i64 m] w fun e w' => ∃ r : Int, 0 ≤ r ∧ r < m ∧ e = .returned (.int .i64 r) ∧ Src w' s (.slice none 0 0) 0 ∧ w.grownBy w' (some s) := by
  obtain ⟨c0, ⟨a, ha, c1⟩, ⟨h, c2⟩, f1, f2⟩ := hS
  have ha0 : a = 0 := by omega
  subst ha0
  have hm0 : ¬ (m < 1) := by omega
  have hmz : ¬ (m = 0) := by omega
  obtain ⟨x, hx0, hx1, hxe⟩ := and_le (IntKind.u64.wrap (IntKind.u64.wrap (h * 6364136223846793005) + 1442695040888963407) / 8589934592) 16777215 (by decide)
  clear ha
  go_enter Tryz.func11, Tryz.ntmps11
  go_wp2_with fail
  rw [show ((16777215 : Nat) : Int) = 16777215 from rfl] at hxe
  simp only [hxe]
  go_wp2_with fail
  go_region_held3 (fun w' => w'.cell? ⟨s, 0, none⟩ = some (.slice none 0 0) ∧ w'.cell? ⟨s, 1, none⟩ = some (.int .i64 ((0 : Nat) : Int))) (((repeat' apply And.intro) <;> (first | (with_reducible assumption) | (go_simp; done))))
    (fail)
  all_goals (rename_i hh; clear hh)
  go_wp2_with fail
  go_ret
  refine ⟨x % m, Int.emod_nonneg _ (by omega), Int.emod_lt_of_pos _ (by omega), rfl, ⟨by go_simp, ⟨0, by omega, by go_simp⟩, ⟨_, by go_simp; rfl⟩, by go_simp, by go_simp⟩, ?_⟩
  exact ((Grow.refl w (some s)).set s 2 _ rfl).drew
theorem below_c (s n : Nat) (cv : Value) (m : Int) (w : World) (hm : 1 ≤ m) (hm2 : m ≤ 1000000) (h : Sc w s cv n) :
    Calls Tryz.prog 11 #[.pointer (some ⟨s, 0, none⟩), .int .i64 m] w fun e w' => ∃ r : Int, 0 ≤ r ∧ r < m ∧ e = .returned (.int .i64 r) ∧ Sc w' s cv n ∧ w.grownBy w' (some s) := by
  rcases h.form with ⟨g, o, cap, rfl, hgs, hb⟩ | ⟨rfl, rfl⟩
  · refine (below1_c s n g o cap m w hm hm2 h.le hgs h.src hb).mono ?_
    rintro e w' ⟨r, r0, r1, he, hS, hG⟩
    refine ⟨r, r0, r1, he, ⟨hS, h.le, .inl ⟨g, o, cap, rfl, hgs, fun j hj => ?_⟩⟩, hG⟩
    obtain ⟨b, b0, b1, c⟩ := hb j hj
    exact ⟨b, b0, b1, grown_cell hG (by simpa using fun he => hgs he.symm) c⟩
  · refine (below0_c s m w hm hm2 h.src).mono ?_
    rintro e w' ⟨r, r0, r1, he, hS, hG⟩
    exact ⟨r, r0, r1, he, ⟨hS, h.le, .inr ⟨rfl, rfl⟩⟩, hG⟩

theorem big_c (p : Option Addr) (n cap : Nat) (w : World) :
    Calls Tryz.prog 4 #[.slice p n cap] w fun e w' => e = .returned (.bool (decide (4096 < n))) ∧ w = w' := by
  by_cases h : 4096 < n
  · have hi : (4096 : Int) < (n : Int) := by omega
    go_enter Tryz.func4, Tryz.ntmps4
    go_wp2
    go_ret
    exact ⟨by simp [h], rfl⟩
  · have hi : ¬ (4096 : Int) < (n : Int) := by omega
    go_enter Tryz.func4, Tryz.ntmps4
    go_wp2
    go_ret
    exact ⟨by simp [h], rfl⟩
end Go.Proofs.YtmbjomjpnfnbkaaGreat

namespace Go.Proofs.YtmbjomjpnfnbkaaGreat
open Go.RowKit Flt

theorem infoP' : (Tryz.prog.info? 61).map (fun i => (i.zero, i.size, i.bytes)) = some (some (.agg #[.int .i64 0, .int .i64 0, .bool false]), 3, 24) := by kernel_rfl
/-- Pulses, flat. -/
def pfl (ps : List PuI) : List Value := ps.flatMap fun p => [.int .i64 p.a, .int .i64 p.k, .bool p.back]
theorem pfl_length (ps : List PuI) : (pfl ps).length = ps.length * 3 := by
  induction ps with
  | nil => rfl
  | cons v l ih => have : pfl (v :: l) = .int .i64 v.a :: .int .i64 v.k :: .bool v.back :: pfl l := rfl
                   rw [this]; simp [ih]; omega
theorem pfl_get : ∀ (l : List PuI) (k : Nat), k < l.length → (pfl l)[k * 3]? = some (.int .i64 (l.getD k PuI.zero).a) ∧ (pfl l)[k * 3 + 1]? = some (.int .i64 (l.getD k PuI.zero).k) ∧ (pfl l)[k * 3 + 2]? = some (.bool (l.getD k PuI.zero).back)
  | [], k, h => absurd h (Nat.not_lt_zero _)
  | v :: l, 0, h => by simp [pfl]
  | v :: l, k + 1, h => by
    have ih := pfl_get l k (by simpa using h)
    have e : pfl (v :: l) = .int .i64 v.a :: .int .i64 v.k :: .bool v.back :: pfl l := rfl
    rw [e, show (k + 1) * 3 = k * 3 + 1 + 1 + 1 by omega]
    simpa using ih
theorem pfl_snoc (l : List PuI) (p : PuI) : pfl (l ++ [p]) = pfl l ++ [.int .i64 p.a, .int .i64 p.k, .bool p.back] := by simp [pfl]
theorem own_pfl {w : World} {base e g cap : Nat} {ps : List PuI} (h : w.ownsRow base e 3 (.slice (some ⟨g, 0, none⟩) ps.length cap) ps.length (pfl ps)) : PuHeld w g ps := fun j hj => by
  obtain ⟨a, b, c⟩ := pfl_get ps j hj
  exact ⟨(h.cellAt _ (by omega)).trans a, (h.cellAt _ (by omega)).trans b, (h.cellAt _ (by omega)).trans c⟩
/-- A row above a block that turned. -/
theorem own_grown {w w1 : World} {base e size n : Nat} {v : Value} {xs : List Value} (h : w.ownsRow base e size v n xs) {s : Nat} (hs : s < base) (hG : w.grownBy w1 (some s)) : w1.ownsRow base e size v n xs := by
  refine h.kept hG ?_
  cases hv : v.ownBlock with
  | none => exact .inl rfl
  | some k =>
    right
    intro he
    simp at he
    have := (h.lt k hv).1
    omega
theorem own_set_ne' {w : World} {base e size n : Nat} {v : Value} {xs : List Value} (h : w.ownsRow base e size v n xs) {q : Nat} (hq : v.ownBlock ≠ some q) (o : Nat) (u : Value) : (w.setCell ⟨q, o, none⟩ u).ownsRow base e size v n xs :=
  h.kept (row := some q) ⟨rfl, rfl, rfl, by simp, fun k _ hne => Below.heap_setCell _ _ _ _ (fun he => hne (by rw [he]))⟩ (.inr hq)
/-- A store into a block that is newer than the world one looks back to. -/
theorem grown_setNew {w w' : World} {r : Option Nat} (h : w.grownBy w' r) {p : Addr} (hp : w.heap.size ≤ p.block) (v : Value) : w.grownBy (w'.setCell p v) r :=
  ⟨h.os, h.tape, h.output, by simpa using h.size, fun k hk hne => by
    rw [Below.heap_setCell _ _ _ _ (by omega)]; exact h.block k hk hne⟩
/-- The list grew, and with it the world that one looks back to. -/
theorem grown_grew {w w' w1 : World} {base e size n : Nat} {v : Value} {xs : List Value} {r : Option Nat} (h : w.grownBy w' r) (ho : w'.ownsRow base e size v n xs) (hg : w'.grownBy w1 v.ownBlock) (hs : w.heap.size ≤ base) : w.grownBy w1 r := by
  have hr : ∀ k, v.ownBlock = some k → base ≤ k := fun k hk => (ho.lt k hk).1
  refine ⟨hg.os.trans h.os, hg.tape.trans h.tape, hg.output.trans h.output, Nat.le_trans h.size hg.size, fun i hi hne => ?_⟩
  rw [hg.block i (Nat.lt_of_lt_of_le hi h.size) (fun he => by have := hr i he.symm; omega)]
  exact h.block i hi hne
theorem Sc.grew {w w1 : World} {s n : Nat} {cv : Value} (h : Sc w s cv n) {base e size m : Nat} {v : Value} {xs : List Value} (ho : w.ownsRow base e size v m xs) (hg : w.grownBy w1 v.ownBlock) (hs : s < base)
    (hc : ∀ g o c, cv = .slice (some ⟨g, o, none⟩) n c → g < base) : Sc w1 s cv n := by
  have hr : ∀ k, v.ownBlock = some k → base ≤ k := fun k hk => (ho.lt k hk).1
  refine h.grown hg (fun he => ?_) (fun g o c e => .inr (fun he => ?_))
  · have := hr s he; omega
  · have := hr g he; have := hc g o c e; omega
end Go.Proofs.YtmbjomjpnfnbkaaGreat
