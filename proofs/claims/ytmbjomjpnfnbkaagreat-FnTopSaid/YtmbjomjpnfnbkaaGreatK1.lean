/-
  Rows of a call's own beside a cell that turns: what keeps them, what they keep.
-/
import Derived.Test.YtmbjomjpnfnbkaaGreatK0
import Derived.Laws.AppendOwn
import Derived.OwnWalk
set_option linter.unusedSimpArgs false
set_option linter.unusedVariables false
namespace Go.Proofs.YtmbjomjpnfnbkaaGreat
open Go.RowKit Flt

theorem Ext.grown {b : Nat} {c : Int} {w w' : World} (h : Ext b c w w') : w.grownBy w' (some b) :=
  ⟨h.os, h.tape, h.output, h.size, fun k hk hne => h.block k hk (fun e => hne (by rw [e]))⟩
theorem own_ext {b : Nat} {c : Int} {w w' : World} {base : Nat} {e : TypeId} {size : Nat} {v : Value} {n : Nat} {xs : List Value} (h : w.ownsRow base e size v n xs) (hb : b < base) (hX : Ext b c w w') : w'.ownsRow base e size v n xs := by
  refine h.kept hX.grown ?_
  cases hv : v.ownBlock with
  | none => exact .inl rfl
  | some k =>
    right
    intro he
    simp at he
    have := (h.lt k hv).1
    omega
theorem Ext.grew {b : Nat} {c : Int} {w w' w1 : World} {base : Nat} {e : TypeId} {size : Nat} {v : Value} {n : Nat} {xs : List Value} (h : Ext b c w w') (ho : w'.ownsRow base e size v n xs) (hg : w'.grownBy w1 v.ownBlock) (hb : b < base) (hs : w.heap.size ≤ base) : Ext b c w w1 := by
  have hlt := h.at_.lt
  have hr : ∀ k, v.ownBlock = some k → base ≤ k := fun k hk => (ho.lt k hk).1
  have hbe : some b ≠ v.ownBlock := fun he => by have := hr b he.symm; omega
  have hbb := hg.block b hlt hbe
  refine ⟨hg.os.trans h.os, hg.tape.trans h.tape, hg.output.trans h.output, Nat.le_trans h.size hg.size, ⟨?_, ?_⟩, fun i hi hne => ?_⟩
  · rw [World.cell?_of_block (a := ⟨b, 0, none⟩) hbb]; exact h.at_.1
  · rw [World.frozen?_of_block (a := ⟨b, 0, none⟩) hbb]; exact h.at_.2
  · rw [hg.block i (Nat.lt_of_lt_of_le hi h.size) (fun he => by have := hr i he.symm; omega)]
    exact h.block i hi hne
theorem own_new {w w' : World} {base : Nat} {e : TypeId} {size : Nat} {v : Value} {n : Nat} {xs : List Value} (h : w.ownsRow base e size v n xs) (hX : New w w') : w'.ownsRow base e size v n xs := by
  refine h.kept (w' := w') (row := none) ⟨hX.os, hX.tape, hX.output, hX.size, fun k hk _ => hX.block k hk⟩ ?_
  cases hv : v.ownBlock with
  | none => exact .inl rfl
  | some k => exact .inr (by simp)
theorem New.grew {w w' w1 : World} {base : Nat} {e : TypeId} {size : Nat} {v : Value} {n : Nat} {xs : List Value} (h : New w w') (ho : w'.ownsRow base e size v n xs) (hg : w'.grownBy w1 v.ownBlock) (hs : w.heap.size ≤ base) : New w w1 := by
  have hr : ∀ k, v.ownBlock = some k → base ≤ k := fun k hk => (ho.lt k hk).1
  refine ⟨hg.os.trans h.os, hg.tape.trans h.tape, hg.output.trans h.output, Nat.le_trans h.size hg.size, fun i hi => ?_⟩
  rw [hg.block i (Nat.lt_of_lt_of_le hi h.size) (fun he => by have := hr i he.symm; omega)]
  exact h.block i hi
theorem own_le {w : World} {base base' size n : Nat} {e : TypeId} {v : Value} {xs : List Value} (h : w.ownsRow base e size v n xs) (hb : base' ≤ base) : w.ownsRow base' e size v n xs :=
  ⟨h.1, h.2.elim Or.inl (fun ⟨g, cap, cur, hv, hg, r⟩ => Or.inr ⟨g, cap, cur, hv, Nat.le_trans hb hg, r⟩)⟩
/-- A call that turned a cell of the call's own alone made memory alone. -/
theorem Ext.newOf {b : Nat} {c : Int} {w w1 w2 : World} (h : New w w1) (k : Ext b c w1 w2) (hb : w.heap.size ≤ b) : New w w2 :=
  ⟨k.os.trans h.os, k.tape.trans h.tape, k.output.trans h.output, Nat.le_trans h.size k.size, fun i hi => by
    rw [k.block i (Nat.lt_of_lt_of_le hi h.size) (by omega)]; exact h.block i hi⟩
/-- The cells of the newest block. -/
theorem new_cells (w : World) (xs : Array Value) (e : TypeId) {n : Nat} (hn : w.heap.size = n) : ∀ j u, xs.toList[j]? = some u → (w.alloc (.cells xs e)).cell? ((⟨n, 0, none⟩ : Addr).add j) = some u := by
  subst hn
  intro j u hj
  have hadd : (⟨w.heap.size, 0, none⟩ : Addr).add j = ⟨w.heap.size, j, none⟩ := by unfold Addr.add; split <;> simp_all
  rw [hadd, cell_of_row _ _ j xs e (0, 0) (heap_alloc_new w _)]
  simpa using hj
theorem own_lit0 (w : World) (e : TypeId) (size : Nat) {base n : Nat} (hn : w.heap.size = n) (hb : base ≤ n) : (w.alloc (.cells #[] e)).ownsRow base e size (.slice (some ⟨n, 0, none⟩) 0 0) 0 [] := by
  subst hn
  exact World.ownsRow_lit _ #[] 0 hb (by unfold maxLen; omega) (by simp)
theorem own_lit1 (w : World) (cs : Array Value) (e : TypeId) (size : Nat) {base n : Nat} (hn : w.heap.size = n) (hb : base ≤ n) (hs : cs.size = size) : (w.alloc (.cells cs e)).ownsRow base e size (.slice (some ⟨n, 0, none⟩) 1 1) 1 cs.toList := by
  subst hn
  exact World.ownsRow_lit _ cs 1 hb (by unfold maxLen; omega) (by omega)
theorem wrap_small {x : Int} (h1 : -9223372036854775808 ≤ x) (h2 : x ≤ 9223372036854775807) : IntKind.i64.wrap x = x := by
  unfold IntKind.wrap; simp only [IntKind.bits, IntKind.signed]; simp; omega
end Go.Proofs.YtmbjomjpnfnbkaaGreat
