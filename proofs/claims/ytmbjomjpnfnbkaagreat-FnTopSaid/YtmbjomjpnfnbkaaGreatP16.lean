/-
  The tables of pulses and of sequences: their sizes.
-/
import Derived.Test.YtmbjomjpnfnbkaaGreatD21
import Derived.Test.YtmbjomjpnfnbkaaGreatP3
set_option linter.unusedSimpArgs false
set_option linter.unusedVariables false
namespace Go.Proofs.YtmbjomjpnfnbkaaGreat
open Go.RowKit Flt

theorem le_one {x : Nat} (hf : fin S x = true) (h : rg S x ≤ rg S 1065353216) : Le S 0 x := by
  refine ⟨hf, ?_⟩
  have hi := (fin_iff S x S_good).1 hf
  have h1 : rv S (rg S x) ≤ rv S (rg S 1065353216) := (rv_mono S hi (by decide)).2 h
  rw [← val_ab S S_good hf, ← val_ab S S_good fin_1, val1] at h1
  have e : ab (1 : Rat) = 1 := by decide +kernel
  rw [e] at h1
  rw [Rat.zpow_zero]; exact h1
theorem hC_lw {k : Nat} (h : k ≤ 24) : Lw 0 (hC k) := ⟨(half_of (by omega)).lc, le_one (half_of (by omega)).fc (half_of (by omega)).rc⟩
theorem hS_lw {k : Nat} (h : k ≤ 24) : Lw 0 (hS k) := ⟨(half_of (by omega)).ls, le_one (half_of (by omega)).fs (half_of (by omega)).rs⟩
theorem tabS_lw {p x y z : Nat} (hp : Lw 0 p) (hx : Lw 0 x) (hy : Lw 0 y) (hz : Lw 0 z) : Lw8 0 (tabS p x y z) :=
  ⟨hp, hz.ng, hy.ng, hx.ng, hy, hx.ng, hp, hz⟩
theorem about_lw {a c s : Nat} (hc : Lw 0 c) (hs : Lw 0 s) : Lw8 0 (aboutS a c s) := by
  unfold aboutS
  split
  · exact tabS_lw hc hs (.zero 0) (.zero 0)
  · split
    · exact tabS_lw hc (.zero 0) hs (.zero 0)
    · exact tabS_lw hc (.zero 0) (.zero 0) hs
theorem adj_lw {k : Int} {t : C8} (h : Lw8 k t) : Lw8 k (adjS t) := ⟨h.a0, h.a1.ng, h.c0, h.c1.ng, h.b0, h.b1.ng, h.d0, h.d1.ng⟩
theorem pul_lw {p : PuN} (h : p.ok) : Lw8 0 (pulS p) := by
  unfold pulS
  split
  · exact adj_lw (about_lw (hC_lw h.2) (hS_lw h.2))
  · exact about_lw (hC_lw h.2) (hS_lw h.2)
def unitS : C8 := tabS 1065353216 0 0 0
theorem one_lw : Lw 0 1065353216 := ⟨by decide, le_one fin_1 (Nat.le_refl _)⟩
theorem unit_lw : Lw8 0 unitS := tabS_lw one_lw (.zero 0) (.zero 0) (.zero 0)
/-- The table of a sequence, bare, from a table on. -/
def tabL : List PuN → C8 → C8
  | [], t => t
  | p :: ps, t => tabL ps (productS (pulS p) t)
theorem product_lw {s t : C8} {j : Int} (hs : Lw8 0 s) (ht : Lw8 j t) (h0 : 0 ≤ j) (h1 : j ≤ 125) : Lw8 (j + 2) (productS s t) := by
  have := (product_law (k := 0) (j := j) hs ht (by omega) (by omega)).2
  rw [show (0 : Int) + j + 2 = j + 2 by omega] at this
  exact this

/-- A pulse as it is told: any numbers. -/
structure PuI where
  a : Int
  k : Int
  back : Bool
def PuI.zero : PuI := ⟨0, 0, false⟩
def PuI.okB (p : PuI) : Bool := inB p.a 0 2 && inB p.k 0 24
def PuI.n (p : PuI) : PuN := ⟨p.a.toNat, p.k.toNat, p.back⟩
abbrev PuI.val (p : PuI) : Value := .agg #[.int .i64 p.a, .int .i64 p.k, .bool p.back]
theorem PuI.ok_n {p : PuI} (h : p.okB = true) : p.n.ok ∧ p.val = p.n.val := by
  unfold PuI.okB inB at h
  simp only [Bool.and_eq_true, decide_eq_true_eq] at h
  obtain ⟨⟨a1, a2⟩, b1, b2⟩ := h
  refine ⟨⟨?_, ?_⟩, ?_⟩
  · show p.a.toNat ≤ 2; omega
  · show p.k.toNat ≤ 24; omega
  · show Value.agg #[.int .i64 p.a, .int .i64 p.k, .bool p.back] = Value.agg #[.int .i64 ((p.a.toNat : Nat) : Int), .int .i64 ((p.k.toNat : Nat) : Int), .bool p.back]
    rw [Int.toNat_of_nonneg a1, Int.toNat_of_nonneg b1]
def seqB (ps : List PuI) : Bool := ps.all PuI.okB && decide (ps.length ≤ 60)
/-- A list of pulses that stands in memory. -/
def PuHeld (w : World) (g : Nat) (ps : List PuI) : Prop :=
  ∀ j, j < ps.length → w.cell? ⟨g, j * 3, none⟩ = some (.int .i64 (ps.getD j PuI.zero).a) ∧ w.cell? ⟨g, j * 3 + 1, none⟩ = some (.int .i64 (ps.getD j PuI.zero).k) ∧ w.cell? ⟨g, j * 3 + 2, none⟩ = some (.bool (ps.getD j PuI.zero).back)
theorem PuHeld.new {w w' : World} {g : Nat} {ps : List PuI} (h : PuHeld w g ps) (hN : New w w') : PuHeld w' g ps :=
  fun j hj => ⟨hN.cell_at (h j hj).1, hN.cell_at (h j hj).2.1, hN.cell_at (h j hj).2.2⟩
theorem PuHeld.ext {b : Nat} {c : Int} {w w' : World} {g : Nat} {ps : List PuI} (h : PuHeld w g ps) (hE : Ext b c w w') (hb : g ≠ b) : PuHeld w' g ps :=
  fun j hj => ⟨hE.cell_at (h j hj).1 hb, hE.cell_at (h j hj).2.1 hb, hE.cell_at (h j hj).2.2 hb⟩
/-- The reference's answer. -/
def tabQ (ps : List PuI) : C8 := if seqB ps = true then tabL (ps.map PuI.n) unitS else bad8 1
theorem all_take {ps : List PuI} {k : Nat} (h : k < ps.length) : (ps.take (k + 1)).all PuI.okB = ((ps.take k).all PuI.okB && (ps.getD k PuI.zero).okB) := by
  rw [List.take_add_one]
  have : ps[k]? = some (ps.getD k PuI.zero) := by simp [List.getD, h]
  rw [this]; simp
theorem drop_n {ps : List PuI} {k : Nat} (h : k < ps.length) : (ps.map PuI.n).drop k = (ps.getD k PuI.zero).n :: (ps.map PuI.n).drop (k + 1) := by
  have hl : k < (ps.map PuI.n).length := by simpa using h
  rw [List.drop_eq_getElem_cons hl]
  simp [List.getD, h]
end Go.Proofs.YtmbjomjpnfnbkaaGreat
