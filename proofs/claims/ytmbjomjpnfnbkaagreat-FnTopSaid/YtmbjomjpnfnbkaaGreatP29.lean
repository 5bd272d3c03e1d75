/-
  The laws that the statement on sequences, tables, vectors and pairs needs.
-/
import Derived.Test.YtmbjomjpnfnbkaaGreatMb
import Derived.Test.YtmbjomjpnfnbkaaGreatD23
import Derived.Test.YtmbjomjpnfnbkaaGreatA24
import Derived.Test.YtmbjomjpnfnbkaaGreatMe
set_option linter.unusedSimpArgs false
set_option linter.unusedVariables false
namespace Go.Proofs.YtmbjomjpnfnbkaaGreat
open Go.RowKit Flt

theorem Lw8.fw' {k : Int} {t : C8} (h : Lw8 k t) : Fw8 t := ⟨h.a0.FW, h.a1.FW, h.b0.FW, h.b1.FW, h.c0.FW, h.c1.FW, h.d0.FW, h.d1.FW⟩
theorem seq_lw {ps : List PuI} (h : seqB ps = true) : Lw8 58 (tabQ ps) := by rw [tabQ_good h]; exact seq_small h
theorem tab_fw (ps : List PuI) : Fw8 (nz (tabQ ps)) := by
  cases h : seqB ps with
  | true => exact (seq_lw h).nz.fw'
  | false => rw [tabQ_bad h]; exact (Lw8.bad 0 1).nz.fw'
theorem tab_code {ps : List PuI} (h : seqB ps = true) : (nz (tabQ ps)).c = 0 := by rw [tabQ_good h]; exact tabL_c _ _ rfl
theorem tab_code_bad {ps : List PuI} (h : seqB ps = false) : (nz (tabQ ps)).c = 1 := by rw [tabQ_bad h]; rfl
theorem one_ok {p : PuI} (h : p.okB = true) : seqB [p] = true := by unfold seqB; simp [h]
theorem nz_adj_nz' {t : C8} (h : Fw8 t) : nz (adjS (nz t)) = nz (adjS t) := by
  unfold nz adjS
  simp only [zn_zn, zn_ng_zn h.a1, zn_ng_zn h.b1, zn_ng_zn h.c1, zn_ng_zn h.d1]

/-- What a table and a vector come to. -/
def vecB (x y z : Nat) : C8 := ⟨0, z, 0, x, ng y, x, y, ng z, 0⟩
theorem vecB_lw {k : Int} {x y z : Nat} (hx : Lw k x) (hy : Lw k y) (hz : Lw k z) : Lw8 k (vecB x y z) := ⟨hz, .zero k, hx, hy.ng, hx, hy, hz.ng, .zero k⟩
def turS (s m : C8) : C8 := nz (productS (productS s m) (adjS s))
theorem tur1 {s m : C8} (hs : Lw8 58 s) (hm : Lw8 2 m) : productM (nz s) (nz m) 0 = nz (productS s m) ∧ Lw8 62 (nz (productS s m)) ∧ productM (nz (productS s m)) (nz (adjS (nz s))) 0 = turS s m := by
  have h1 := product_law hs hm (by decide) (by decide)
  have h2 := product_law (k := 62) (j := 58) h1.2 (adj_lw hs) (by decide) (by decide)
  refine ⟨h1.1, h1.2.nz, ?_⟩
  rw [nz_adj_nz' hs.fw']
  exact h2.1
theorem tur2 {s m : C8} (hs : Lw8 58 s) (hm : Lw8 2 m) : productM (oppS (nz s)) (nz m) 0 = nz (productS (oppS (nz s)) m) ∧ Lw8 62 (nz (productS (oppS (nz s)) m)) ∧ productM (nz (productS (oppS (nz s)) m)) (nz (adjS (oppS (nz s)))) 0 = turS s m := by
  have ho := (OV8.of hs).lw'
  have h1 := product_e (EV8.refl ho) (EV8.nz hm) (by decide) (by decide)
  have h2 := product_law (k := 62) (j := 58) h1.2 (adj_lw ho) (by decide) (by decide)
  refine ⟨h1.1, h1.2.nz, ?_⟩
  rw [h2.1]
  exact around_opp hs hm (by decide) (by decide) (by decide) (by decide)
theorem turS_fw {s m : C8} (hs : Lw8 58 s) (hm : Lw8 2 m) : Fw8 (turS s m) := by
  have h1 := product_law hs hm (by decide) (by decide)
  have h2 := product_law (k := 62) (j := 58) h1.2 (adj_lw hs) (by decide) (by decide)
  exact h2.2.nz.fw'
theorem swp_swp (p : C8) : swp (swp p) = p := rfl
theorem nz_swp (p : C8) : nz (swp p) = swp (nz p) := rfl
theorem nz_nz (p : C8) : nz (nz p) = nz p := by unfold nz; simp only [zn_zn]
/-- The table of one pulse turned back. -/
theorem back_tab {p : PuI} (h : p.okB = true) : nz (tabQ [⟨p.a, p.k, !p.back⟩]) = nz (adjS (nz (tabQ [p]))) := by
  have h' : (⟨p.a, p.k, !p.back⟩ : PuI).okB = true := h
  rw [tabQ_good (one_ok h), tabQ_good (one_ok h')]
  have e1 : tabL ([(⟨p.a, p.k, !p.back⟩ : PuI)].map PuI.n) unitS = productS (pulS p.n.inv) unitS := by simp only [List.map, tabL, PuI.n, PuN.inv]
  have e2 : tabL ([p].map PuI.n) unitS = productS (pulS p.n) unitS := by simp only [List.map, tabL, PuI.n, PuN.inv]
  rw [e1, e2]
  exact back_law (PuI.ok_n h).1

/-- A small number out of a source. -/
def cf (r : Nat) : Nat := subs (floatOfInt .f32 (r : Int)) 1082130432
def cfOk (r : Nat) : Bool := fin S (floatOfInt .f32 (r : Int)) && (decide (cf r < 2 ^ 32) && (fin S (cf r) && decide (ab (val S (cf r)) ≤ 4)))
theorem cf_all : (List.range 9).all cfOk = true := by decide +kernel
theorem cf_ok {r : Nat} (h : r < 9) : fin S (floatOfInt .f32 (r : Int)) = true ∧ Lw 2 (cf r) := by
  have h1 := List.all_eq_true.1 cf_all r (List.mem_range.2 h)
  unfold cfOk at h1
  simp only [Bool.and_eq_true, decide_eq_true_eq] at h1
  exact ⟨h1.1, h1.2.1, h1.2.2.1, by have e : (2 : Rat) ^ (2 : Int) = 4 := by decide +kernel
                                    rw [e]; exact h1.2.2.2⟩
theorem cf_sub {r : Nat} (h : r < 9) : floatBits .sub .f32 (floatOfInt .f32 (r : Int)) 1082130432 = some (cf r) :=
  (subs_eq (cf_ok h).1 (by decide +kernel)).1
end Go.Proofs.YtmbjomjpnfnbkaaGreat
