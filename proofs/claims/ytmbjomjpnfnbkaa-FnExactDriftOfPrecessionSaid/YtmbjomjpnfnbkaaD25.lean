/-
  Walks of the reference's DriftOfPrecession.
-/
import Derived.Test.YtmbjomjpnfnbkaaD24
import Derived.Test.YtmbjomjpnfnbkaaP25
import Derived.Test.YtmbjomjpnfnbkaaA32
set_option linter.unusedSimpArgs false
set_option linter.unusedVariables false
namespace Go.Proofs.Ytmbjomjpnfnbkaa
open Go.RowKit Flt

theorem own_set_ne {w : World} {base e size n : Nat} {v : Value} {xs : List Value} (h : w.ownsRow base e size v n xs) {q : Nat} (hq : v.ownBlock ≠ some q) (o : Nat) (u : Value) : (w.setCell ⟨q, o, none⟩ u).ownsRow base e size v n xs :=
  h.kept (row := some q) ⟨rfl, rfl, rfl, by simp, fun k _ hne => Below.heap_setCell _ _ _ _ (fun he => hne (by rw [he]))⟩ (.inr hq)
theorem grew_cell_ne {w w1 : World} {r : Option Nat} (hg : w.grownBy w1 r) {i o : Nat} {u : Value} (hi : r ≠ some i) (hc : w.cell? ⟨i, o, none⟩ = some u) : w1.cell? ⟨i, o, none⟩ = some u := by
  rw [World.cell?_of_block (a := ⟨i, o, none⟩) (hg.block i (cell_lt hc) (fun he => hi he.symm))]; exact hc
theorem grew_frozen_ne {w w1 : World} {r : Option Nat} (hg : w.grownBy w1 r) {i o : Nat} (hi : r ≠ some i) (hl : i < w.heap.size) (hc : w.frozen? ⟨i, o, none⟩ = false) : w1.frozen? ⟨i, o, none⟩ = false := by
  rw [World.frozen?_of_block (a := ⟨i, o, none⟩) (hg.block i hl (fun he => hi he.symm))]; exact hc
theorem own_not {w : World} {base e n : Nat} {v : Value} {xs : List Value} (h : w.ownsRow base e 1 v (n + 1) xs) {N a b : Nat} {y : Nat} (hx : xs[0]? = some (.float .f32 y)) (hc : w.cell? ⟨N, 0, none⟩ = some (.complex .f32 a b)) : v.ownBlock ≠ some N := by
  intro hv
  rcases own_forms h with ⟨_, h0⟩ | ⟨g, cap, rfl⟩
  · omega
  · have hg : g = N := by simpa [Value.ownBlock] using hv
    subst hg
    have := h.cellAt 0 (by omega)
    rw [hx, hc] at this
    simp at this
theorem fl32_zero (dr : Nat → Nat) (k : Nat) : ∃ y, (fl32 (drs dr (k + 1)))[0]? = some (.float .f32 y) := by
  refine ⟨dr 0, ?_⟩
  simp [fl32, drs]

set_option maxHeartbeats 4000000 in
set_option maxRecDepth 5000 in
theorem l00DriftOfPrecession_c (x y z h : Nat) (n : Int) (w : World) (hx : x < 2 ^ 32) (hy : y < 2 ^ 32) (hz : z < 2 ^ 32) (hh : h < 2 ^ 32) :
    Calls Try.prog 97 #[V3 x y z, .float .f32 h, .int .i64 n] w fun e w' => ∃ u, e = .returned (.tuple #[u, .int .i64 (driftR x y z h n).1]) ∧ w'.ownsRow w.heap.size 34 1 u (driftR x y z h n).2.length (fl32 (driftR x y z h n).2) ∧ New w w' := by
  cases hf : (fin S x && fin S y && fin S z) with
  | false =>
    rw [driftR_bad1 (by unfold isFin4; rw [hf]; rfl)]
    have HF := hid hf
    clear hf
    go_enter Try.func97, Try.ntmps97
    go_wp2_with fail
    refine (l09Is_c x y z _).mono ?_; rintro e w1 ⟨rfl, hN⟩; rw [HF.out]
    go_wp2
    refine bodyPost_ret (v := .tuple #[.slice none 0 0, .int .i64 1]) (by simp [results, Try.results97, go_sem]) rfl ⟨_, rfl, World.ownsRow_nil _ _ _ _, ?_⟩
    exact ((New.refl w).alloc _).trans hN
  | true =>
    cases hg : fin S h with
    | false =>
      rw [driftR_bad1 (by unfold isFin4; rw [hf, hg]; rfl)]
      have HF := hid hf
      have HG := hid hg
      clear hf hg
      go_enter Try.func97, Try.ntmps97
      go_wp2_with fail
      refine (l09Is_c x y z _).mono ?_; rintro e w1 ⟨rfl, hN⟩; rw [HF.out]
      go_wp2_with fail
      refine (fine_any _ _).mono ?_; rintro e w' ⟨rfl, k1, rfl⟩; rw [HG.out]
      go_wp2
      refine bodyPost_ret (v := .tuple #[.slice none 0 0, .int .i64 1]) (by simp [results, Try.results97, go_sem]) rfl ⟨_, rfl, World.ownsRow_nil _ _ _ _, ?_⟩
      exact (((New.refl w).alloc _).trans hN).drewN _
    | true =>
      have hf4 : isFin4 x y z h = true := by unfold isFin4; rw [hf, hg]; rfl
      cases hi : inB n 1 300 with
      | false =>
        rw [driftR_bad2 hf4 hi]
        have HF := hid hf
        have HG := hid hg
        have HI := hid hi
        clear hf hg hi hf4
        go_enter Try.func97, Try.ntmps97
        go_wp2_with fail
        refine (l09Is_c x y z _).mono ?_; rintro e w1 ⟨rfl, hN⟩; rw [HF.out]
        go_wp2_with fail
        refine (fine_any _ _).mono ?_; rintro e w' ⟨rfl, k1, rfl⟩; rw [HG.out]
        go_wp2_with fail
        refine (l01In_c _ _ _ _).mono ?_; rintro e w' ⟨rfl, rfl⟩; rw [HI.out]
        go_wp2
        refine bodyPost_ret (v := .tuple #[.slice none 0 0, .int .i64 2]) (by simp [results, Try.results97, go_sem]) rfl ⟨_, rfl, World.ownsRow_nil _ _ _ _, ?_⟩
        exact (((New.refl w).alloc _).trans hN).drewN _
      | true =>
        have hf3 := hf
        simp only [Bool.and_eq_true] at hf3
        have HF := hid hf
        have HG := hid hg
        have HI := hid hi
        have KS := hid (fun w => l09Step_c x y z h w hf3.1.1 hf3.1.2 hf3.2 hg)
        rcases stepS_lw hf3.1.1 hf3.1.2 hf3.2 hg with ⟨_, hc | hc⟩
        · rw [driftR_good hf4 hi hc]
          obtain ⟨l3, l58, lc⟩ := powS_small hf3.1.1 hf3.1.2 hf3.2 hg hc
          generalize stepS x y z h = s at *
          unfold inB at hi
          simp only [Bool.and_eq_true, decide_eq_true_eq] at hi
          obtain ⟨m, rfl⟩ : ∃ m : Nat, n = m := ⟨n.toNat, by omega⟩
          have hm : m ≤ 300 := by omega
          simp only [Int.toNat_natCast]
          have L3 := hid l3
          have L58 := hid l58
          clear hf hg hi hf4 hf3 hx hy hz hh l3 l58 lc
          obtain ⟨sc, s0, s1, s2, s3, s4, s5, s6, s7⟩ := s
          simp only at hc
          subst hc
          go_enter Try.func97, Try.ntmps97
          go_wp2_with fail
          refine (l09Is_c x y z _).mono ?_; rintro e w1 ⟨rfl, hN⟩; rw [HF.out]
          have b0 := hN.cell_at (k := w.heap.size) (o := 0) (v := .float .f32 x) (by go_simp)
          have b1 := hN.cell_at (k := w.heap.size) (o := 1) (v := .float .f32 y) (by go_simp)
          have b2 := hN.cell_at (k := w.heap.size) (o := 2) (v := .float .f32 z) (by go_simp)
          go_wp2_with fail
          refine (fine_any _ _).mono ?_; rintro e w' ⟨rfl, k1, rfl⟩; rw [HG.out]
          go_wp2_with fail
          refine (l01In_c _ _ _ _).mono ?_; rintro e w' ⟨rfl, rfl⟩; rw [HI.out]
          go_wp2_with fail
          (with_reducible refine (KS.out _).mono ?_); rintro e w2 ⟨rfl, hN2⟩
          have hW2 := hid ((((New.refl w).alloc _).trans hN).drewN k1 |>.trans hN2)
          have hsW := hN.size
          simp at hsW
          have hsW2 := hN2.size
          simp at hsW2
          clear hN hN2 b0 b1 b2
          go_wp2_with fail
          go_loopw [11, 12] (fun u i wr => ∃ k : Nat, k ≤ m ∧ i = .int .i64 k ∧ Hid (wr.ownsRow (w2.heap.size + 1) 34 1 u k (fl32 (drs (fun k => zn (driftS (powS ⟨0, s0, s1, s2, s3, s4, s5, s6, s7⟩ k))) k))) ∧ Hid (u.ownBlock ≠ some (w2.heap.size + 1 + 1)) ∧
            Hid (wr.cell? ⟨w2.heap.size, 0, none⟩ = some (.complex .f32 s0 s1) ∧ wr.cell? ⟨w2.heap.size, 1, none⟩ = some (.complex .f32 s2 s3) ∧ wr.cell? ⟨w2.heap.size, 2, none⟩ = some (.complex .f32 s4 s5) ∧ wr.cell? ⟨w2.heap.size, 3, none⟩ = some (.complex .f32 s6 s7)) ∧
            Hid (wr.cell? ⟨w2.heap.size + 1 + 1, 0, none⟩ = some (.complex .f32 (powS ⟨0, s0, s1, s2, s3, s4, s5, s6, s7⟩ k).a0 (powS ⟨0, s0, s1, s2, s3, s4, s5, s6, s7⟩ k).a1) ∧ wr.cell? ⟨w2.heap.size + 1 + 1, 1, none⟩ = some (.complex .f32 (powS ⟨0, s0, s1, s2, s3, s4, s5, s6, s7⟩ k).b0 (powS ⟨0, s0, s1, s2, s3, s4, s5, s6, s7⟩ k).b1) ∧ wr.cell? ⟨w2.heap.size + 1 + 1, 2, none⟩ = some (.complex .f32 (powS ⟨0, s0, s1, s2, s3, s4, s5, s6, s7⟩ k).c0 (powS ⟨0, s0, s1, s2, s3, s4, s5, s6, s7⟩ k).c1) ∧ wr.cell? ⟨w2.heap.size + 1 + 1, 3, none⟩ = some (.complex .f32 (powS ⟨0, s0, s1, s2, s3, s4, s5, s6, s7⟩ k).d0 (powS ⟨0, s0, s1, s2, s3, s4, s5, s6, s7⟩ k).d1)) ∧
            Hid (wr.frozen? ⟨w2.heap.size + 1 + 1, 0, none⟩ = false ∧ wr.frozen? ⟨w2.heap.size + 1 + 1, 1, none⟩ = false ∧ wr.frozen? ⟨w2.heap.size + 1 + 1, 2, none⟩ = false ∧ wr.frozen? ⟨w2.heap.size + 1 + 1, 3, none⟩ = false) ∧
            w2.heap.size + 3 ≤ wr.heap.size ∧ New w wr) (fun _ i _ => m - (intOf i).toNat)
          case atStart =>
            refine ⟨0, Nat.zero_le _, rfl, hid ((own_lit0 _ _ _ (by simp) (by simp)).alloc _), hid (by simp [Value.ownBlock]), ⟨by go_simp, by go_simp, by go_simp, by go_simp⟩, ?_, ⟨by go_simp, by go_simp, by go_simp, by go_simp⟩, by simp, ?_⟩
            · have e0 : powS ⟨0, s0, s1, s2, s3, s4, s5, s6, s7⟩ 0 = ⟨0, s0, s1, s2, s3, s4, s5, s6, s7⟩ := rfl
              rw [e0]
              exact ⟨by go_simp, by go_simp, by go_simp, by go_simp⟩
            · exact ((hW2.out.alloc _).alloc _).alloc _
          case round =>
            obtain ⟨k, hk, rfl, HO, HB, HS, HC, HZ, hsz, hNr⟩ := hrel
            obtain ⟨x0, x1, x2, x3⟩ := HS.out
            by_cases hkm : k < m
            · have hkn : (k : Int) < (m : Int) := by omega
              have lk := L58.out k (by omega)
              have KD := hid (fun w => specDriftOfTurn_c (powS ⟨0, s0, s1, s2, s3, s4, s5, s6, s7⟩ k) w lk.fw (drF_of lk))
              have KT := hid (fun w => l03Times_c ⟨0, s0, s1, s2, s3, s4, s5, s6, s7⟩ (powS ⟨0, s0, s1, s2, s3, s4, s5, s6, s7⟩ k) 3 58 w L3.out lk (by decide) (by decide))
              have eN : productS ⟨0, s0, s1, s2, s3, s4, s5, s6, s7⟩ (powS ⟨0, s0, s1, s2, s3, s4, s5, s6, s7⟩ k) = powS ⟨0, s0, s1, s2, s3, s4, s5, s6, s7⟩ (k + 1) := rfl
              rw [eN] at KT
              have HSN := hid (drs_snoc (fun k => zn (driftS (powS ⟨0, s0, s1, s2, s3, s4, s5, s6, s7⟩ k))) k)
              have HY := hid (fl32_zero (fun k => zn (driftS (powS ⟨0, s0, s1, s2, s3, s4, s5, s6, s7⟩ k))) k)
              clear lk eN
              generalize hdr : drs (fun k => zn (driftS (powS ⟨0, s0, s1, s2, s3, s4, s5, s6, s7⟩ k))) (k + 1) = dn at *
              have HDN := hid hdr
              clear hdr
              generalize drs (fun k => zn (driftS (powS ⟨0, s0, s1, s2, s3, s4, s5, s6, s7⟩ k))) k = dk at *
              generalize zn (driftS (powS ⟨0, s0, s1, s2, s3, s4, s5, s6, s7⟩ k)) = dv at *
              generalize powS ⟨0, s0, s1, s2, s3, s4, s5, s6, s7⟩ k = p at *
              generalize ht : powS ⟨0, s0, s1, s2, s3, s4, s5, s6, s7⟩ (k + 1) = t at *
              have HT := hid ht
              clear ht
              obtain ⟨pc, p0, p1, p2, p3, p4, p5, p6, p7⟩ := p
              obtain ⟨tc, t0, t1, t2, t3, t4, t5, t6, t7⟩ := t
              obtain ⟨y0, y1, y2, y3⟩ := HC.out
              obtain ⟨z0, z1, z2, z3⟩ := HZ.out
              simp only at y0 y1 y2 y3
              go_wp2_with fail
              (with_reducible refine (KD.out _).mono ?_); rintro e w3 ⟨rfl, hN3⟩
              have hs3 := hN3.size
              have hO3 := hid (own_new HO.out hN3)
              have m0 := hN3.cell_at x0
              have m1 := hN3.cell_at x1
              have m2 := hN3.cell_at x2
              have m3 := hN3.cell_at x3
              have n0 := hN3.cell_at y0
              have n1 := hN3.cell_at y1
              have n2 := hN3.cell_at y2
              have n3 := hN3.cell_at y3
              have f0 := hN3.frozen_at (k := w2.heap.size + 1 + 1) (o := 0) (cell_lt y0) z0
              have f1 := hN3.frozen_at (k := w2.heap.size + 1 + 1) (o := 1) (cell_lt y0) z1
              have f2 := hN3.frozen_at (k := w2.heap.size + 1 + 1) (o := 2) (cell_lt y0) z2
              have f3 := hN3.frozen_at (k := w2.heap.size + 1 + 1) (o := 3) (cell_lt y0) z3
              have hN4 := hNr.trans hN3
              obtain ⟨i0, hi, hz0, hz1, hz2⟩ := info_parts infoF
              go_wp2_with (at_builtin; (refine wpList_append_own _ rfl _ _ 42 rfl (w2.heap.size + 1) 34 i0 (.float .f32 0) 1 4 Try.underlying42 hi hz0 hz1 hz2 rfl (by decide) _ _ _ rfl (hO3.out.alloc _) ⟨w3.heap.size, 0, none⟩ 1 1 [.float .f32 dv] rfl rfl ?c1 ?c2 ?c3 ?c4 ?c5 ?_))
              case c1 => exact new_cells _ #[.float .f32 dv] _ rfl
              case c2 => intro u hu; simp at hu; rcases hu with rfl; rfl
              case c3 => unfold maxLen; omega
              case c4 => omega
              case c5 => simp; omega
              intro v' w5 hown' hgrow hnil
              have hO5 := hid (hO3.out.alloc (.cells #[.float .f32 dv] 34))
              have hN5 := (hN4.alloc (.cells #[.float .f32 dv] 34)).grew hO5.out hgrow (by omega)
              have hs5 := hgrow.size
              simp at hs5
              have a0 := grew_cell hO5.out hgrow (by omega) (cell_alloc m0 _)
              have a1 := grew_cell hO5.out hgrow (by omega) (cell_alloc m1 _)
              have a2 := grew_cell hO5.out hgrow (by omega) (cell_alloc m2 _)
              have a3 := grew_cell hO5.out hgrow (by omega) (cell_alloc m3 _)
              have c0 := grew_cell_ne hgrow HB.out (cell_alloc n0 _)
              have c1 := grew_cell_ne hgrow HB.out (cell_alloc n1 _)
              have c2 := grew_cell_ne hgrow HB.out (cell_alloc n2 _)
              have c3 := grew_cell_ne hgrow HB.out (cell_alloc n3 _)
              have g0 := grew_frozen_ne hgrow HB.out (by simp; omega) (frozen_alloc (cell_lt n0) f0 _)
              have g1 := grew_frozen_ne hgrow HB.out (by simp; omega) (frozen_alloc (cell_lt n0) f1 _)
              have g2 := grew_frozen_ne hgrow HB.out (by simp; omega) (frozen_alloc (cell_lt n0) f2 _)
              have g3 := grew_frozen_ne hgrow HB.out (by simp; omega) (frozen_alloc (cell_lt n0) f3 _)
              have hown1 : w5.ownsRow (w2.heap.size + 1) 34 1 v' (k + 1) (fl32 dn) := by
                rw [HSN.out, fl32_snoc]; exact hown'
              obtain ⟨yy, hyy⟩ := HY.out
              have HB5 := hid (own_not hown1 hyy c0)
              have HO5 := hid hown1
              clear hown' hown1 hgrow hnil hO5 hO3 HO HB HY hyy HS HC HZ m0 m1 m2 m3 n0 n1 n2 n3 f0 f1 f2 f3 x0 x1 x2 x3 y0 y1 y2 y3 z0 z1 z2 z3 hN4 hN3
              go_wp2_with fail
              (with_reducible refine (KT.out _).mono ?_); rintro e w6 ⟨rfl, hN6⟩
              have hs6 := hN6.size
              have HO6 := hid (own_new HO5.out hN6)
              have x0 := hN6.cell_at a0
              have x1 := hN6.cell_at a1
              have x2 := hN6.cell_at a2
              have x3 := hN6.cell_at a3
              have y0 := hN6.cell_at c0
              have y1 := hN6.cell_at c1
              have y2 := hN6.cell_at c2
              have y3 := hN6.cell_at c3
              have z0 := hN6.frozen_at (k := w2.heap.size + 1 + 1) (o := 0) (cell_lt c0) g0
              have z1 := hN6.frozen_at (k := w2.heap.size + 1 + 1) (o := 1) (cell_lt c0) g1
              have z2 := hN6.frozen_at (k := w2.heap.size + 1 + 1) (o := 2) (cell_lt c0) g2
              have z3 := hN6.frozen_at (k := w2.heap.size + 1 + 1) (o := 3) (cell_lt c0) g3
              have npq : w2.heap.size ≠ w2.heap.size + 1 + 1 := by omega
              have hNx := hid (New.set4 (hN5.trans hN6) (b := w2.heap.size + 1 + 1) (by omega) (.complex .f32 t0 t1) (.complex .f32 t2 t3) (.complex .f32 t4 t5) (.complex .f32 t6 t7))
              have HOx := hid (own_set_ne (own_set_ne (own_set_ne (own_set_ne HO6.out HB5.out 0 (.complex .f32 t0 t1)) HB5.out 1 (.complex .f32 t2 t3)) HB5.out 2 (.complex .f32 t4 t5)) HB5.out 3 (.complex .f32 t6 t7))
              clear a0 a1 a2 a3 c0 c1 c2 c3 g0 g1 g2 g3 hN5 hN6
              go_wp2_with fail
              have hPx : Hid (((((w6.setCell ⟨w2.heap.size + 1 + 1, 0, none⟩ (.complex .f32 t0 t1)).setCell ⟨w2.heap.size + 1 + 1, 1, none⟩ (.complex .f32 t2 t3)).setCell ⟨w2.heap.size + 1 + 1, 2, none⟩ (.complex .f32 t4 t5)).setCell ⟨w2.heap.size + 1 + 1, 3, none⟩ (.complex .f32 t6 t7)).cell? ⟨w2.heap.size, 0, none⟩ = some (.complex .f32 s0 s1) ∧ ((((w6.setCell ⟨w2.heap.size + 1 + 1, 0, none⟩ (.complex .f32 t0 t1)).setCell ⟨w2.heap.size + 1 + 1, 1, none⟩ (.complex .f32 t2 t3)).setCell ⟨w2.heap.size + 1 + 1, 2, none⟩ (.complex .f32 t4 t5)).setCell ⟨w2.heap.size + 1 + 1, 3, none⟩ (.complex .f32 t6 t7)).cell? ⟨w2.heap.size, 1, none⟩ = some (.complex .f32 s2 s3) ∧ ((((w6.setCell ⟨w2.heap.size + 1 + 1, 0, none⟩ (.complex .f32 t0 t1)).setCell ⟨w2.heap.size + 1 + 1, 1, none⟩ (.complex .f32 t2 t3)).setCell ⟨w2.heap.size + 1 + 1, 2, none⟩ (.complex .f32 t4 t5)).setCell ⟨w2.heap.size + 1 + 1, 3, none⟩ (.complex .f32 t6 t7)).cell? ⟨w2.heap.size, 2, none⟩ = some (.complex .f32 s4 s5) ∧ ((((w6.setCell ⟨w2.heap.size + 1 + 1, 0, none⟩ (.complex .f32 t0 t1)).setCell ⟨w2.heap.size + 1 + 1, 1, none⟩ (.complex .f32 t2 t3)).setCell ⟨w2.heap.size + 1 + 1, 2, none⟩ (.complex .f32 t4 t5)).setCell ⟨w2.heap.size + 1 + 1, 3, none⟩ (.complex .f32 t6 t7)).cell? ⟨w2.heap.size, 3, none⟩ = some (.complex .f32 s6 s7)) := ⟨by go_simp, by go_simp, by go_simp, by go_simp⟩
              have hQx : Hid (((((w6.setCell ⟨w2.heap.size + 1 + 1, 0, none⟩ (.complex .f32 t0 t1)).setCell ⟨w2.heap.size + 1 + 1, 1, none⟩ (.complex .f32 t2 t3)).setCell ⟨w2.heap.size + 1 + 1, 2, none⟩ (.complex .f32 t4 t5)).setCell ⟨w2.heap.size + 1 + 1, 3, none⟩ (.complex .f32 t6 t7)).cell? ⟨w2.heap.size + 1 + 1, 0, none⟩ = some (.complex .f32 t0 t1) ∧ ((((w6.setCell ⟨w2.heap.size + 1 + 1, 0, none⟩ (.complex .f32 t0 t1)).setCell ⟨w2.heap.size + 1 + 1, 1, none⟩ (.complex .f32 t2 t3)).setCell ⟨w2.heap.size + 1 + 1, 2, none⟩ (.complex .f32 t4 t5)).setCell ⟨w2.heap.size + 1 + 1, 3, none⟩ (.complex .f32 t6 t7)).cell? ⟨w2.heap.size + 1 + 1, 1, none⟩ = some (.complex .f32 t2 t3) ∧ ((((w6.setCell ⟨w2.heap.size + 1 + 1, 0, none⟩ (.complex .f32 t0 t1)).setCell ⟨w2.heap.size + 1 + 1, 1, none⟩ (.complex .f32 t2 t3)).setCell ⟨w2.heap.size + 1 + 1, 2, none⟩ (.complex .f32 t4 t5)).setCell ⟨w2.heap.size + 1 + 1, 3, none⟩ (.complex .f32 t6 t7)).cell? ⟨w2.heap.size + 1 + 1, 2, none⟩ = some (.complex .f32 t4 t5) ∧ ((((w6.setCell ⟨w2.heap.size + 1 + 1, 0, none⟩ (.complex .f32 t0 t1)).setCell ⟨w2.heap.size + 1 + 1, 1, none⟩ (.complex .f32 t2 t3)).setCell ⟨w2.heap.size + 1 + 1, 2, none⟩ (.complex .f32 t4 t5)).setCell ⟨w2.heap.size + 1 + 1, 3, none⟩ (.complex .f32 t6 t7)).cell? ⟨w2.heap.size + 1 + 1, 3, none⟩ = some (.complex .f32 t6 t7)) := ⟨by go_simp, by go_simp, by go_simp, by go_simp⟩
              have hZx : Hid (((((w6.setCell ⟨w2.heap.size + 1 + 1, 0, none⟩ (.complex .f32 t0 t1)).setCell ⟨w2.heap.size + 1 + 1, 1, none⟩ (.complex .f32 t2 t3)).setCell ⟨w2.heap.size + 1 + 1, 2, none⟩ (.complex .f32 t4 t5)).setCell ⟨w2.heap.size + 1 + 1, 3, none⟩ (.complex .f32 t6 t7)).frozen? ⟨w2.heap.size + 1 + 1, 0, none⟩ = false ∧ ((((w6.setCell ⟨w2.heap.size + 1 + 1, 0, none⟩ (.complex .f32 t0 t1)).setCell ⟨w2.heap.size + 1 + 1, 1, none⟩ (.complex .f32 t2 t3)).setCell ⟨w2.heap.size + 1 + 1, 2, none⟩ (.complex .f32 t4 t5)).setCell ⟨w2.heap.size + 1 + 1, 3, none⟩ (.complex .f32 t6 t7)).frozen? ⟨w2.heap.size + 1 + 1, 1, none⟩ = false ∧ ((((w6.setCell ⟨w2.heap.size + 1 + 1, 0, none⟩ (.complex .f32 t0 t1)).setCell ⟨w2.heap.size + 1 + 1, 1, none⟩ (.complex .f32 t2 t3)).setCell ⟨w2.heap.size + 1 + 1, 2, none⟩ (.complex .f32 t4 t5)).setCell ⟨w2.heap.size + 1 + 1, 3, none⟩ (.complex .f32 t6 t7)).frozen? ⟨w2.heap.size + 1 + 1, 2, none⟩ = false ∧ ((((w6.setCell ⟨w2.heap.size + 1 + 1, 0, none⟩ (.complex .f32 t0 t1)).setCell ⟨w2.heap.size + 1 + 1, 1, none⟩ (.complex .f32 t2 t3)).setCell ⟨w2.heap.size + 1 + 1, 2, none⟩ (.complex .f32 t4 t5)).setCell ⟨w2.heap.size + 1 + 1, 3, none⟩ (.complex .f32 t6 t7)).frozen? ⟨w2.heap.size + 1 + 1, 3, none⟩ = false) := ⟨by go_simp, by go_simp, by go_simp, by go_simp⟩
              have hszx : w2.heap.size + 3 ≤ ((((w6.setCell ⟨w2.heap.size + 1 + 1, 0, none⟩ (.complex .f32 t0 t1)).setCell ⟨w2.heap.size + 1 + 1, 1, none⟩ (.complex .f32 t2 t3)).setCell ⟨w2.heap.size + 1 + 1, 2, none⟩ (.complex .f32 t4 t5)).setCell ⟨w2.heap.size + 1 + 1, 3, none⟩ (.complex .f32 t6 t7)).heap.size := by simp; omega
              generalize ((((w6.setCell ⟨w2.heap.size + 1 + 1, 0, none⟩ (.complex .f32 t0 t1)).setCell ⟨w2.heap.size + 1 + 1, 1, none⟩ (.complex .f32 t2 t3)).setCell ⟨w2.heap.size + 1 + 1, 2, none⟩ (.complex .f32 t4 t5)).setCell ⟨w2.heap.size + 1 + 1, 3, none⟩ (.complex .f32 t6 t7)) = wx at *
              clear x0 x1 x2 x3 y0 y1 y2 y3 z0 z1 z2 z3
              go_roundw
              case rel => exact ⟨k + 1, by omega, by go_num, hid (by rw [HDN.out]; exact HOx.out), HB5, hPx, by rw [HT.out]; exact hQx, hZx, hszx, hNx.out⟩
              case measure => simp [intOf]; omega
            · have hk' : k = m := by omega
              subst hk'
              have hkn : ¬ ((k : Int) < (k : Int)) := by omega
              go_wp2
              refine bodyPost_ret (v := .tuple #[u11, .int .i64 0]) (by simp [results, Try.results97, go_sem]) rfl ⟨u11, rfl, ?_, hNr⟩
              rw [drs_length]
              exact own_le HO.out (by omega)
        · have h3 : (stepS x y z h).c ≠ 0 := by rw [hc]; decide
          rw [driftR_bad3 hf4 hi h3]
          rw [hc] at KS
          clear hf hg hi hf4 hf3 hc h3
          go_enter Try.func97, Try.ntmps97
          go_wp2_with fail
          refine (l09Is_c x y z _).mono ?_; rintro e w1 ⟨rfl, hN⟩; rw [HF.out]
          have b0 := hN.cell_at (k := w.heap.size) (o := 0) (v := .float .f32 x) (by go_simp)
          have b1 := hN.cell_at (k := w.heap.size) (o := 1) (v := .float .f32 y) (by go_simp)
          have b2 := hN.cell_at (k := w.heap.size) (o := 2) (v := .float .f32 z) (by go_simp)
          go_wp2_with fail
          refine (fine_any _ _).mono ?_; rintro e w' ⟨rfl, k1, rfl⟩; rw [HG.out]
          go_wp2_with fail
          refine (l01In_c _ _ _ _).mono ?_; rintro e w' ⟨rfl, rfl⟩; rw [HI.out]
          go_wp2_with fail
          (with_reducible refine (KS.out _).mono ?_); rintro e w2 ⟨rfl, hN2⟩
          have hW2 := hid ((((New.refl w).alloc _).trans hN).drewN k1 |>.trans hN2)
          clear hN hN2 b0 b1 b2
          go_wp2
          refine bodyPost_ret (v := .tuple #[.slice none 0 0, .int .i64 3]) (by simp [results, Try.results97, go_sem, show (bad8 3).c = 3 from rfl]) rfl ⟨_, rfl, World.ownsRow_nil _ _ _ _, ?_⟩
          exact hW2.out.alloc _

theorem fl32_get : ∀ (l : List Nat) (k : Nat), k < l.length → (fl32 l)[k]? = some (.float .f32 (l.getD k 0))
  | [], k, h => absurd h (Nat.not_lt_zero _)
  | v :: l, 0, h => by simp [fl32]
  | v :: l, k + 1, h => by
    have ih := fl32_get l k (by simpa using h)
    have e : fl32 (v :: l) = .float .f32 v :: fl32 l := rfl
    rw [e]
    simpa using ih
theorem own_get1 {w : World} {base e g n cap : Nat} {l : List Nat} (h : w.ownsRow base e 1 (.slice (some ⟨g, 0, none⟩) n cap) n (fl32 l)) (hl : l.length = n) {k : Nat} (hk : k < n) :
    w.cell? ⟨g, k, none⟩ = some (.float .f32 (l.getD k 0)) := by
  have := fl32_get l k (by omega)
  have h2 := h.cellAt k (by omega)
  exact h2.trans this
def znf (l : List Nat) : List Nat := l.map zn
theorem znf_take {l : List Nat} {k : Nat} (h : k < l.length) : fl32 (znf (l.take (k + 1))) = fl32 (znf (l.take k)) ++ [.float .f32 (zn (l.getD k 0))] := by
  rw [List.take_add_one]
  have : l[k]? = some (l.getD k 0) := by simp [List.getD, h]
  rw [this]
  simp [znf, fl32]

set_option maxHeartbeats 2000000 in
set_option maxRecDepth 5000 in
theorem l00Floats_c (u : Value) (l : List Nat) (base : Nat) (w : World) (hO : w.ownsRow base 34 1 u l.length (fl32 l)) (hl : l.length ≤ 1000) :
    Calls Try.prog 98 #[u] w fun e w' => ∃ u', e = .returned u' ∧ w'.ownsRow w.heap.size 34 1 u' l.length (fl32 (znf l)) ∧ New w w' := by
  rcases own_forms hO with ⟨rfl, h0⟩ | ⟨g, cap, rfl⟩
  · have hl0 : l = [] := List.eq_nil_of_length_eq_zero h0
    subst hl0
    clear h0 hl
    go_enter Try.func98, Try.ntmps98
    go_wp2_with fail
    refine wp_loop_rounds 1 ?_; rw [rounds_succ]
    go_wp2
    go_ret
    exact ⟨_, rfl, own_lit0 _ _ _ rfl (Nat.le_refl _), (New.refl w).alloc _⟩
  · have HO := hid hO
    clear hO
    generalize hn : l.length = n at *
    have Hn := hid hn
    clear hn
    go_enter Try.func98, Try.ntmps98
    go_wp2_with fail
    go_loopw [3, 4] (fun u i wr => ∃ k : Nat, k ≤ n ∧ i = .int .i64 k ∧ Hid (wr.ownsRow w.heap.size 34 1 u k (fl32 (znf (l.take k)))) ∧ New w wr) (fun _ i _ => n - (intOf i).toNat)
    case atStart => exact ⟨0, Nat.zero_le _, rfl, hid (own_lit0 _ _ _ rfl (Nat.le_refl _)), (New.refl w).alloc _⟩
    case round =>
      obtain ⟨k, hk, rfl, HR, hN⟩ := hrel
      by_cases hlt : k < n
      · have c0 := own_get1 (own_new HO.out hN) Hn.out hlt
        have hkn : ((k : Int) < (n : Int)) := by omega
        have hT := hid (znf_take (l := l) (k := k) (by rw [Hn.out]; exact hlt))
        generalize l.getD k 0 = v at *
        go_wp2_with fail
        with_reducible refine (l00Float_c _ _).mono ?_; rintro e w' ⟨rfl, rfl⟩
        have hs0 := hN.size
        obtain ⟨i0, hi, hz0, hz1, hz2⟩ := info_parts infoF
        go_wp2_with (at_builtin; refine wpList_append_own _ rfl _ _ 42 rfl w.heap.size 34 i0 (.float .f32 0) 1 4 Try.underlying42 hi hz0 hz1 hz2 rfl (by decide) _ _ _ rfl (HR.out.alloc _) ⟨wr.heap.size, 0, none⟩ 1 1 [.float .f32 (zn v)] rfl rfl ?c1 ?c2 ?c3 ?c4 ?c5 ?_)
        case c1 => exact new_cells _ #[.float .f32 (zn v)] _ rfl
        case c2 => intro u hu; simp at hu; rcases hu with rfl; rfl
        case c3 => unfold maxLen; omega
        case c4 => omega
        case c5 => simp; omega
        intro v' w2 hown' hgrow hnil
        have hO1 := hid (HR.out.alloc (.cells #[.float .f32 (zn v)] 34))
        have hX1 := hid (New.grew (hN.alloc (.cells #[.float .f32 (zn v)] 34)) hO1.out hgrow (Nat.le_refl _))
        have hown1 := hid hown'
        clear hown' hgrow hnil hO1 HR c0
        go_wp2_with fail
        go_roundw
        case rel => exact ⟨k + 1, by omega, by go_num, hid (by rw [hT.out]; exact hown1.out), hX1.out⟩
        case measure => simp [intOf]; omega
      · have hk' : k = n := by omega
        subst hk'
        have hkn : ¬ ((k : Int) < (k : Int)) := by omega
        go_wp2
        go_ret
        refine ⟨_, rfl, ?_, hN⟩
        have := HR.out
        rw [List.take_of_length_le (by rw [Hn.out]; exact Nat.le_refl _)] at this
        exact this

theorem zn_zn (x : Nat) : zn (zn x) = zn x := by
  have h0 : zn 0 = 0 := by unfold zn; split <;> rfl
  cases hz : isZ x with
  | true => have : zn x = 0 := if_pos hz
            rw [this, h0]
  | false => have : zn x = x := if_neg (by simp [hz])
             rw [this, this]
theorem driftR_zn (x y z h : Nat) (n : Int) : znf (driftR x y z h n).2 = (driftR x y z h n).2 := by
  unfold driftR
  split
  · split
    · split
      · unfold znf drs
        rw [List.map_map]
        apply List.map_congr_left
        intro k _
        exact zn_zn _
      · rfl
    · rfl
  · rfl
theorem driftR_length (x y z h : Nat) (n : Int) : (driftR x y z h n).2.length ≤ 300 := by
  unfold driftR
  split
  · split
    · rename_i hi
      unfold inB at hi
      simp at hi
      split
      · rw [drs_length]; omega
      · simp
    · simp
  · simp

set_option maxHeartbeats 1000000 in
theorem specDriftOfPrecession_c (x y z h : Nat) (n : Int) (w : World) (hx : x < 2 ^ 32) (hy : y < 2 ^ 32) (hz : z < 2 ^ 32) (hh : h < 2 ^ 32) :
    Calls Try.prog 44 #[V3 x y z, .float .f32 h, .int .i64 n] w fun e w' => ∃ u, e = .returned (.tuple #[u, .int .i64 (driftR x y z h n).1]) ∧ w'.ownsRow w.heap.size 34 1 u (driftR x y z h n).2.length (fl32 (driftR x y z h n).2) ∧ New w w' := by
  have K := hid (fun w => l00DriftOfPrecession_c x y z h n w hx hy hz hh)
  have hl := driftR_length x y z h n
  have hzz := driftR_zn x y z h n
  generalize driftR x y z h n = R at *
  obtain ⟨rc, rl⟩ := R
  have HL := hid hl
  have HZ := hid hzz
  clear hl hzz
  go_enter Try.func44, Try.ntmps44
  go_wp2_with fail
  with_reducible refine (K.out _).mono ?_; rintro e w1 ⟨u, rfl, hO, hN⟩
  have HO := hid hO
  clear hO
  have s1 := hN.size
  simp at s1
  go_wp2_with fail
  with_reducible refine (l00Floats_c u rl _ _ HO.out (Nat.le_trans HL.out (by decide))).mono ?_; rintro e w2 ⟨u', rfl, hO', hN2⟩
  have HO' := hid hO'
  clear hO'
  go_wp2
  refine bodyPost_ret (v := .tuple #[u', .int .i64 rc]) (by simp [results, Try.results44, go_sem]) rfl ⟨_, rfl, ?_, ?_⟩
  · have := own_le HO'.out (base' := w.heap.size) (by omega)
    have hz : znf rl = rl := HZ.out
    rw [hz] at this
    exact this
  · exact (((New.refl w).alloc _).trans hN).trans hN2
end Go.Proofs.Ytmbjomjpnfnbkaa
