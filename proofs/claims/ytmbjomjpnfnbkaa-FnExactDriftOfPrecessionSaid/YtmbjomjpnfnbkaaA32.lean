/-
  Walk of the program's DriftOfPrecession.
-/
import Derived.Test.YtmbjomjpnfnbkaaA31
import Derived.Test.YtmbjomjpnfnbkaaA9
import Derived.Test.YtmbjomjpnfnbkaaP25
import Derived.Deep.CutRange
set_option linter.unusedSimpArgs false
set_option linter.unusedVariables false
namespace Go.Proofs.Ytmbjomjpnfnbkaa
open Go.RowKit Flt

theorem fcode_drift (x y z h : Nat) (i : Bool) : fcode (fin S x && fin S y && fin S z) ([h].all (fin S)) (fin S 0 && fin S 0 && (fin S 0 && fin S 0)) i = if isFin4 x y z h = true then (if i = true then 0 else 2) else 1 := by
  unfold fcode isFin4; rw [fin0]; simp [Bool.and_assoc]
theorem fieldCode1_c (x y z h : Nat) (B : Nat) (i : Bool) (w : World) (h0 : w.cell? ⟨B, 0, none⟩ = some (.float .f32 h)) :
    Calls Try.prog 78 #[.agg #[.float .f32 x, .float .f32 y, .float .f32 z], .slice (some ⟨B, 0, none⟩) 1 1, .agg #[.complex .f32 0 0, .complex .f32 0 0], .bool i] w fun e w' => e = .returned (.int .i64 (if isFin4 x y z h = true then (if i = true then 0 else 2) else 1)) ∧ New w w' := by
  have := fieldCode_c x y z B 0 [h] 1 0 0 0 0 i w (by simp) (fun j hj => by
    match j, hj with
    | 0, _ => exact h0)
  rw [fcode_drift] at this
  exact this
theorem toldF_own {w : World} {base e : Nat} {u : Value} {c : Int} {l : List Nat} (h : w.ownsRow base e 1 u l.length (fl32 l)) :
    w.ownsRow base e 1 (toldF u c) (if c = 0 then (0, l) else (c, ([] : List Nat))).2.length (fl32 (if c = 0 then ((0 : Int), l) else (c, ([] : List Nat))).2) := by
  unfold toldF
  by_cases hc : c = 0
  · simp only [if_pos hc]; exact h
  · simp only [if_neg hc]; exact World.ownsRow_nil _ _ _ _

theorem own_set {w : World} {base e size n : Nat} {v : Value} {xs : List Value} (h : w.ownsRow base e size v n xs) {q : Nat} (hq : q < base) (o : Nat) (u : Value) : (w.setCell ⟨q, o, none⟩ u).ownsRow base e size v n xs := by
  refine h.kept (row := some q) ⟨rfl, rfl, rfl, by simp, fun k _ hne => Below.heap_setCell _ _ _ _ (fun he => hne (by rw [he]))⟩ ?_
  cases hv : v.ownBlock with
  | none => exact .inl rfl
  | some k =>
    right
    intro he
    simp at he
    have := (h.lt k hv).1
    omega
theorem grew_block {w w1 : World} {base e size n : Nat} {v : Value} {xs : List Value} (ho : w.ownsRow base e size v n xs) (hg : w.grownBy w1 v.ownBlock) {i : Nat} (hi : i < base) (hl : i < w.heap.size) : w1.heap[i]? = w.heap[i]? :=
  hg.block i hl (fun he => by have := (ho.lt i he.symm).1; omega)
theorem grew_cell {w w1 : World} {base e size n : Nat} {v : Value} {xs : List Value} (ho : w.ownsRow base e size v n xs) (hg : w.grownBy w1 v.ownBlock) {i o : Nat} {u : Value} (hi : i < base) (hc : w.cell? ⟨i, o, none⟩ = some u) : w1.cell? ⟨i, o, none⟩ = some u := by
  rw [World.cell?_of_block (a := ⟨i, o, none⟩) (grew_block ho hg hi (cell_lt hc))]; exact hc
theorem grew_frozen {w w1 : World} {base e size n : Nat} {v : Value} {xs : List Value} (ho : w.ownsRow base e size v n xs) (hg : w.grownBy w1 v.ownBlock) {i o : Nat} (hi : i < base) (hl : i < w.heap.size) (hc : w.frozen? ⟨i, o, none⟩ = false) : w1.frozen? ⟨i, o, none⟩ = false := by
  rw [World.frozen?_of_block (a := ⟨i, o, none⟩) (grew_block ho hg hi hl)]; exact hc
theorem grew_at {w w1 : World} {base e size n : Nat} {v : Value} {xs : List Value} (ho : w.ownsRow base e size v n xs) (hg : w.grownBy w1 v.ownBlock) {b : Nat} {c : Int} (hi : b < base) (hA : At b c w) : At b c w1 :=
  ⟨grew_cell ho hg hi hA.1, grew_frozen ho hg hi hA.lt hA.2⟩
theorem New.extI {b : Nat} {c : Int} {w w' w'' : World} (h : New w w') (k : Ext b c w' w'') (hb : w.heap.size ≤ b) : New w w'' := Ext.newOf h k hb

theorem infoF : (Try.prog.info? 34).map (fun i => (i.zero, i.size, i.bytes)) = some (some (.float .f32 0), 1, 4) := by kernel_rfl
set_option maxHeartbeats 4000000 in
set_option maxRecDepth 5000 in
theorem driftOfPrecession_c (x y z h : Nat) (n : Int) (w : World) (hx : x < 2 ^ 32) (hy : y < 2 ^ 32) (hz : z < 2 ^ 32) (hh : h < 2 ^ 32) :
    Calls Try.prog 45 #[V3 x y z, .float .f32 h, .int .i64 n] w fun e w' => ∃ u, e = .returned (.tuple #[u, .int .i64 (driftR x y z h n).1]) ∧ w'.ownsRow w.heap.size 34 1 u (driftR x y z h n).2.length (fl32 (driftR x y z h n).2) ∧ New w w' := by
  cases hf : isFin4 x y z h with
  | false =>
    rw [driftR_bad1 hf]
    have HF := hid hf
    clear hf
    go_enter Try.func45, Try.ntmps45
    go_wp2_with fail
    go_region_held3 (fun w' => w'.cell? ⟨w.heap.size, 0, none⟩ = some (.float .f32 x) ∧ w'.cell? ⟨w.heap.size, 1, none⟩ = some (.float .f32 y) ∧ w'.cell? ⟨w.heap.size, 2, none⟩ = some (.float .f32 z)) (((repeat' apply And.intro) <;> (first | (with_reducible assumption) | (go_simp; done))))
      (first | (go_at_call 82; (with_reducible refine (isSteps_c _ _ _).mono ?_); rintro e w' ⟨rfl, rfl⟩)
             | (go_at_call 78; go_split_ands; (with_reducible refine (fieldCode1_c x y z h _ (inB n 1 300) _ (by go_simp)).mono ?_); rintro e w1 ⟨rfl, hN⟩; obtain ⟨l1, l2, l3⟩ := hN.laws; rw [HF.out]))
    all_goals
      rename_i hh; clear hh
      go_wp2
      refine bodyPost_ret (v := .tuple #[.slice none 0 0, .int .i64 1]) (by simp [results, Try.results45, go_sem]) rfl ⟨_, rfl, World.ownsRow_nil _ _ _ _, ?_⟩
      exact ((((New.refl w).alloc _).alloc _).drew).trans hN
  | true =>
    cases hi : inB n 1 300 with
    | false =>
      rw [driftR_bad2 hf hi]
      have HF := hid hf
      have HI := hid hi
      clear hf hi
      go_enter Try.func45, Try.ntmps45
      go_wp2_with fail
      go_region_held3 (fun w' => w'.cell? ⟨w.heap.size, 0, none⟩ = some (.float .f32 x) ∧ w'.cell? ⟨w.heap.size, 1, none⟩ = some (.float .f32 y) ∧ w'.cell? ⟨w.heap.size, 2, none⟩ = some (.float .f32 z)) (((repeat' apply And.intro) <;> (first | (with_reducible assumption) | (go_simp; done))))
        (first | (go_at_call 82; (with_reducible refine (isSteps_c _ _ _).mono ?_); rintro e w' ⟨rfl, rfl⟩; rw [HI.out])
               | (go_at_call 78; go_split_ands; (with_reducible refine (fieldCode1_c x y z h _ false _ (by go_simp)).mono ?_); rintro e w1 ⟨rfl, hN⟩; obtain ⟨l1, l2, l3⟩ := hN.laws; rw [HF.out]))
      all_goals
        rename_i hh; clear hh
        go_wp2
        refine bodyPost_ret (v := .tuple #[.slice none 0 0, .int .i64 2]) (by simp [results, Try.results45, go_sem]) rfl ⟨_, rfl, World.ownsRow_nil _ _ _ _, ?_⟩
        exact ((((New.refl w).alloc _).alloc _).drew).trans hN
    | true =>
      have HF := hid hf
      have HI := hid hi
      have hf2 := hf
      simp only [isFin4, Bool.and_eq_true] at hf2
      have fx : FW x := ⟨hx, hf2.1.1.1⟩
      have fy : FW y := ⟨hy, hf2.1.1.2⟩
      have fz : FW z := ⟨hz, hf2.1.2⟩
      have fh : FW h := ⟨hh, hf2.2⟩
      obtain ⟨pw, dr, F, eR⟩ := fam_all fx fy fz fh hf hi
      rw [eR]
      have KS := hid (fun b w hA => step_c b 0 x y z h w fx fy fz fh hA)
      generalize stepM x y z h 0 = st at *
      unfold inB at hi
      simp only [Bool.and_eq_true, decide_eq_true_eq] at hi
      obtain ⟨m, rfl⟩ : ∃ m : Nat, n = m := ⟨n.toNat, by omega⟩
      have hm : m ≤ 300 := by omega
      simp only [Int.toNat_natCast]
      generalize hc : st.c = c at *
      obtain ⟨sc, s0, s1, s2, s3, s4, s5, s6, s7⟩ := st
      simp only at hc
      subst hc
      have hp0 := F.p0
      have FF := hid F
      have HP0 := hid hp0
      clear hf hi hf2 fx fy fz fh hx hy hz hh eR F hp0
      generalize hQ : (if sc = 0 then ((0 : Int), drs dr m) else (sc, ([] : List Nat))) = Q
      have HQ := hid hQ
      clear hQ
      go_enter Try.func45, Try.ntmps45
      go_wp2_with fail
      go_cut [8] from 14 to 20 (fun u wx => u = .int .i64 0 ∧ New (((w.alloc (.cells #[.float .f32 x, .float .f32 y, .float .f32 z] 38)).alloc (.cells #[.float .f32 h] 34)).drew) wx)
      case first =>
        go_region_held3 (fun w' => w'.cell? ⟨w.heap.size, 0, none⟩ = some (.float .f32 x) ∧ w'.cell? ⟨w.heap.size, 1, none⟩ = some (.float .f32 y) ∧ w'.cell? ⟨w.heap.size, 2, none⟩ = some (.float .f32 z)) (((repeat' apply And.intro) <;> (first | (with_reducible assumption) | (go_simp; done))))
          (first | (go_at_call 82; (with_reducible refine (isSteps_c _ _ _).mono ?_); rintro e w' ⟨rfl, rfl⟩; rw [HI.out])
                 | (go_at_call 78; go_split_ands; (with_reducible refine (fieldCode1_c x y z h _ true _ (by go_simp)).mono ?_); rintro e w1 ⟨rfl, hN⟩; obtain ⟨l1, l2, l3⟩ := hN.laws; rw [HF.out]))
        all_goals
          rename_i hh; clear hh
          go_wp2_with fail
          go_meet
          exact ⟨rfl, hN⟩
      case rest =>
      obtain ⟨rfl, hN⟩ := hcut
      obtain ⟨w1, ew⟩ : ∃ w1, w1 = wc := ⟨_, rfl⟩
      subst ew
      have l1 := trivial
      have l2 := trivial
      have l3 := trivial
      have hs := hN.size
      simp at hs
      have a0 := cell_alloc (hN.cell_at (k := w.heap.size) (o := 0) (v := .float .f32 x) (by go_simp))
      have a1 := cell_alloc (hN.cell_at (k := w.heap.size) (o := 1) (v := .float .f32 y) (by go_simp))
      have a2 := cell_alloc (hN.cell_at (k := w.heap.size) (o := 2) (v := .float .f32 z) (by go_simp))
      have hW1 := hid ((((New.refl w).alloc (.cells #[.float .f32 x, .float .f32 y, .float .f32 z] 38)).alloc (.cells #[.float .f32 h] 34)).drew.trans hN)
      go_wp2_with fail
      with_reducible refine (KS.out w1.heap.size _ (At.new _ _ _)).mono ?_
      rintro e w2 ⟨rfl, hE⟩
      have hsE := hE.size
      simp at hsE
      have hA2 := hE.at_
      have hbl := hA2.lt
      have nb2 : w2.heap.size ≠ w1.heap.size := by omega
      have nb3 : w2.heap.size + 1 ≠ w1.heap.size := by omega
      have hN2 : New w w2 := hW1.out.ext hE (by omega)
      have HN2 := hid hN2
      clear hN2 hN l1 l2 l3 a0 a1 a2
      go_wp2_with fail
      go_loopw [12, 32] (fun u i wr => ∃ k : Nat, k ≤ m ∧ i = .int .i64 k ∧ Hid (wr.ownsRow (w2.heap.size + 2) 34 1 u k (fl32 (drs dr k))) ∧
        Hid (wr.cell? ⟨w2.heap.size, 0, none⟩ = some (.complex .f32 s0 s1) ∧ wr.cell? ⟨w2.heap.size, 1, none⟩ = some (.complex .f32 s2 s3) ∧ wr.cell? ⟨w2.heap.size, 2, none⟩ = some (.complex .f32 s4 s5) ∧ wr.cell? ⟨w2.heap.size, 3, none⟩ = some (.complex .f32 s6 s7)) ∧
        Hid (wr.cell? ⟨w2.heap.size + 1, 0, none⟩ = some (.complex .f32 (pw (k - 1)).a0 (pw (k - 1)).a1) ∧ wr.cell? ⟨w2.heap.size + 1, 1, none⟩ = some (.complex .f32 (pw (k - 1)).b0 (pw (k - 1)).b1) ∧ wr.cell? ⟨w2.heap.size + 1, 2, none⟩ = some (.complex .f32 (pw (k - 1)).c0 (pw (k - 1)).c1) ∧ wr.cell? ⟨w2.heap.size + 1, 3, none⟩ = some (.complex .f32 (pw (k - 1)).d0 (pw (k - 1)).d1)) ∧
        Hid (wr.frozen? ⟨w2.heap.size + 1, 0, none⟩ = false ∧ wr.frozen? ⟨w2.heap.size + 1, 1, none⟩ = false ∧ wr.frozen? ⟨w2.heap.size + 1, 2, none⟩ = false ∧ wr.frozen? ⟨w2.heap.size + 1, 3, none⟩ = false) ∧
        At w1.heap.size sc wr ∧ w2.heap.size + 2 ≤ wr.heap.size ∧ New w wr) (fun _ i _ => m - (intOf i).toNat)
      case atStart =>
        refine ⟨0, Nat.zero_le _, rfl, hid (World.ownsRow_nil _ _ _ _), ⟨by go_simp, by go_simp, by go_simp, by go_simp⟩, ?_, ⟨by go_simp, by go_simp, by go_simp, by go_simp⟩, ?_, ?_, ?_⟩
        · have e0 : pw (0 - 1) = ⟨sc, s0, s1, s2, s3, s4, s5, s6, s7⟩ := HP0.out
          rw [e0]
          exact ⟨by go_simp, by go_simp, by go_simp, by go_simp⟩
        · repeat (with_reducible first | assumption | apply At.set | apply At.alloc | apply At.setNew | omega)
        · simp
        · repeat (with_reducible first | exact HN2.out | apply New.alloc | apply New.set | omega)
      case round =>
        obtain ⟨k, hk, rfl, HO, HS, HC, HZ, hAr, hsz, hNr⟩ := hrel
        obtain ⟨x0, x1, x2, x3⟩ := HS.out
        have hbr := hAr.lt
        by_cases hkm : k < m
        · have hkn : (k : Int) < (m : Int) := by omega
          have KD := fun w hA => drift_c w1.heap.size sc (pw k) w (FF.out.lw k (by omega)).fw (drF_of (FF.out.lw k (by omega))) hA
          simp only [FF.out.d k (by omega)] at KD
          by_cases hk0 : k = 0
          · have KD := hid KD
            have eQ : pw (k - 1) = pw k := by subst hk0; rfl
            rw [eQ] at HC
            clear eQ
            generalize ht : pw k = t at *
            have HT := hid ht
            clear ht
            obtain ⟨tc, t0, t1, t2, t3, t4, t5, t6, t7⟩ := t
            generalize hdk : dr k = dk at *
            have HDK := hid hdk
            clear hdk
            obtain ⟨y0, y1, y2, y3⟩ := HC.out
            obtain ⟨v0, v1, v2, v3⟩ := HZ.out
            have HOx := HO
            have hNx := hNr
            have hk1 : ¬ ((0 : Int) < (k : Int)) := by omega
            clear hk0
            simp only at KD y0 y1 y2 y3
            go_wp2_with fail
            with_reducible refine (KD.out _ hAr).mono ?_; rintro e w4 ⟨rfl, hE4⟩
            have hX4 := hE4.size
            have HO4 := hid (own_ext HOx.out (show w1.heap.size < w2.heap.size + 2 by omega) hE4)
            have p0 := hE4.cell_at x0 nb2
            have p1 := hE4.cell_at x1 nb2
            have p2 := hE4.cell_at x2 nb2
            have p3 := hE4.cell_at x3 nb2
            have q0 := hE4.cell_at y0 nb3
            have q1 := hE4.cell_at y1 nb3
            have q2 := hE4.cell_at y2 nb3
            have q3 := hE4.cell_at y3 nb3
            have r0 := hE4.frozen_at (k := w2.heap.size + 1) (o := 0) (cell_lt y0) v0 nb3
            have r1 := hE4.frozen_at (k := w2.heap.size + 1) (o := 1) (cell_lt y1) v1 nb3
            have r2 := hE4.frozen_at (k := w2.heap.size + 1) (o := 2) (cell_lt y2) v2 nb3
            have r3 := hE4.frozen_at (k := w2.heap.size + 1) (o := 3) (cell_lt y3) v3 nb3
            have hN4 : New w w4 := hNx.extI hE4 (by omega)
            have hA4 := hE4.at_
            obtain ⟨i0, hi, hz0, hz1, hz2⟩ := info_parts infoF
            go_wp2_with (at_builtin; (refine wpList_append_own _ rfl _ _ 42 rfl (w2.heap.size + 2) 34 i0 (.float .f32 0) 1 4 Try.underlying42 hi hz0 hz1 hz2 rfl (by decide) _ _ _ rfl (HO4.out.alloc _) ⟨w4.heap.size, 0, none⟩ 1 1 [.float .f32 dk] rfl rfl ?c1 ?c2 ?c3 ?c4 ?c5 ?_))
            case c1 => exact new_cells _ #[.float .f32 dk] _ rfl
            case c2 => intro u hu; simp at hu; rcases hu with rfl; rfl
            case c3 => unfold maxLen; omega
            case c4 => omega
            case c5 => simp; omega
            intro v' w5 hown' hgrow hnil
            have hO5 := hid (HO4.out.alloc (.cells #[.float .f32 dk] 34))
            have hN5 := hid ((hN4.alloc (.cells #[.float .f32 dk] 34)).grew hO5.out hgrow (by omega))
            have hA5 := hid (grew_at hO5.out hgrow (by omega) (hA4.alloc (.cells #[.float .f32 dk] 34)))
            have hs5 := hgrow.size
            simp at hs5
            have hP5 : Hid (w5.cell? ⟨w2.heap.size, 0, none⟩ = some (.complex .f32 s0 s1) ∧ w5.cell? ⟨w2.heap.size, 1, none⟩ = some (.complex .f32 s2 s3) ∧ w5.cell? ⟨w2.heap.size, 2, none⟩ = some (.complex .f32 s4 s5) ∧ w5.cell? ⟨w2.heap.size, 3, none⟩ = some (.complex .f32 s6 s7)) := ⟨grew_cell hO5.out hgrow (by omega) (cell_alloc p0 _), grew_cell hO5.out hgrow (by omega) (cell_alloc p1 _), grew_cell hO5.out hgrow (by omega) (cell_alloc p2 _), grew_cell hO5.out hgrow (by omega) (cell_alloc p3 _)⟩
            have hQ5 : Hid (w5.cell? ⟨w2.heap.size + 1, 0, none⟩ = some (.complex .f32 (pw (k + 1 - 1)).a0 (pw (k + 1 - 1)).a1) ∧ w5.cell? ⟨w2.heap.size + 1, 1, none⟩ = some (.complex .f32 (pw (k + 1 - 1)).b0 (pw (k + 1 - 1)).b1) ∧ w5.cell? ⟨w2.heap.size + 1, 2, none⟩ = some (.complex .f32 (pw (k + 1 - 1)).c0 (pw (k + 1 - 1)).c1) ∧ w5.cell? ⟨w2.heap.size + 1, 3, none⟩ = some (.complex .f32 (pw (k + 1 - 1)).d0 (pw (k + 1 - 1)).d1)) := by
              have e9 : pw (k + 1 - 1) = ⟨tc, t0, t1, t2, t3, t4, t5, t6, t7⟩ := HT.out
              rw [e9]
              exact ⟨grew_cell hO5.out hgrow (by omega) (cell_alloc q0 _), grew_cell hO5.out hgrow (by omega) (cell_alloc q1 _), grew_cell hO5.out hgrow (by omega) (cell_alloc q2 _), grew_cell hO5.out hgrow (by omega) (cell_alloc q3 _)⟩
            have hZ5 : Hid (w5.frozen? ⟨w2.heap.size + 1, 0, none⟩ = false ∧ w5.frozen? ⟨w2.heap.size + 1, 1, none⟩ = false ∧ w5.frozen? ⟨w2.heap.size + 1, 2, none⟩ = false ∧ w5.frozen? ⟨w2.heap.size + 1, 3, none⟩ = false) := ⟨grew_frozen hO5.out hgrow (by omega) (by simp; omega) (frozen_alloc (cell_lt q0) r0 _), grew_frozen hO5.out hgrow (by omega) (by simp; omega) (frozen_alloc (cell_lt q0) r1 _), grew_frozen hO5.out hgrow (by omega) (by simp; omega) (frozen_alloc (cell_lt q0) r2 _), grew_frozen hO5.out hgrow (by omega) (by simp; omega) (frozen_alloc (cell_lt q0) r3 _)⟩
            have hown1 : Hid (w5.ownsRow (w2.heap.size + 2) 34 1 v' (k + 1) (fl32 (drs dr (k + 1)))) := by
              rw [drs_snoc, fl32_snoc, HDK.out]; exact hown'
            clear hown' hgrow hnil hO5 p0 p1 p2 p3 q0 q1 q2 q3 r0 r1 r2 r3 HO4 hN4 hA4
            go_wp2_with fail
            go_roundw
            case rel => exact ⟨k + 1, by omega, by go_num, hown1, hP5, hQ5, hZ5, hA5.out, by omega, hN5.out⟩
            case measure => simp [intOf]; omega
          · have KP := fun w hA => product_c w1.heap.size sc ⟨sc, s0, s1, s2, s3, s4, s5, s6, s7⟩ (pw (k - 1)) 3 58 w FF.out.st3 (FF.out.lw (k - 1) (by omega)) (by decide) (by decide) hA
            have ek : productM ⟨sc, s0, s1, s2, s3, s4, s5, s6, s7⟩ (pw (k - 1)) sc = pw k := by
              have := FF.out.pn (k - 1) (by omega)
              rwa [Nat.sub_add_cancel (by omega)] at this
            simp only [ek, FF.out.pc k (by omega)] at KP
            have KP := hid KP
            have KD := hid KD
            clear ek
            generalize pw (k - 1) = p at *
            generalize ht : pw k = t at *
            have HT := hid ht
            clear ht
            obtain ⟨tc, t0, t1, t2, t3, t4, t5, t6, t7⟩ := t
            obtain ⟨pc, p0, p1, p2, p3, p4, p5, p6, p7⟩ := p
            generalize hdk : dr k = dk at *
            have HDK := hid hdk
            clear hdk
            obtain ⟨d0, d1, d2, d3⟩ := HC.out
            obtain ⟨z0, z1, z2, z3⟩ := HZ.out
            have hk1 : (0 : Int) < (k : Int) := by omega
            simp only at KD KP d0 d1 d2 d3
            go_wp2_with fail
            with_reducible refine (KP.out _ hAr).mono ?_; rintro e w3 ⟨rfl, hE3⟩
            have hs3 := hE3.size
            have m0 := hE3.cell_at d0 nb3
            have m1 := hE3.cell_at d1 nb3
            have m2 := hE3.cell_at d2 nb3
            have m3 := hE3.cell_at d3 nb3
            have n0 := hE3.cell_at x0 nb2
            have n1 := hE3.cell_at x1 nb2
            have n2 := hE3.cell_at x2 nb2
            have n3 := hE3.cell_at x3 nb2
            have g0 := hE3.frozen_at (k := w2.heap.size + 1) (o := 0) (cell_lt d0) z0 nb3
            have g1 := hE3.frozen_at (k := w2.heap.size + 1) (o := 1) (cell_lt d1) z1 nb3
            have g2 := hE3.frozen_at (k := w2.heap.size + 1) (o := 2) (cell_lt d2) z2 nb3
            have g3 := hE3.frozen_at (k := w2.heap.size + 1) (o := 3) (cell_lt d3) z3 nb3
            have nb3' : w1.heap.size ≠ w2.heap.size + 1 := by omega
            have npq : w2.heap.size ≠ w2.heap.size + 1 := by omega
            have hA3 := hE3.at_
            have HO3 := own_ext HO.out (show w1.heap.size < w2.heap.size + 2 by omega) hE3
            have HOx := hid (own_set (own_set (own_set (own_set HO3 (q := w2.heap.size + 1) (by omega) 0 (.complex .f32 t0 t1)) (q := w2.heap.size + 1) (by omega) 1 (.complex .f32 t2 t3)) (q := w2.heap.size + 1) (by omega) 2 (.complex .f32 t4 t5)) (q := w2.heap.size + 1) (by omega) 3 (.complex .f32 t6 t7))
            have hNx := New.set4 (hNr.extI hE3 (by omega)) (b := w2.heap.size + 1) (by omega) (.complex .f32 t0 t1) (.complex .f32 t2 t3) (.complex .f32 t4 t5) (.complex .f32 t6 t7)
            clear HO3
            have hAx : At w1.heap.size sc ((((w3.setCell ⟨w2.heap.size + 1, 0, none⟩ (.complex .f32 t0 t1)).setCell ⟨w2.heap.size + 1, 1, none⟩ (.complex .f32 t2 t3)).setCell ⟨w2.heap.size + 1, 2, none⟩ (.complex .f32 t4 t5)).setCell ⟨w2.heap.size + 1, 3, none⟩ (.complex .f32 t6 t7)) := (((hA3.setNew nb3 _).setNew nb3 _).setNew nb3 _).setNew nb3 _
            go_wp2_with fail
            have x0 : ((((w3.setCell ⟨w2.heap.size + 1, 0, none⟩ (.complex .f32 t0 t1)).setCell ⟨w2.heap.size + 1, 1, none⟩ (.complex .f32 t2 t3)).setCell ⟨w2.heap.size + 1, 2, none⟩ (.complex .f32 t4 t5)).setCell ⟨w2.heap.size + 1, 3, none⟩ (.complex .f32 t6 t7)).cell? ⟨w2.heap.size, 0, none⟩ = some (.complex .f32 s0 s1) := by go_simp
            have x1 : ((((w3.setCell ⟨w2.heap.size + 1, 0, none⟩ (.complex .f32 t0 t1)).setCell ⟨w2.heap.size + 1, 1, none⟩ (.complex .f32 t2 t3)).setCell ⟨w2.heap.size + 1, 2, none⟩ (.complex .f32 t4 t5)).setCell ⟨w2.heap.size + 1, 3, none⟩ (.complex .f32 t6 t7)).cell? ⟨w2.heap.size, 1, none⟩ = some (.complex .f32 s2 s3) := by go_simp
            have x2 : ((((w3.setCell ⟨w2.heap.size + 1, 0, none⟩ (.complex .f32 t0 t1)).setCell ⟨w2.heap.size + 1, 1, none⟩ (.complex .f32 t2 t3)).setCell ⟨w2.heap.size + 1, 2, none⟩ (.complex .f32 t4 t5)).setCell ⟨w2.heap.size + 1, 3, none⟩ (.complex .f32 t6 t7)).cell? ⟨w2.heap.size, 2, none⟩ = some (.complex .f32 s4 s5) := by go_simp
            have x3 : ((((w3.setCell ⟨w2.heap.size + 1, 0, none⟩ (.complex .f32 t0 t1)).setCell ⟨w2.heap.size + 1, 1, none⟩ (.complex .f32 t2 t3)).setCell ⟨w2.heap.size + 1, 2, none⟩ (.complex .f32 t4 t5)).setCell ⟨w2.heap.size + 1, 3, none⟩ (.complex .f32 t6 t7)).cell? ⟨w2.heap.size, 3, none⟩ = some (.complex .f32 s6 s7) := by go_simp
            have y0 : ((((w3.setCell ⟨w2.heap.size + 1, 0, none⟩ (.complex .f32 t0 t1)).setCell ⟨w2.heap.size + 1, 1, none⟩ (.complex .f32 t2 t3)).setCell ⟨w2.heap.size + 1, 2, none⟩ (.complex .f32 t4 t5)).setCell ⟨w2.heap.size + 1, 3, none⟩ (.complex .f32 t6 t7)).cell? ⟨w2.heap.size + 1, 0, none⟩ = some (.complex .f32 t0 t1) := by go_simp
            have y1 : ((((w3.setCell ⟨w2.heap.size + 1, 0, none⟩ (.complex .f32 t0 t1)).setCell ⟨w2.heap.size + 1, 1, none⟩ (.complex .f32 t2 t3)).setCell ⟨w2.heap.size + 1, 2, none⟩ (.complex .f32 t4 t5)).setCell ⟨w2.heap.size + 1, 3, none⟩ (.complex .f32 t6 t7)).cell? ⟨w2.heap.size + 1, 1, none⟩ = some (.complex .f32 t2 t3) := by go_simp
            have y2 : ((((w3.setCell ⟨w2.heap.size + 1, 0, none⟩ (.complex .f32 t0 t1)).setCell ⟨w2.heap.size + 1, 1, none⟩ (.complex .f32 t2 t3)).setCell ⟨w2.heap.size + 1, 2, none⟩ (.complex .f32 t4 t5)).setCell ⟨w2.heap.size + 1, 3, none⟩ (.complex .f32 t6 t7)).cell? ⟨w2.heap.size + 1, 2, none⟩ = some (.complex .f32 t4 t5) := by go_simp
            have y3 : ((((w3.setCell ⟨w2.heap.size + 1, 0, none⟩ (.complex .f32 t0 t1)).setCell ⟨w2.heap.size + 1, 1, none⟩ (.complex .f32 t2 t3)).setCell ⟨w2.heap.size + 1, 2, none⟩ (.complex .f32 t4 t5)).setCell ⟨w2.heap.size + 1, 3, none⟩ (.complex .f32 t6 t7)).cell? ⟨w2.heap.size + 1, 3, none⟩ = some (.complex .f32 t6 t7) := by go_simp
            have v0 : ((((w3.setCell ⟨w2.heap.size + 1, 0, none⟩ (.complex .f32 t0 t1)).setCell ⟨w2.heap.size + 1, 1, none⟩ (.complex .f32 t2 t3)).setCell ⟨w2.heap.size + 1, 2, none⟩ (.complex .f32 t4 t5)).setCell ⟨w2.heap.size + 1, 3, none⟩ (.complex .f32 t6 t7)).frozen? ⟨w2.heap.size + 1, 0, none⟩ = false := by go_simp
            have v1 : ((((w3.setCell ⟨w2.heap.size + 1, 0, none⟩ (.complex .f32 t0 t1)).setCell ⟨w2.heap.size + 1, 1, none⟩ (.complex .f32 t2 t3)).setCell ⟨w2.heap.size + 1, 2, none⟩ (.complex .f32 t4 t5)).setCell ⟨w2.heap.size + 1, 3, none⟩ (.complex .f32 t6 t7)).frozen? ⟨w2.heap.size + 1, 1, none⟩ = false := by go_simp
            have v2 : ((((w3.setCell ⟨w2.heap.size + 1, 0, none⟩ (.complex .f32 t0 t1)).setCell ⟨w2.heap.size + 1, 1, none⟩ (.complex .f32 t2 t3)).setCell ⟨w2.heap.size + 1, 2, none⟩ (.complex .f32 t4 t5)).setCell ⟨w2.heap.size + 1, 3, none⟩ (.complex .f32 t6 t7)).frozen? ⟨w2.heap.size + 1, 2, none⟩ = false := by go_simp
            have v3 : ((((w3.setCell ⟨w2.heap.size + 1, 0, none⟩ (.complex .f32 t0 t1)).setCell ⟨w2.heap.size + 1, 1, none⟩ (.complex .f32 t2 t3)).setCell ⟨w2.heap.size + 1, 2, none⟩ (.complex .f32 t4 t5)).setCell ⟨w2.heap.size + 1, 3, none⟩ (.complex .f32 t6 t7)).frozen? ⟨w2.heap.size + 1, 3, none⟩ = false := by go_simp
            have hszx : w2.heap.size + 2 ≤ ((((w3.setCell ⟨w2.heap.size + 1, 0, none⟩ (.complex .f32 t0 t1)).setCell ⟨w2.heap.size + 1, 1, none⟩ (.complex .f32 t2 t3)).setCell ⟨w2.heap.size + 1, 2, none⟩ (.complex .f32 t4 t5)).setCell ⟨w2.heap.size + 1, 3, none⟩ (.complex .f32 t6 t7)).heap.size := by simp; omega
            generalize ((((w3.setCell ⟨w2.heap.size + 1, 0, none⟩ (.complex .f32 t0 t1)).setCell ⟨w2.heap.size + 1, 1, none⟩ (.complex .f32 t2 t3)).setCell ⟨w2.heap.size + 1, 2, none⟩ (.complex .f32 t4 t5)).setCell ⟨w2.heap.size + 1, 3, none⟩ (.complex .f32 t6 t7)) = wx at *
            with_reducible refine (KD.out _ hAx).mono ?_; rintro e w4 ⟨rfl, hE4⟩
            have hX4 := hE4.size
            have HO4 := hid (own_ext HOx.out (show w1.heap.size < w2.heap.size + 2 by omega) hE4)
            have p0 := hE4.cell_at x0 nb2
            have p1 := hE4.cell_at x1 nb2
            have p2 := hE4.cell_at x2 nb2
            have p3 := hE4.cell_at x3 nb2
            have q0 := hE4.cell_at y0 nb3
            have q1 := hE4.cell_at y1 nb3
            have q2 := hE4.cell_at y2 nb3
            have q3 := hE4.cell_at y3 nb3
            have r0 := hE4.frozen_at (k := w2.heap.size + 1) (o := 0) (cell_lt y0) v0 nb3
            have r1 := hE4.frozen_at (k := w2.heap.size + 1) (o := 1) (cell_lt y1) v1 nb3
            have r2 := hE4.frozen_at (k := w2.heap.size + 1) (o := 2) (cell_lt y2) v2 nb3
            have r3 := hE4.frozen_at (k := w2.heap.size + 1) (o := 3) (cell_lt y3) v3 nb3
            have hN4 : New w w4 := hNx.extI hE4 (by omega)
            have hA4 := hE4.at_
            obtain ⟨i0, hi, hz0, hz1, hz2⟩ := info_parts infoF
            go_wp2_with (at_builtin; (refine wpList_append_own _ rfl _ _ 42 rfl (w2.heap.size + 2) 34 i0 (.float .f32 0) 1 4 Try.underlying42 hi hz0 hz1 hz2 rfl (by decide) _ _ _ rfl (HO4.out.alloc _) ⟨w4.heap.size, 0, none⟩ 1 1 [.float .f32 dk] rfl rfl ?c1 ?c2 ?c3 ?c4 ?c5 ?_))
            case c1 => exact new_cells _ #[.float .f32 dk] _ rfl
            case c2 => intro u hu; simp at hu; rcases hu with rfl; rfl
            case c3 => unfold maxLen; omega
            case c4 => omega
            case c5 => simp; omega
            intro v' w5 hown' hgrow hnil
            have hO5 := hid (HO4.out.alloc (.cells #[.float .f32 dk] 34))
            have hN5 := hid ((hN4.alloc (.cells #[.float .f32 dk] 34)).grew hO5.out hgrow (by omega))
            have hA5 := hid (grew_at hO5.out hgrow (by omega) (hA4.alloc (.cells #[.float .f32 dk] 34)))
            have hs5 := hgrow.size
            simp at hs5
            have hP5 : Hid (w5.cell? ⟨w2.heap.size, 0, none⟩ = some (.complex .f32 s0 s1) ∧ w5.cell? ⟨w2.heap.size, 1, none⟩ = some (.complex .f32 s2 s3) ∧ w5.cell? ⟨w2.heap.size, 2, none⟩ = some (.complex .f32 s4 s5) ∧ w5.cell? ⟨w2.heap.size, 3, none⟩ = some (.complex .f32 s6 s7)) := ⟨grew_cell hO5.out hgrow (by omega) (cell_alloc p0 _), grew_cell hO5.out hgrow (by omega) (cell_alloc p1 _), grew_cell hO5.out hgrow (by omega) (cell_alloc p2 _), grew_cell hO5.out hgrow (by omega) (cell_alloc p3 _)⟩
            have hQ5 : Hid (w5.cell? ⟨w2.heap.size + 1, 0, none⟩ = some (.complex .f32 (pw (k + 1 - 1)).a0 (pw (k + 1 - 1)).a1) ∧ w5.cell? ⟨w2.heap.size + 1, 1, none⟩ = some (.complex .f32 (pw (k + 1 - 1)).b0 (pw (k + 1 - 1)).b1) ∧ w5.cell? ⟨w2.heap.size + 1, 2, none⟩ = some (.complex .f32 (pw (k + 1 - 1)).c0 (pw (k + 1 - 1)).c1) ∧ w5.cell? ⟨w2.heap.size + 1, 3, none⟩ = some (.complex .f32 (pw (k + 1 - 1)).d0 (pw (k + 1 - 1)).d1)) := by
              have e9 : pw (k + 1 - 1) = ⟨tc, t0, t1, t2, t3, t4, t5, t6, t7⟩ := HT.out
              rw [e9]
              exact ⟨grew_cell hO5.out hgrow (by omega) (cell_alloc q0 _), grew_cell hO5.out hgrow (by omega) (cell_alloc q1 _), grew_cell hO5.out hgrow (by omega) (cell_alloc q2 _), grew_cell hO5.out hgrow (by omega) (cell_alloc q3 _)⟩
            have hZ5 : Hid (w5.frozen? ⟨w2.heap.size + 1, 0, none⟩ = false ∧ w5.frozen? ⟨w2.heap.size + 1, 1, none⟩ = false ∧ w5.frozen? ⟨w2.heap.size + 1, 2, none⟩ = false ∧ w5.frozen? ⟨w2.heap.size + 1, 3, none⟩ = false) := ⟨grew_frozen hO5.out hgrow (by omega) (by simp; omega) (frozen_alloc (cell_lt q0) r0 _), grew_frozen hO5.out hgrow (by omega) (by simp; omega) (frozen_alloc (cell_lt q0) r1 _), grew_frozen hO5.out hgrow (by omega) (by simp; omega) (frozen_alloc (cell_lt q0) r2 _), grew_frozen hO5.out hgrow (by omega) (by simp; omega) (frozen_alloc (cell_lt q0) r3 _)⟩
            have hown1 : Hid (w5.ownsRow (w2.heap.size + 2) 34 1 v' (k + 1) (fl32 (drs dr (k + 1)))) := by
              rw [drs_snoc, fl32_snoc, HDK.out]; exact hown'
            clear hown' hgrow hnil hO5 p0 p1 p2 p3 q0 q1 q2 q3 r0 r1 r2 r3 HO4 hN4 hA4
            go_wp2_with fail
            go_roundw
            case rel => exact ⟨k + 1, by omega, by go_num, hown1, hP5, hQ5, hZ5, hA5.out, by omega, hN5.out⟩
            case measure => simp [intOf]; omega
        · have hk' : k = m := by omega
          subst hk'
          have hkn : ¬ ((k : Int) < (k : Int)) := by omega
          go_wp2_with fail
          refine (toldF_c w1.heap.size sc _ _ hAr).mono ?_
          rintro e w3 ⟨rfl, hN3⟩
          go_wp2
          have eQ : Q.1 = sc := by
            rw [← HQ.out]
            by_cases hc : sc = 0
            · rw [if_pos hc, hc]
            · rw [if_neg hc]
          refine bodyPost_ret (v := .tuple #[toldF u12 sc, .int .i64 sc]) (by simp [results, Try.results45, go_sem]) rfl ⟨toldF u12 sc, by rw [eQ], ?_, ?_⟩
          · rw [← HQ.out]
            refine toldF_own ?_
            have := own_new HO.out hN3
            rw [drs_length]
            refine own_le this (by omega)
          · exact hNr.trans hN3
end Go.Proofs.Ytmbjomjpnfnbkaa
