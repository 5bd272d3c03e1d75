/-
  Walks of the reference's TableOfSequence.
-/
import Derived.Test.YtmbjomjpnfnbkaaGreatP16
set_option linter.unusedSimpArgs false
set_option linter.unusedVariables false
namespace Go.Proofs.YtmbjomjpnfnbkaaGreat
open Go.RowKit Flt

theorem all_false {ps : List PuI} {k : Nat} (h : k < ps.length) (hf : (ps.getD k PuI.zero).okB = false) : seqB ps = false := by
  unfold seqB
  have : ps.all PuI.okB = false := by
    rw [List.all_eq_false]
    refine ⟨ps[k], List.getElem_mem _, ?_⟩
    have e : ps.getD k PuI.zero = ps[k] := by simp [List.getD, h]
    rw [e] at hf; simp [hf]
  rw [this]; rfl

set_option maxHeartbeats 2000000 in
set_option maxRecDepth 5000 in
theorem l05Is_c (g cap : Nat) (ps : List PuI) (w : World) (hP : PuHeld w g ps) (hl : ps.length ≤ 1048576) :
    Calls Tryz.prog 44 #[.slice (some ⟨g, 0, none⟩) ps.length cap] w fun e w' => e = .returned (.bool (seqB ps)) ∧ w = w' := by
  have HP := hid hP
  generalize hR : seqB ps = R
  have HR := hid hR
  clear hR hP
  go_enter Tryz.func44, Tryz.ntmps44
  go_wp2_with fail
  go_loopw [3] (fun i wr => ∃ k : Nat, k ≤ ps.length ∧ i = .int .i64 k ∧ Hid ((ps.take k).all PuI.okB = true) ∧ w = wr) (fun i _ => ps.length - (intOf i).toNat)
  case atStart => exact ⟨0, Nat.zero_le _, rfl, hid rfl, rfl⟩
  case round =>
    obtain ⟨k, hk, rfl, hall, rfl⟩ := hrel
    by_cases hlt : k < ps.length
    · obtain ⟨c0, c1, c2⟩ := HP.out k hlt
      have hkn : ((k : Int) < (ps.length : Int)) := by omega
      have hT := hid (all_take hlt)
      have hB := hid (fun h => all_false hlt h)
      generalize ps.getD k PuI.zero = p at *
      cases h1 : inB p.a 0 2 with
      | false =>
        have H1 := hid h1
        have HF := hid (show R = false by rw [← HR.out]; exact hB.out (by unfold PuI.okB; rw [h1]; rfl))
        clear h1
        go_wp2_with fail
        with_reducible refine (l01In_c _ _ _ _).mono ?_; rintro e w' ⟨rfl, rfl⟩; rw [H1.out]
        go_wp2
        go_ret
        exact ⟨by rw [HF.out]; rfl, rfl⟩
      | true =>
        cases h2 : inB p.k 0 24 with
        | false =>
          have H1 := hid h1
          have H2 := hid h2
          have HF := hid (show R = false by rw [← HR.out]; exact hB.out (by unfold PuI.okB; rw [h1, h2]; rfl))
          clear h1 h2
          go_wp2_with fail
          with_reducible refine (l01In_c _ _ _ _).mono ?_; rintro e w' ⟨rfl, rfl⟩; rw [H1.out]
          go_wp2_with fail
          with_reducible refine (l01In_c _ _ _ _).mono ?_; rintro e w' ⟨rfl, rfl⟩; rw [H2.out]
          go_wp2
          go_ret
          exact ⟨by rw [HF.out]; rfl, rfl⟩
        | true =>
          have H1 := hid h1
          have H2 := hid h2
          have HO := hid (show (ps.take (k + 1)).all PuI.okB = true by rw [hT.out, hall.out]; unfold PuI.okB; rw [h1, h2]; rfl)
          clear h1 h2
          go_wp2_with fail
          with_reducible refine (l01In_c _ _ _ _).mono ?_; rintro e w' ⟨rfl, rfl⟩; rw [H1.out]
          go_wp2_with fail
          with_reducible refine (l01In_c _ _ _ _).mono ?_; rintro e w' ⟨rfl, rfl⟩; rw [H2.out]
          go_wp2_with fail
          go_roundw
          case rel => exact ⟨k + 1, by omega, by go_num, HO, trivial⟩
          case measure => simp [intOf]; omega
    · have hk' : k = ps.length := by omega
      subst hk'
      have hkn : ¬ ((ps.length : Int) < (ps.length : Int)) := by omega
      have hall' := hall.out
      rw [List.take_of_length_le (Nat.le_refl _)] at hall'
      have eR := hid (show R = decide ((ps.length : Int) ≤ 60) by
        rw [← HR.out]; unfold seqB; rw [hall', Bool.true_and]
        by_cases h : ps.length ≤ 60
        · rw [decide_eq_true h, decide_eq_true (show ((ps.length : Nat) : Int) ≤ 60 by omega)]
        · rw [decide_eq_false h, decide_eq_false (show ¬ ((ps.length : Nat) : Int) ≤ 60 by omega)])
      clear hall'
      go_wp2
      go_ret
      exact ⟨by rw [eR.out]; rfl, rfl⟩

theorem C8.val_of {t : C8} : t.val = T4 t.a0 t.a1 t.b0 t.b1 t.c0 t.c1 t.d0 t.d1 := rfl
set_option maxHeartbeats 4000000 in
set_option maxRecDepth 5000 in
theorem l05Table_c (g cap : Nat) (ps : List PuI) (w : World) (hP : PuHeld w g ps) (hs : seqB ps = true) :
    Calls Tryz.prog 45 #[.slice (some ⟨g, 0, none⟩) ps.length cap, .int .i64 0] w fun e w' => e = .returned (.tuple #[(tabL (ps.map PuI.n) unitS).val, .int .i64 0]) ∧ New w w' := by
  have HP := hid hP
  have hs2 := hs
  unfold seqB at hs2
  simp only [Bool.and_eq_true, decide_eq_true_eq] at hs2
  have hlen := hs2.2
  have HOK := hid hs2.1
  have KU := hid l03Unit_c
  generalize hR : tabL (ps.map PuI.n) unitS = R
  have HR := hid hR
  clear hR hP hs hs2
  have HU : Hid (Lw8 0 (tabS 1065353216 0 0 0)) := hid unit_lw
  change Hid (tabL (ps.map PuI.n) (tabS 1065353216 0 0 0) = R) at HR
  generalize tabS 1065353216 0 0 0 = u at *
  go_enter Tryz.func45, Tryz.ntmps45
  go_wp2_with fail
  with_reducible refine (KU.out _).mono ?_; rintro e w1 ⟨rfl, hN⟩
  have hs1 := hN.size
  simp at hs1
  obtain ⟨l1, l2, l3⟩ := hN.laws
  have i0 := hid (hN.cell_at (k := w.heap.size) (o := 0) (v := .complex .f32 0 0) (by go_simp))
  have i1 := hid (hN.cell_at (k := w.heap.size) (o := 1) (v := .complex .f32 0 0) (by go_simp))
  have i2 := hid (hN.cell_at (k := w.heap.size) (o := 2) (v := .complex .f32 0 0) (by go_simp))
  have i3 := hid (hN.cell_at (k := w.heap.size) (o := 3) (v := .complex .f32 0 0) (by go_simp))
  have f0 := hid (hN.frozen_at (k := w.heap.size) (o := 0) (by simp) (by go_simp))
  have f1 := hid (hN.frozen_at (k := w.heap.size) (o := 1) (by simp) (by go_simp))
  have f2 := hid (hN.frozen_at (k := w.heap.size) (o := 2) (by simp) (by go_simp))
  have f3 := hid (hN.frozen_at (k := w.heap.size) (o := 3) (by simp) (by go_simp))
  clear l1 l2 l3
  go_wp2_with fail
  go_loopw [7] (fun i wr => ∃ (k : Nat) (t : C8), k ≤ ps.length ∧ i = .int .i64 k ∧ Hid (Lw8 (2 * (k : Int)) t) ∧ Hid (tabL ((ps.map PuI.n).drop k) t = R) ∧
    Hid (wr.cell? ⟨w1.heap.size, 0, none⟩ = some (.complex .f32 t.a0 t.a1) ∧ wr.cell? ⟨w1.heap.size, 1, none⟩ = some (.complex .f32 t.b0 t.b1) ∧ wr.cell? ⟨w1.heap.size, 2, none⟩ = some (.complex .f32 t.c0 t.c1) ∧ wr.cell? ⟨w1.heap.size, 3, none⟩ = some (.complex .f32 t.d0 t.d1)) ∧
    Hid (wr.frozen? ⟨w1.heap.size, 0, none⟩ = false ∧ wr.frozen? ⟨w1.heap.size, 1, none⟩ = false ∧ wr.frozen? ⟨w1.heap.size, 2, none⟩ = false ∧ wr.frozen? ⟨w1.heap.size, 3, none⟩ = false) ∧ w1.heap.size < wr.heap.size ∧ New w1 wr) (fun i _ => ps.length - (intOf i).toNat)
  case atStart => exact ⟨0, u, Nat.zero_le _, rfl, HU, HR, ⟨by go_simp, by go_simp, by go_simp, by go_simp⟩, ⟨by go_simp, by go_simp, by go_simp, by go_simp⟩, by simp, (New.refl w1).alloc _⟩
  case round =>
    obtain ⟨k, t, hk, rfl, HL, HM, HC, HF, hsz, hNr⟩ := hrel
    obtain ⟨c0, c1, c2, c3⟩ := HC.out
    obtain ⟨z0, z1, z2, z3⟩ := HF.out
    by_cases hlt : k < ps.length
    · obtain ⟨c4, c5, c6⟩ := (HP.out.new ((((New.refl w).alloc _).trans hN).trans hNr)) k hlt
      have hg := cell_lt (HP.out k hlt).1
      have ng : g ≠ w1.heap.size := by omega
      have hkn : ((k : Int) < (ps.length : Int)) := by omega
      have hD := hid (drop_n hlt)
      have hok : (ps.getD k PuI.zero).okB = true := by
        have e : ps.getD k PuI.zero = ps[k] := by simp [List.getD, hlt]
        rw [e]; exact List.all_eq_true.1 HOK.out _ (List.getElem_mem _)
      generalize ps.getD k PuI.zero = p at *
      obtain ⟨ok1, ev⟩ := PuI.ok_n hok
      have KP := hid (fun w => l05Pulse_c p.n w ok1)
      rw [← ev] at KP
      have lp := pul_lw ok1
      have KT := hid (fun w => l03Times_c (pulS p.n) t 0 (2 * (k : Int)) w lp HL.out (by omega) (by omega))
      have hL2 := product_lw lp HL.out (by omega) (by omega)
      rw [show (2 : Int) * (k : Int) + 2 = 2 * ((k + 1 : Nat) : Int) by omega] at hL2
      have KI := hid (fun w => l03Is_c (productS (pulS p.n) t) w hL2.fw)
      have hM2 : tabL ((ps.map PuI.n).drop (k + 1)) (productS (pulS p.n) t) = R := by rw [← HM.out, hD.out]; rfl
      have HL2 := hid hL2
      have HM2 := hid hM2
      clear hok ok1 ev lp hL2 hM2
      generalize productS (pulS p.n) t = t2 at *
      generalize pulS p.n = s at *
      go_wp2_with fail
      refine wp_region_held_drew (S := fun w' => w'.cell? ⟨g, k * 3, none⟩ = some (.int .i64 p.a) ∧ w'.cell? ⟨g, k * 3 + 1, none⟩ = some (.int .i64 p.k) ∧ w'.cell? ⟨g, k * 3 + 2, none⟩ = some (.bool p.back)) (by kernel_rfl) (by refine ⟨?_, ?_, ?_⟩ <;> (first | (with_reducible assumption) | (go_simp; done))) (fun hHeld => ?_)
      refine wpAnyH_take (i := 0) (oi := { dst := some 17, op := Op.move (Operand.tmp 0), type := 24, pos := "l05_pulses.go:90", after := #[], guard := none }) (v := ?_) rfl (by kernel_rfl) (by kernel_rfl) (by kernel_rfl) (fun _ _ _ h => h) (Or.inl ⟨by rfl, ?_⟩) (by assumption) ?_
      rotate_left
      · intro wq hSw; (try dsimp only at hSw); go_simp; try (with_reducible rfl)
      try simp only [Act.put, List.setIfInBounds_toArray, List.set_cons_zero, List.set_cons_succ]
      refine wpAnyH_take (i := 1) (oi := { dst := some 18, op := Op.move (Operand.tmp 7), type := 3, pos := "l05_pulses.go:90", after := #[], guard := none }) (v := ?_) rfl (by kernel_rfl) (by kernel_rfl) (by kernel_rfl) (fun _ _ _ h => h) (Or.inl ⟨by rfl, ?_⟩) (by assumption) ?_
      rotate_left
      · intro wq hSw; (try dsimp only at hSw); go_simp; try (with_reducible rfl)
      try simp only [Act.put, List.setIfInBounds_toArray, List.set_cons_zero, List.set_cons_succ]
      refine wpAnyH_take (i := 2) (oi := { dst := some 19, op := Op.indexAddr 24 (Operand.tmp 17) (Operand.tmp 18), type := 0, pos := "l05_pulses.go:90", after := #[{ on := 0, ground := Ground.data }, { on := 1, ground := Ground.data }], guard := none }) (v := ?_) rfl (by kernel_rfl) (by kernel_rfl) (by kernel_rfl) (fun _ _ _ h => h) (Or.inl ⟨by rfl, ?_⟩) (by assumption) ?_
      rotate_left
      · intro wq hSw; (try dsimp only at hSw); go_simp; try (with_reducible rfl)
      try simp only [Act.put, List.setIfInBounds_toArray, List.set_cons_zero, List.set_cons_succ]
      refine wpAnyH_take (i := 3) (oi := { dst := some 20, op := Op.load 61 (Operand.tmp 19), type := 61, pos := "l05_pulses.go:90", after := #[{ on := 2, ground := Ground.data }], guard := none }) (v := ?_) rfl (by kernel_rfl) (by kernel_rfl) (by kernel_rfl) (fun _ _ _ h => h) (Or.inl ⟨by rfl, ?_⟩) (by assumption) ?_
      rotate_left
      · intro wq hSw; (try dsimp only at hSw); go_simp; try (with_reducible rfl)
      try simp only [Act.put, List.setIfInBounds_toArray, List.set_cons_zero, List.set_cons_succ]
      refine wpAnyH_ready (rs := [4, 5]) (by kernel_rfl) (by simp) ?_
      refine AllReadyH.cons (o := { dst := some 21, op := Op.call { callee := Callee.value (Operand.func 66), args := #[Operand.tmp 20], argTypes := #[61] }, type := 29, pos := "l05_pulses.go:90", after := #[{ on := 3, ground := Ground.data }], guard := none }) rfl (fun K hK => ?_) (AllReadyH.cons (o := { dst := some 22, op := Op.load 29 (Operand.tmp 6), type := 29, pos := "l05_pulses.go:90", after := #[], guard := none }) rfl (fun K hK => ?_) AllReadyH.nil)
      · go_simp
        with_reducible refine (KP.out _).mono ?_; rintro e x2 ⟨rfl, hN2⟩
        have pc0 := hN2.cell_at c0
        have pc1 := hN2.cell_at c1
        have pc2 := hN2.cell_at c2
        have pc3 := hN2.cell_at c3
        have pc4 := hN2.cell_at c4
        have pc5 := hN2.cell_at c5
        have pc6 := hN2.cell_at c6
        have pz0 := hN2.frozen_at hsz z0
        have pz1 := hN2.frozen_at hsz z1
        have pz2 := hN2.frozen_at hsz z2
        have pz3 := hN2.frozen_at hsz z3
        have ps := hN2.size
        refine hK.out _ _ (by refine ⟨?_, ?_, ?_⟩ <;> (first | (with_reducible assumption) | (go_simp; done))) (fun hHeld' => ?_)
        clear hK K hHeld; have hHeld := hHeld'; clear hHeld'
        try simp only [Act.put, List.setIfInBounds_toArray, List.set_cons_zero, List.set_cons_succ]
        refine wpAnyH_ready (rs := [5]) (by kernel_rfl) (by simp) ?_
        refine AllReadyH.cons (o := { dst := some 22, op := Op.load 29 (Operand.tmp 6), type := 29, pos := "l05_pulses.go:90", after := #[], guard := none }) rfl (fun K hK => ?_) AllReadyH.nil
        go_simp
        refine hK.out _ _ (by refine ⟨?_, ?_, ?_⟩ <;> (first | (with_reducible assumption) | (go_simp; done))) (fun hHeld' => ?_)
        clear hK K hHeld; have hHeld := hHeld'; clear hHeld'
        try simp only [Act.put, List.setIfInBounds_toArray, List.set_cons_zero, List.set_cons_succ]
        refine wpAnyH_ready (rs := [6]) (by kernel_rfl) (by simp) ?_
        refine AllReadyH.cons (o := { dst := some 23, op := Op.call { callee := Callee.value (Operand.func 65), args := #[Operand.tmp 21, Operand.tmp 22], argTypes := #[29, 29] }, type := 29, pos := "l05_pulses.go:90", after := #[{ on := 4, ground := Ground.data }, { on := 5, ground := Ground.data }, { on := 4, ground := Ground.chain }], guard := none }) rfl (fun K hK => ?_) AllReadyH.nil
        go_simp
        with_reducible refine (KT.out _).mono ?_; rintro e x3 ⟨rfl, hN3⟩
        have qc0 := hN3.cell_at pc0
        have qc1 := hN3.cell_at pc1
        have qc2 := hN3.cell_at pc2
        have qc3 := hN3.cell_at pc3
        have qc4 := hN3.cell_at pc4
        have qc5 := hN3.cell_at pc5
        have qc6 := hN3.cell_at pc6
        have qz0 := hN3.frozen_at (Nat.lt_of_lt_of_le (show w1.heap.size < wr.drew.heap.size from hsz) hN2.size) pz0
        have qz1 := hN3.frozen_at (Nat.lt_of_lt_of_le (show w1.heap.size < wr.drew.heap.size from hsz) hN2.size) pz1
        have qz2 := hN3.frozen_at (Nat.lt_of_lt_of_le (show w1.heap.size < wr.drew.heap.size from hsz) hN2.size) pz2
        have qz3 := hN3.frozen_at (Nat.lt_of_lt_of_le (show w1.heap.size < wr.drew.heap.size from hsz) hN2.size) pz3
        have qs := hN3.size
        refine hK.out _ _ (by refine ⟨?_, ?_, ?_⟩ <;> (first | (with_reducible assumption) | (go_simp; done))) (fun hHeld' => ?_)
        clear hK K hHeld; have hHeld := hHeld'; clear hHeld'
        try simp only [Act.put, List.setIfInBounds_toArray, List.set_cons_zero, List.set_cons_succ]
        refine wpAnyH_ready (rs := [7]) (by kernel_rfl) (by simp) ?_
        refine AllReadyH.cons (o := { dst := none, op := Op.store 29 (Operand.tmp 6) (Operand.tmp 23), type := 0, pos := "l05_pulses.go:90", after := #[{ on := 6, ground := Ground.data }, { on := 6, ground := Ground.chain }, { on := 0, ground := Ground.phase }, { on := 1, ground := Ground.phase }, { on := 2, ground := Ground.phase }, { on := 3, ground := Ground.phase }, { on := 4, ground := Ground.phase }, { on := 5, ground := Ground.phase }, { on := 6, ground := Ground.phase }], guard := none }) rfl (fun K hK => ?_) AllReadyH.nil
        go_simp
        refine hK.out _ _ (by refine ⟨?_, ?_, ?_⟩ <;> (first | (with_reducible assumption) | (go_simp; done))) (fun hHeld' => ?_)
        clear hK K hHeld; have hHeld := hHeld'; clear hHeld'
        try simp only [Act.put, List.setIfInBounds_toArray, List.set_cons_zero, List.set_cons_succ]
        refine wpAnyH_done (by kernel_rfl) ?_ _
        go_wp2_with fail
        with_reducible refine (KI.out _).mono ?_; rintro e x4 ⟨rfl, hN4⟩
        have e0 := hN4.cell_at (k := w1.heap.size) (o := 0) (v := .complex .f32 t2.a0 t2.a1) (by go_simp)
        have e1 := hN4.cell_at (k := w1.heap.size) (o := 1) (v := .complex .f32 t2.b0 t2.b1) (by go_simp)
        have e2 := hN4.cell_at (k := w1.heap.size) (o := 2) (v := .complex .f32 t2.c0 t2.c1) (by go_simp)
        have e3 := hN4.cell_at (k := w1.heap.size) (o := 3) (v := .complex .f32 t2.d0 t2.d1) (by go_simp)
        have hlt3 : w1.heap.size < x3.heap.size := Nat.lt_of_lt_of_le (Nat.lt_of_lt_of_le (show w1.heap.size < wr.drew.heap.size from hsz) hN2.size) hN3.size
        have y0 := hN4.frozen_at (k := w1.heap.size) (o := 0) (by simpa using hlt3) (by go_simp)
        have y1 := hN4.frozen_at (k := w1.heap.size) (o := 1) (by simpa using hlt3) (by go_simp)
        have y2 := hN4.frozen_at (k := w1.heap.size) (o := 2) (by simpa using hlt3) (by go_simp)
        have y3 := hN4.frozen_at (k := w1.heap.size) (o := 3) (by simpa using hlt3) (by go_simp)
        have hlt4 : w1.heap.size < x4.heap.size := Nat.lt_of_lt_of_le (show w1.heap.size < _ by simpa using hlt3) hN4.size
        have hnew := hid ((New.set4 ((hNr.drew.trans hN2).trans hN3) (Nat.le_refl _) (.complex .f32 t2.a0 t2.a1) (.complex .f32 t2.b0 t2.b1) (.complex .f32 t2.c0 t2.c1) (.complex .f32 t2.d0 t2.d1)).trans hN4)
        go_wp2_with fail
        go_roundw
        case rel => exact ⟨k + 1, t2, by omega, by go_num, HL2, HM2, ⟨e0, e1, e2, e3⟩, ⟨y0, y1, y2, y3⟩, hlt4, hnew.out⟩
        case measure => simp [intOf]; omega
      · go_simp
        refine hK.out _ _ (by refine ⟨?_, ?_, ?_⟩ <;> (first | (with_reducible assumption) | (go_simp; done))) (fun hHeld' => ?_)
        clear hK K hHeld; have hHeld := hHeld'; clear hHeld'
        try simp only [Act.put, List.setIfInBounds_toArray, List.set_cons_zero, List.set_cons_succ]
        refine wpAnyH_ready (rs := [4]) (by kernel_rfl) (by simp) ?_
        refine AllReadyH.cons (o := { dst := some 21, op := Op.call { callee := Callee.value (Operand.func 66), args := #[Operand.tmp 20], argTypes := #[61] }, type := 29, pos := "l05_pulses.go:90", after := #[{ on := 3, ground := Ground.data }], guard := none }) rfl (fun K hK => ?_) AllReadyH.nil
        go_simp
        with_reducible refine (KP.out _).mono ?_; rintro e x2 ⟨rfl, hN2⟩
        have pc0 := hN2.cell_at c0
        have pc1 := hN2.cell_at c1
        have pc2 := hN2.cell_at c2
        have pc3 := hN2.cell_at c3
        have pc4 := hN2.cell_at c4
        have pc5 := hN2.cell_at c5
        have pc6 := hN2.cell_at c6
        have pz0 := hN2.frozen_at hsz z0
        have pz1 := hN2.frozen_at hsz z1
        have pz2 := hN2.frozen_at hsz z2
        have pz3 := hN2.frozen_at hsz z3
        have ps := hN2.size
        refine hK.out _ _ (by refine ⟨?_, ?_, ?_⟩ <;> (first | (with_reducible assumption) | (go_simp; done))) (fun hHeld' => ?_)
        clear hK K hHeld; have hHeld := hHeld'; clear hHeld'
        try simp only [Act.put, List.setIfInBounds_toArray, List.set_cons_zero, List.set_cons_succ]
        refine wpAnyH_ready (rs := [6]) (by kernel_rfl) (by simp) ?_
        refine AllReadyH.cons (o := { dst := some 23, op := Op.call { callee := Callee.value (Operand.func 65), args := #[Operand.tmp 21, Operand.tmp 22], argTypes := #[29, 29] }, type := 29, pos := "l05_pulses.go:90", after := #[{ on := 4, ground := Ground.data }, { on := 5, ground := Ground.data }, { on := 4, ground := Ground.chain }], guard := none }) rfl (fun K hK => ?_) AllReadyH.nil
        go_simp
        with_reducible refine (KT.out _).mono ?_; rintro e x3 ⟨rfl, hN3⟩
        have qc0 := hN3.cell_at pc0
        have qc1 := hN3.cell_at pc1
        have qc2 := hN3.cell_at pc2
        have qc3 := hN3.cell_at pc3
        have qc4 := hN3.cell_at pc4
        have qc5 := hN3.cell_at pc5
        have qc6 := hN3.cell_at pc6
        have qz0 := hN3.frozen_at (Nat.lt_of_lt_of_le (show w1.heap.size < wr.drew.heap.size from hsz) hN2.size) pz0
        have qz1 := hN3.frozen_at (Nat.lt_of_lt_of_le (show w1.heap.size < wr.drew.heap.size from hsz) hN2.size) pz1
        have qz2 := hN3.frozen_at (Nat.lt_of_lt_of_le (show w1.heap.size < wr.drew.heap.size from hsz) hN2.size) pz2
        have qz3 := hN3.frozen_at (Nat.lt_of_lt_of_le (show w1.heap.size < wr.drew.heap.size from hsz) hN2.size) pz3
        have qs := hN3.size
        refine hK.out _ _ (by refine ⟨?_, ?_, ?_⟩ <;> (first | (with_reducible assumption) | (go_simp; done))) (fun hHeld' => ?_)
        clear hK K hHeld; have hHeld := hHeld'; clear hHeld'
        try simp only [Act.put, List.setIfInBounds_toArray, List.set_cons_zero, List.set_cons_succ]
        refine wpAnyH_ready (rs := [7]) (by kernel_rfl) (by simp) ?_
        refine AllReadyH.cons (o := { dst := none, op := Op.store 29 (Operand.tmp 6) (Operand.tmp 23), type := 0, pos := "l05_pulses.go:90", after := #[{ on := 6, ground := Ground.data }, { on := 6, ground := Ground.chain }, { on := 0, ground := Ground.phase }, { on := 1, ground := Ground.phase }, { on := 2, ground := Ground.phase }, { on := 3, ground := Ground.phase }, { on := 4, ground := Ground.phase }, { on := 5, ground := Ground.phase }, { on := 6, ground := Ground.phase }], guard := none }) rfl (fun K hK => ?_) AllReadyH.nil
        go_simp
        refine hK.out _ _ (by refine ⟨?_, ?_, ?_⟩ <;> (first | (with_reducible assumption) | (go_simp; done))) (fun hHeld' => ?_)
        clear hK K hHeld; have hHeld := hHeld'; clear hHeld'
        try simp only [Act.put, List.setIfInBounds_toArray, List.set_cons_zero, List.set_cons_succ]
        refine wpAnyH_done (by kernel_rfl) ?_ _
        go_wp2_with fail
        with_reducible refine (KI.out _).mono ?_; rintro e x4 ⟨rfl, hN4⟩
        have e0 := hN4.cell_at (k := w1.heap.size) (o := 0) (v := .complex .f32 t2.a0 t2.a1) (by go_simp)
        have e1 := hN4.cell_at (k := w1.heap.size) (o := 1) (v := .complex .f32 t2.b0 t2.b1) (by go_simp)
        have e2 := hN4.cell_at (k := w1.heap.size) (o := 2) (v := .complex .f32 t2.c0 t2.c1) (by go_simp)
        have e3 := hN4.cell_at (k := w1.heap.size) (o := 3) (v := .complex .f32 t2.d0 t2.d1) (by go_simp)
        have hlt3 : w1.heap.size < x3.heap.size := Nat.lt_of_lt_of_le (Nat.lt_of_lt_of_le (show w1.heap.size < wr.drew.heap.size from hsz) hN2.size) hN3.size
        have y0 := hN4.frozen_at (k := w1.heap.size) (o := 0) (by simpa using hlt3) (by go_simp)
        have y1 := hN4.frozen_at (k := w1.heap.size) (o := 1) (by simpa using hlt3) (by go_simp)
        have y2 := hN4.frozen_at (k := w1.heap.size) (o := 2) (by simpa using hlt3) (by go_simp)
        have y3 := hN4.frozen_at (k := w1.heap.size) (o := 3) (by simpa using hlt3) (by go_simp)
        have hlt4 : w1.heap.size < x4.heap.size := Nat.lt_of_lt_of_le (show w1.heap.size < _ by simpa using hlt3) hN4.size
        have hnew := hid ((New.set4 ((hNr.drew.trans hN2).trans hN3) (Nat.le_refl _) (.complex .f32 t2.a0 t2.a1) (.complex .f32 t2.b0 t2.b1) (.complex .f32 t2.c0 t2.c1) (.complex .f32 t2.d0 t2.d1)).trans hN4)
        go_wp2_with fail
        go_roundw
        case rel => exact ⟨k + 1, t2, by omega, by go_num, HL2, HM2, ⟨e0, e1, e2, e3⟩, ⟨y0, y1, y2, y3⟩, hlt4, hnew.out⟩
        case measure => simp [intOf]; omega
    · have hk' : k = ps.length := by omega
      subst hk'
      have hkn : ¬ ((ps.length : Int) < (ps.length : Int)) := by omega
      have eR : t = R := by
        have := HM.out
        rw [List.drop_eq_nil_of_le (by simp)] at this
        exact this
      have HE := hid eR
      clear eR
      have j0 := hNr.cell_at i0.out
      have j1 := hNr.cell_at i1.out
      have j2 := hNr.cell_at i2.out
      have j3 := hNr.cell_at i3.out
      have g0 := hNr.frozen_at (by omega) f0.out
      have g1 := hNr.frozen_at (by omega) f1.out
      have g2 := hNr.frozen_at (by omega) f2.out
      have g3 := hNr.frozen_at (by omega) f3.out
      go_wp2
      refine bodyPost_ret (v := .tuple #[t.val, .int .i64 0]) (by simp [results, Tryz.results45, go_sem, j0, j1, j2, j3]) rfl ⟨by rw [HE.out], ?_⟩
      exact New.set4 ((((New.refl w).alloc _).trans hN).trans hNr) (Nat.le_refl _) _ _ _ _
end Go.Proofs.YtmbjomjpnfnbkaaGreat
