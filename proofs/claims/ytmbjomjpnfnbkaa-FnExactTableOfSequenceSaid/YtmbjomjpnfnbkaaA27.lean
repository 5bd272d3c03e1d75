/-
  Walk of the program's tables of the beginnings of a sequence.
-/
import Derived.Test.YtmbjomjpnfnbkaaA26
import Derived.Test.YtmbjomjpnfnbkaaA9
import Derived.Test.YtmbjomjpnfnbkaaR0
import Derived.Deep.CutRange
set_option linter.unusedSimpArgs false
set_option linter.unusedVariables false

namespace Go.Proofs.Ytmbjomjpnfnbkaa
open Go.RowKit Flt

/-- A table's cells. -/
def q4 (t : C8) : List Value := [.complex .f32 t.a0 t.a1, .complex .f32 t.b0 t.b1, .complex .f32 t.c0 t.c1, .complex .f32 t.d0 t.d1]
theorem nz_unit : nz unitS = ⟨0, 1065353216, 0, 0, 0, 0, 0, 1065353216, 0⟩ := by
  have e0 : zn 0 = 0 := rfl
  unfold nz unitS tabS
  have e1 : zn (ng 0) = 0 := by decide +kernel
  have e2 : zn 1065353216 = 1065353216 := by decide +kernel
  simp only [e1, e2, e0]
theorem own_last {w : World} {base e g n cap k : Nat} {ys : List Value} {t : C8} (h : w.ownsRow base e 4 (.slice (some ⟨g, 0, none⟩) n cap) n (ys ++ q4 t)) (hl : ys.length = k * 4) (hk : n = k + 1) :
    w.cell? ⟨g, k * 4, none⟩ = some (.complex .f32 t.a0 t.a1) ∧ w.cell? ⟨g, k * 4 + 1, none⟩ = some (.complex .f32 t.b0 t.b1) ∧ w.cell? ⟨g, k * 4 + 2, none⟩ = some (.complex .f32 t.c0 t.c1) ∧ w.cell? ⟨g, k * 4 + 3, none⟩ = some (.complex .f32 t.d0 t.d1) := by
  have get : ∀ j, j < 4 → (ys ++ q4 t)[k * 4 + j]? = (q4 t)[j]? := fun j hj => by
    rw [List.getElem?_append_right (by omega), hl]; congr 1; omega
  refine ⟨(h.cellAt _ (by omega)).trans (get 0 (by decide)), (h.cellAt _ (by omega)).trans (get 1 (by decide)), (h.cellAt _ (by omega)).trans (get 2 (by decide)), (h.cellAt _ (by omega)).trans (get 3 (by decide))⟩

/-- A block of four zeros that the walk has made. -/
def Zr4 (w0 wx : World) (b p : Nat) : Prop := w0.heap.size ≤ p ∧ p < wx.heap.size ∧ p ≠ b ∧ (∀ o, o < 4 → wx.cell? ⟨p, o, none⟩ = some (.complex .f32 0 0)) ∧ (∀ o, wx.frozen? ⟨p, o, none⟩ = false)
theorem Zr4.ext {w0 wx wy : World} {b p : Nat} {c : Int} (h : Zr4 w0 wx b p) (hE : Ext b c wx wy) : Zr4 w0 wy b p :=
  ⟨h.1, Nat.lt_of_lt_of_le h.2.1 hE.size, h.2.2.1, fun o ho => hE.cell_at (h.2.2.2.1 o ho) h.2.2.1, fun o => hE.frozen_at h.2.1 (h.2.2.2.2 o) h.2.2.1⟩
theorem Zr4.new {w0 wx : World} {b : Nat} (h : w0.heap.size ≤ wx.heap.size) (hb : b < wx.heap.size) : Zr4 w0 (wx.alloc (.cells #[.complex .f32 0 0, .complex .f32 0 0, .complex .f32 0 0, .complex .f32 0 0] 26)) b wx.heap.size :=
  ⟨h, by simp, by omega, fun o ho => by
    match o, ho with
    | 0, _ => go_simp
    | 1, _ => go_simp
    | 2, _ => go_simp
    | 3, _ => go_simp, fun o => by go_simp⟩

theorem infoT : (Try.prog.info? 26).map (fun i => (i.zero, i.size, i.bytes)) = some (some (T4 0 0 0 0 0 0 0 0), 4, 32) := by kernel_rfl

set_option maxHeartbeats 4000000 in
set_option maxRecDepth 20000 in
theorem tables_c (b g cap : Nat) (ps : List PuI) (w : World) (hP : PuHeld w g ps) (hs : seqB ps = true) (hg : g ≠ b) (hA : At b 0 w) :
    Calls Try.prog 150 #[.pointer (some ⟨b, 0, none⟩), .slice (some ⟨g, 0, none⟩) ps.length cap, .int .i64 0] w fun e w' => ∃ u ys, e = .returned u ∧ ys.length = ps.length * 4 ∧ w'.ownsRow w.heap.size 26 4 u (ps.length + 1) (ys ++ q4 (nz (tabL (ps.map PuI.n) unitS))) ∧ Ext b 0 w w' := by
  have HP := hid hP
  have hs2 := hs
  unfold seqB at hs2
  simp only [Bool.and_eq_true, decide_eq_true_eq] at hs2
  have hlen := hs2.2
  have HOK := hid hs2.1
  generalize hR : tabL (ps.map PuI.n) unitS = R
  have HR := hid hR
  clear hR hP hs hs2
  have hlt := hA.lt
  have HU := hid unit_lw
  have NU := hid nz_unit
  generalize unitS = u0 at *
  go_enter Try.func150, Try.ntmps150
  go_wp2_with fail
  with_reducible refine (unit_c _).mono ?_; rintro e w1 ⟨rfl, hN⟩
  have hs1 := hN.size
  go_wp2_with fail
  go_loopw [7, 15] (fun u i wr => ∃ (k : Nat) (ys : List Value) (t : C8), k ≤ ps.length ∧ i = .int .i64 k ∧ Hid (Lw8 (2 * (k : Int)) t) ∧ Hid (tabL ((ps.map PuI.n).drop k) t = R) ∧ Hid (ys.length = k * 4) ∧
    Hid (wr.ownsRow w.heap.size 26 4 u (k + 1) (ys ++ q4 (nz t))) ∧ Ext b 0 w wr) (fun _ i _ => ps.length - (intOf i).toNat)
  case atStart =>
    refine ⟨0, [], u0, Nat.zero_le _, rfl, HU, HR, hid rfl, hid ?_, ((Ext.refl hA).new hN).alloc _⟩
    rw [NU.out]
    exact own_lit1 _ #[.complex .f32 1065353216 0, .complex .f32 0 0, .complex .f32 0 0, .complex .f32 1065353216 0] _ 4 rfl (by omega) rfl
  case round =>
    obtain ⟨k, ys, t, hk, rfl, HL, HM, HY, HO, hX⟩ := hrel
    by_cases hkn : k < ps.length
    · obtain ⟨gr, cr, rfl⟩ : ∃ gr cr, u7 = .slice (some ⟨gr, 0, none⟩) (k + 1) cr := by
        rcases own_forms HO.out with ⟨_, h⟩ | h
        · omega
        · exact h
      obtain ⟨c0, c1, c2⟩ := (HP.out.ext hX hg) k hkn
      obtain ⟨r0, r1, r2, r3⟩ := own_last HO.out HY.out rfl
      have hgr := (HO.out.lt gr rfl).1
      have hgl := (HO.out.lt gr rfl).2
      have hsz := hX.size
      have hkn' : ((k : Int) < (ps.length : Int)) := by omega
      have hki : (k : Int) < (k : Int) + 1 := by omega
      have nb : wr.heap.size ≠ b := by omega
      have ngb : gr ≠ b := by omega
      have nrw : gr ≠ wr.heap.size := by omega
      have nrw' : wr.heap.size ≠ gr := by omega
      have hD := hid (drop_n hkn)
      have hok : (ps.getD k PuI.zero).okB = true := by
        have e : ps.getD k PuI.zero = ps[k] := by simp [List.getD, hkn]
        rw [e]; exact List.all_eq_true.1 HOK.out _ (List.getElem_mem _)
      generalize ps.getD k PuI.zero = p at *
      obtain ⟨ok1, ev⟩ := PuI.ok_n hok
      have KP := hid (fun w hA => tableOf_c b p.n w ok1 hA)
      rw [← ev] at KP
      have lp := pul_lw ok1
      have KT := hid (fun w hA => product_c b 0 (nz (pulS p.n)) (nz t) 0 (2 * (k : Int)) w lp.nz HL.out.nz (by omega) (by omega) hA)
      have hlaw := (product_law (k := 0) (j := 2 * (k : Int)) lp HL.out (by omega) (by omega)).1
      rw [hlaw] at KT
      have hc0 : (nz (productS (pulS p.n) t)).c = 0 := rfl
      rw [hc0] at KT
      have hL2 := product_lw lp HL.out (by omega) (by omega)
      rw [show (2 : Int) * (k : Int) + 2 = 2 * ((k + 1 : Nat) : Int) by omega] at hL2
      have hM2 : tabL ((ps.map PuI.n).drop (k + 1)) (productS (pulS p.n) t) = R := by rw [← HM.out, hD.out]; rfl
      have HL2 := hid hL2
      have HM2 := hid hM2
      clear hok ok1 ev lp hL2 hM2 hlaw hc0
      generalize productS (pulS p.n) t = t2 at *
      generalize nz (pulS p.n) = s at *
      have EN := hid (rfl : nz t = nz t)
      generalize ent : nz t = nt at *
      have ENT := hid ent
      clear ent EN
      generalize ent2 : nz t2 = nt2 at *
      have ENT2 := hid ent2
      clear ent2
      have hAr := hX.at_
      go_wp2_with fail
      have hE0 := (Ext.refl (hAr.alloc (.cells #[.int .i64 p.a, .int .i64 p.k, .bool p.back] 115))).drew
      have pw : wr.heap.size < (wr.alloc (.cells #[.int .i64 p.a, .int .i64 p.k, .bool p.back] 115)).heap.size := by simp
      have HS : ∀ wx, Ext b 0 (wr.alloc (.cells #[.int .i64 p.a, .int .i64 p.k, .bool p.back] 115)) wx → wx.cell? ⟨wr.heap.size, 0, none⟩ = some (.int .i64 p.a) ∧ wx.cell? ⟨wr.heap.size, 1, none⟩ = some (.int .i64 p.k) ∧ wx.cell? ⟨wr.heap.size, 2, none⟩ = some (.bool p.back) ∧ wx.cell? ⟨gr, k * 4, none⟩ = some (.complex .f32 nt.a0 nt.a1) ∧ wx.cell? ⟨gr, k * 4 + 1, none⟩ = some (.complex .f32 nt.b0 nt.b1) ∧ wx.cell? ⟨gr, k * 4 + 2, none⟩ = some (.complex .f32 nt.c0 nt.c1) ∧ wx.cell? ⟨gr, k * 4 + 3, none⟩ = some (.complex .f32 nt.d0 nt.d1) := fun wx hE => ⟨hE.cell_at (by go_simp) nb, hE.cell_at (by go_simp) nb, hE.cell_at (by go_simp) nb, hE.cell_at (by go_simp) ngb, hE.cell_at (by go_simp) ngb, hE.cell_at (by go_simp) ngb, hE.cell_at (by go_simp) ngb⟩
      go_cut [10] from 20 to 28 (fun u wx => ∃ o, u = .pointer (some ⟨o, 0, none⟩) ∧ Hid (wx.cell? ⟨o, 0, none⟩ = some (.complex .f32 nt2.a0 nt2.a1) ∧ wx.cell? ⟨o, 1, none⟩ = some (.complex .f32 nt2.b0 nt2.b1) ∧ wx.cell? ⟨o, 2, none⟩ = some (.complex .f32 nt2.c0 nt2.c1) ∧ wx.cell? ⟨o, 3, none⟩ = some (.complex .f32 nt2.d0 nt2.d1)) ∧ Ext b 0 wr wx)
      case first =>
        refine wp_region_held_drew (S := fun wx => wx.cell? ⟨wr.heap.size, 0, none⟩ = some (.int .i64 p.a) ∧ wx.cell? ⟨wr.heap.size, 1, none⟩ = some (.int .i64 p.k) ∧ wx.cell? ⟨wr.heap.size, 2, none⟩ = some (.bool p.back) ∧ wx.cell? ⟨gr, k * 4, none⟩ = some (.complex .f32 nt.a0 nt.a1) ∧ wx.cell? ⟨gr, k * 4 + 1, none⟩ = some (.complex .f32 nt.b0 nt.b1) ∧ wx.cell? ⟨gr, k * 4 + 2, none⟩ = some (.complex .f32 nt.c0 nt.c1) ∧ wx.cell? ⟨gr, k * 4 + 3, none⟩ = some (.complex .f32 nt.d0 nt.d1)) (by kernel_rfl) (HS _ hE0) (fun hHeld => ?_)
        refine wpAnyH_take (i := 0) (oi := { dst := some 20, op := Op.move (Operand.tmp 0), type := 81, pos := "l05_pulses.go:101", after := #[], guard := none }) (v := ?_) rfl (by kernel_rfl) (by kernel_rfl) (by kernel_rfl) (fun _ _ _ h => h) (Or.inl ⟨by rfl, ?_⟩) (by assumption) ?_
        rotate_left
        · intro wq hSw; (try dsimp only at hSw); go_simp; try (with_reducible rfl)
        try simp only [Act.put, List.setIfInBounds_toArray, List.set_cons_zero, List.set_cons_succ]
        refine wpAnyH_take (i := 1) (oi := { dst := some 21, op := Op.move (Operand.tmp 0), type := 81, pos := "l05_pulses.go:101", after := #[], guard := none }) (v := ?_) rfl (by kernel_rfl) (by kernel_rfl) (by kernel_rfl) (fun _ _ _ h => h) (Or.inl ⟨by rfl, ?_⟩) (by assumption) ?_
        rotate_left
        · intro wq hSw; (try dsimp only at hSw); go_simp; try (with_reducible rfl)
        try simp only [Act.put, List.setIfInBounds_toArray, List.set_cons_zero, List.set_cons_succ]
        refine wpAnyH_take (i := 2) (oi := { dst := some 22, op := Op.load 115 (Operand.tmp 9), type := 115, pos := "l05_pulses.go:101", after := #[], guard := none }) (v := ?_) rfl (by kernel_rfl) (by kernel_rfl) (by kernel_rfl) (fun _ _ _ h => h) (Or.inl ⟨by rfl, ?_⟩) (by assumption) ?_
        rotate_left
        · intro wq hSw; (try dsimp only at hSw); go_simp; try (with_reducible rfl)
        try simp only [Act.put, List.setIfInBounds_toArray, List.set_cons_zero, List.set_cons_succ]
        refine wpAnyH_take (i := 4) (oi := { dst := some 24, op := Op.move (Operand.tmp 7), type := 135, pos := "l05_pulses.go:101", after := #[], guard := none }) (v := ?_) rfl (by kernel_rfl) (by kernel_rfl) (by kernel_rfl) (fun _ _ _ h => h) (Or.inl ⟨by rfl, ?_⟩) (by assumption) ?_
        rotate_left
        · intro wq hSw; (try dsimp only at hSw); go_simp; try (with_reducible rfl)
        try simp only [Act.put, List.setIfInBounds_toArray, List.set_cons_zero, List.set_cons_succ]
        refine wpAnyH_take (i := 5) (oi := { dst := some 25, op := Op.move (Operand.tmp 8), type := 3, pos := "l05_pulses.go:101", after := #[], guard := none }) (v := ?_) rfl (by kernel_rfl) (by kernel_rfl) (by kernel_rfl) (fun _ _ _ h => h) (Or.inl ⟨by rfl, ?_⟩) (by assumption) ?_
        rotate_left
        · intro wq hSw; (try dsimp only at hSw); go_simp; try (with_reducible rfl)
        try simp only [Act.put, List.setIfInBounds_toArray, List.set_cons_zero, List.set_cons_succ]
        refine wpAnyH_take (i := 6) (oi := { dst := some 26, op := Op.indexAddr 135 (Operand.tmp 24) (Operand.tmp 25), type := 0, pos := "l05_pulses.go:101", after := #[{ on := 4, ground := Ground.data }, { on := 5, ground := Ground.data }], guard := none }) (v := ?_) rfl (by kernel_rfl) (by kernel_rfl) (by kernel_rfl) (fun _ _ _ h => h) (Or.inl ⟨by rfl, ?_⟩) (by assumption) ?_
        rotate_left
        · intro wq hSw; (try dsimp only at hSw); go_simp; try (with_reducible rfl)
        try simp only [Act.put, List.setIfInBounds_toArray, List.set_cons_zero, List.set_cons_succ]
        refine wpAnyH_take (i := 7) (oi := { dst := some 27, op := Op.load 26 (Operand.tmp 26), type := 26, pos := "l05_pulses.go:101", after := #[{ on := 6, ground := Ground.data }], guard := none }) (v := ?_) rfl (by kernel_rfl) (by kernel_rfl) (by kernel_rfl) (fun _ _ _ h => h) (Or.inl ⟨by rfl, ?_⟩) (by assumption) ?_
        rotate_left
        · intro wq hSw; (try dsimp only at hSw); go_simp; try (with_reducible rfl)
        try simp only [Act.put, List.setIfInBounds_toArray, List.set_cons_zero, List.set_cons_succ]
        refine two_one' (n := 1) 3 8 9 ({ dst := some 23, op := Op.call { callee := Callee.value (Operand.func 180), args := #[Operand.tmp 21, Operand.tmp 22], argTypes := #[81, 115] }, type := 26, pos := "l05_pulses.go:101", after := #[{ on := 1, ground := Ground.data }, { on := 2, ground := Ground.data }], guard := none }) ({ dst := some 28, op := Op.call { callee := Callee.value (Operand.func 87), args := #[Operand.tmp 20, Operand.tmp 23, Operand.tmp 27], argTypes := #[81, 26, 26] }, type := 26, pos := "l05_pulses.go:101", after := #[{ on := 0, ground := Ground.data }, { on := 3, ground := Ground.data }, { on := 7, ground := Ground.data }, { on := 3, ground := Ground.chain }], guard := none }) ({ dst := some 10, op := Op.alloc 26, type := 0, pos := "l05_pulses.go:101", after := #[], guard := none }) (fun c1 c2 d => #[true, true, true, c1, true, true, true, true, c2, d, false]) (fun c1 c2 d a wx => ∃ v10 v23 v28 : Value, a = ⟨#[Value.pointer (some { block := b, off := 0 }), Value.slice (some { block := g, off := 0 }) ps.length cap, Value.int IntKind.i64 0, undef, undef, undef, Value.slice none 0 0, Value.slice (some { block := gr, off := 0 }) (k + 1) cr, Value.int IntKind.i64 ↑k, Value.pointer (some { block := wr.heap.size, off := 0 }), v10, T4 1065353216 0 0 0 0 0 1065353216 0, Value.slice (some { block := w1.heap.size, off := 0 }) 1 1, Value.slice (some { block := g, off := 0 }) ps.length cap, Value.int IntKind.i64 ↑ps.length, Value.int IntKind.i64 ↑k, Value.bool true, Value.int IntKind.i64 ↑k, Value.pointer (some { block := g, off := k * 3 }), Value.agg #[Value.int IntKind.i64 p.a, Value.int IntKind.i64 p.k, Value.bool p.back], Value.pointer (some { block := b, off := 0 }), Value.pointer (some { block := b, off := 0 }), Value.agg #[Value.int IntKind.i64 p.a, Value.int IntKind.i64 p.k, Value.bool p.back], v23, Value.slice (some { block := gr, off := 0 }) (k + 1) cr, Value.int IntKind.i64 ↑k, Value.pointer (some { block := gr, off := k * 4 }), Value.agg #[Value.complex FloatKind.f32 nt.a0 nt.a1, Value.complex FloatKind.f32 nt.b0 nt.b1, Value.complex FloatKind.f32 nt.c0 nt.c1, Value.complex FloatKind.f32 nt.d0 nt.d1], v28, u29, u30, u31, u32, u33, u34, u35, u36, u37, u38, u39, u40, u41, u42, u43, u44, u45, undef], []⟩ ∧ Ext b 0 (wr.alloc (.cells #[.int .i64 p.a, .int .i64 p.k, .bool p.back] 115)) wx ∧ (c1 = true → v23 = s.val) ∧ (c2 = true → v28 = nt2.val) ∧ (d = true → ∃ o, v10 = .pointer (some ⟨o, 0, none⟩) ∧ Zr4 (wr.alloc (.cells #[.int .i64 p.a, .int .i64 p.k, .bool p.back] 115)) wx b o)) rfl rfl ?hr ?l1 ?l2 ?m1 rfl rfl rfl ?s1 ?s2 ?t1 ?e ⟨_, _, _, rfl, hE0, (fun h => nomatch h), (fun h => nomatch h), (fun h => nomatch h)⟩
        case hr =>
          intro c1 c2 d h1 h3
          cases c1 <;> cases c2 <;> (first | (exact absurd (h1 rfl) (by decide)) | skip) <;> cases d <;> first | (exact absurd rfl h3) | kernel_rfl
        case l1 => intro c2 d; rfl
        case l2 => intro c1 d; rfl
        case m1 => intro c1 c2; rfl
        case s1 =>
          intro d a wx hI K hK
          obtain ⟨v10, v23, v28, rfl, hE, e1, e2, hG⟩ := hI
          have hAx := hE.at_
          go_simp
          go_at_call 180
          with_reducible refine (KP.out _ hAx).mono ?_; rintro e wA ⟨rfl, hEA⟩
          try simp only [Act.put, List.setIfInBounds_toArray, List.set_cons_zero, List.set_cons_succ]
          refine hK.out _ _ (HS _ (Ext.trans hE hEA)) ⟨v10, _, v28, rfl, Ext.trans hE hEA, fun _ => rfl, e2, fun e => (hG e).imp fun _ h => ⟨h.1, h.2.ext hEA⟩⟩
        case s2 =>
          intro d a wx hI K hK
          obtain ⟨v10, v23, v28, rfl, hE, e1, e2, hG⟩ := hI
          obtain rfl := e1 rfl
          have hAx := hE.at_
          go_simp
          go_at_call 87
          with_reducible refine (KT.out _ hAx).mono ?_; rintro e wA ⟨rfl, hEA⟩
          try simp only [Act.put, List.setIfInBounds_toArray, List.set_cons_zero, List.set_cons_succ]
          refine hK.out _ _ (HS _ (Ext.trans hE hEA)) ⟨v10, _, _, rfl, Ext.trans hE hEA, fun _ => rfl, fun _ => rfl, fun e => (hG e).imp fun _ h => ⟨h.1, h.2.ext hEA⟩⟩
        case t1 =>
          intro c1 c2 a wx hI K hK
          obtain ⟨v10, v23, v28, rfl, hE, e1, e2, hG⟩ := hI
          go_simp
          try simp only [Act.put, List.setIfInBounds_toArray, List.set_cons_zero, List.set_cons_succ]
          refine hK.out _ _ (HS _ (hE.alloc _)) ⟨_, v23, v28, rfl, hE.alloc _, e1, e2, fun _ => ⟨_, rfl, Zr4.new hE.size hE.at_.lt⟩⟩
        case e =>
          intro a wx hI
          obtain ⟨v10, v23, v28, rfl, hE, e1, e2, hG⟩ := hI
          obtain ⟨o, rfl, os, ol, ob, oc, of⟩ := hG rfl
          obtain rfl := e1 rfl
          obtain rfl := e2 rfl
          have oc0 := oc 0 (by decide); have oc1 := oc 1 (by decide); have oc2 := oc 2 (by decide); have oc3 := oc 3 (by decide)
          obtain ⟨x0, x1, x2, x3, x4, x5, x6⟩ := HS _ hE
          simp at os
          have no1 : wr.heap.size ≠ o := by omega
          have no2 : gr ≠ o := by omega
          have no1' : o ≠ wr.heap.size := by omega
          have no2' : o ≠ gr := by omega
          have hh := hid (Ext.trans ((Ext.refl hAr).alloc (.cells #[.int .i64 p.a, .int .i64 p.k, .bool p.back] 115)) hE)
          clear e1 e2 oc hE HS
          refine wpAnyH_ready (rs := [10]) (by kernel_rfl) (by simp) ?_
          refine AllReadyH.cons (o := { dst := none, op := Op.store 26 (Operand.tmp 10) (Operand.tmp 28), type := 0, pos := "l05_pulses.go:101", after := #[{ on := 9, ground := Ground.data }, { on := 8, ground := Ground.data }, { on := 8, ground := Ground.chain }, { on := 0, ground := Ground.phase }, { on := 1, ground := Ground.phase }, { on := 2, ground := Ground.phase }, { on := 3, ground := Ground.phase }, { on := 4, ground := Ground.phase }, { on := 5, ground := Ground.phase }, { on := 6, ground := Ground.phase }, { on := 7, ground := Ground.phase }, { on := 8, ground := Ground.phase }, { on := 9, ground := Ground.phase }], guard := none }) rfl (fun K hK => ?_) AllReadyH.nil
          go_simp
          refine hK.out _ _ (by refine ⟨?_, ?_, ?_, ?_, ?_, ?_, ?_⟩ <;> (go_simp; done)) (fun hHeld => ?_)
          clear hK K
          try simp only [Act.put, List.setIfInBounds_toArray, List.set_cons_zero, List.set_cons_succ]
          refine wpAnyH_done (by kernel_rfl) ?_ _
          go_wp2_with fail
          go_meet
          refine ⟨o, rfl, ⟨by go_simp, by go_simp, by go_simp, by go_simp⟩, ?_⟩
          exact Ext.set4 hh.out (by omega) ob _ _ _ _
      case rest =>
        obtain ⟨o, rfl, HB, hXo⟩ := hcut
        obtain ⟨o0, o1, o2, o3⟩ := HB.out
        have HOx := hid (own_ext HO.out hlt hXo)
        obtain ⟨i0, hi, hz0, hz1, hz2⟩ := info_parts infoT
        have hsc := hXo.size
        go_wp2_with (at_builtin; refine wpList_append_own _ rfl _ _ 135 rfl w.heap.size 26 i0 (T4 0 0 0 0 0 0 0 0) 4 32 Try.underlying135 hi hz0 hz1 hz2 rfl (by decide) _ _ _ rfl (HOx.out.alloc _) ⟨_, 0, none⟩ 1 1 (q4 nt2) rfl rfl ?c1 ?c2 ?c3 ?c4 ?c5 ?_)
        case c1 => exact new_cells _ #[.complex .f32 nt2.a0 nt2.a1, .complex .f32 nt2.b0 nt2.b1, .complex .f32 nt2.c0 nt2.c1, .complex .f32 nt2.d0 nt2.d1] _ rfl
        case c2 => intro u hu; simp [q4] at hu; rcases hu with rfl | rfl | rfl | rfl <;> rfl
        case c3 => unfold maxLen; omega
        case c4 => omega
        case c5 => simp; omega
        intro v' w2 hown' hgrow hnil
        have hX1 := hid (Ext.grew ((hX.trans hXo).alloc (.cells #[.complex .f32 nt2.a0 nt2.a1, .complex .f32 nt2.b0 nt2.b1, .complex .f32 nt2.c0 nt2.c1, .complex .f32 nt2.d0 nt2.d1] 26)) (HOx.out.alloc _) hgrow hlt (Nat.le_refl _))
        have hown1 := hid hown'
        have hYl := hid (show (ys ++ q4 nt).length = (k + 1) * 4 by rw [List.length_append, HY.out]; show k * 4 + 4 = _; omega)
        clear hown' hgrow hnil HOx HO HM HB
        go_wp2_with fail
        go_roundw
        case rel => exact ⟨k + 1, ys ++ q4 nt, t2, by omega, by go_num, HL2, HM2, hYl, hid (by rw [ENT2.out, List.append_assoc]; exact hown1.out), hX1.out⟩
        case measure => simp [intOf]; omega
    · have hk' : k = ps.length := by omega
      subst hk'
      have hkn' : ¬ ((ps.length : Int) < (ps.length : Int)) := by omega
      have eR : t = R := by
        have := HM.out
        rw [List.drop_eq_nil_of_le (by simp)] at this
        exact this
      have HE := hid eR
      clear eR
      go_wp2
      go_ret
      exact ⟨_, rfl, ys, HY.out, by rw [← HE.out]; exact HO.out, hX⟩
end Go.Proofs.Ytmbjomjpnfnbkaa
