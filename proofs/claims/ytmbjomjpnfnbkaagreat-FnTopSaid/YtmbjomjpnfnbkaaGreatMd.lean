/-
  Walks of the program's TableOfSequence at any offset.
-/
import Derived.Test.YtmbjomjpnfnbkaaGreatA26
import Derived.Test.YtmbjomjpnfnbkaaGreatA9
import Derived.Test.YtmbjomjpnfnbkaaGreatR0
import Derived.Deep.CutRange
import Derived.Test.YtmbjomjpnfnbkaaGreatA7
import Derived.Test.YtmbjomjpnfnbkaaGreatA8
import Derived.Test.YtmbjomjpnfnbkaaGreatD23
set_option linter.unusedSimpArgs false
set_option linter.unusedVariables false
namespace Go.Proofs.YtmbjomjpnfnbkaaGreat
open Go.RowKit Flt

/-- A list of pulses that stands in memory from an offset on. -/
def PuHo (w : World) (g o : Nat) (ps : List PuI) : Prop :=
  ∀ j, j < ps.length → w.cell? ⟨g, o + j * 3, none⟩ = some (.int .i64 (ps.getD j PuI.zero).a) ∧ w.cell? ⟨g, o + j * 3 + 1, none⟩ = some (.int .i64 (ps.getD j PuI.zero).k) ∧ w.cell? ⟨g, o + j * 3 + 2, none⟩ = some (.bool (ps.getD j PuI.zero).back)
theorem PuHo.new {w w' : World} {g o : Nat} {ps : List PuI} (h : PuHo w g o ps) (hN : New w w') : PuHo w' g o ps :=
  fun j hj => ⟨hN.cell_at (h j hj).1, hN.cell_at (h j hj).2.1, hN.cell_at (h j hj).2.2⟩
theorem PuHo.ext {b : Nat} {c : Int} {w w' : World} {g o : Nat} {ps : List PuI} (h : PuHo w g o ps) (hE : Ext b c w w') (hb : g ≠ b) : PuHo w' g o ps :=
  fun j hj => ⟨hE.cell_at (h j hj).1 hb, hE.cell_at (h j hj).2.1 hb, hE.cell_at (h j hj).2.2 hb⟩
theorem PuHeld.o {w : World} {g : Nat} {ps : List PuI} (h : PuHeld w g ps) : PuHo w g 0 ps := fun j hj => by simpa using h j hj

/-- A table's cells. -/
def q4 (t : C8) : List Value := [.complex .f32 t.a0 t.a1, .complex .f32 t.b0 t.b1, .complex .f32 t.c0 t.c1, .complex .f32 t.d0 t.d1]
theorem nz_unit : nz unitS = ⟨0, 1065353216, 0, 0, 0, 0, 0, 1065353216, 0⟩ := by
  have e0 : zn 0 = 0 := rfl
  unfold nz unitS tabS
  have e1 : zn (ng 0) = 0 := by decide +kernel
  have e2 : zn 1065353216 = 1065353216 := by decide +kernel
  simp only [e1, e2, e0]
theorem own_last {w : World} {base e g n cap k : Nat} {ys : List Value} {t : C8} (h : w.ownsRow base e 4 (.slice (some ⟨g, 0, none⟩) n cap) n (ys ++ q4 t)) (hl : ys.length = k * 4) (hk : n = k + 1) :
    w.cell? ⟨g, k * 4, none⟩ = some (.complex .f32 t.a0 t.a1) ∧ w.cell? ⟨g, k * 4 + 1, none⟩ = some (.complex .f32 t.b0 t.b1) ∧ w.cell? ⟨g, k * 4 + 2, none⟩ = some (.complex .f32 t.c0 t.c1) ∧ w.cell? ⟨g, k * 4 + 3, none⟩ = some (.complex .f32 t.d0 t.d1) := by
  have get : ∀ j, j < 4 → (ys ++ q4 t)[k * 4 + j]? = (q4 t)[j]? := fun j hj => by
    rw [List.getElem?_append_right (by omega), hl]; congr 1; omega
  refine ⟨(h.cellAt _ (by omega)).trans (get 0 (by decide)), (h.cellAt _ (by omega)).trans (get 1 (by decide)), (h.cellAt _ (by omega)).trans (get 2 (by decide)), (h.cellAt _ (by omega)).trans (get 3 (by decide))⟩

/-- A block of four zeros that the walk has made. -/
def Zr4 (w0 wx : World) (b p : Nat) : Prop := w0.heap.size ≤ p ∧ p < wx.heap.size ∧ p ≠ b ∧ (∀ o, o < 4 → wx.cell? ⟨p, o, none⟩ = some (.complex .f32 0 0)) ∧ (∀ o, wx.frozen? ⟨p, o, none⟩ = false)
theorem Zr4.ext {w0 wx wy : World} {b p : Nat} {c : Int} (h : Zr4 w0 wx b p) (hE : Ext b c wx wy) : Zr4 w0 wy b p :=
  ⟨h.1, Nat.lt_of_lt_of_le h.2.1 hE.size, h.2.2.1, fun o ho => hE.cell_at (h.2.2.2.1 o ho) h.2.2.1, fun o => hE.frozen_at h.2.1 (h.2.2.2.2 o) h.2.2.1⟩
theorem Zr4.new {w0 wx : World} {b : Nat} (h : w0.heap.size ≤ wx.heap.size) (hb : b < wx.heap.size) : Zr4 w0 (wx.alloc (.cells #[.complex .f32 0 0, .complex .f32 0 0, .complex .f32 0 0, .complex .f32 0 0] 29)) b wx.heap.size :=
  ⟨h, by simp, by omega, fun o ho => by
    match o, ho with
    | 0, _ => go_simp
    | 1, _ => go_simp
    | 2, _ => go_simp
    | 3, _ => go_simp, fun o => by go_simp⟩

theorem infoT : (Tryz.prog.info? 29).map (fun i => (i.zero, i.size, i.bytes)) = some (some (T4 0 0 0 0 0 0 0 0), 4, 32) := by kernel_rfl

set_option maxHeartbeats 4000000 in
set_option maxRecDepth 20000 in
theorem tables_c (b g o cap : Nat) (ps : List PuI) (w : World) (hP : PuHo w g o ps) (hs : seqB ps = true) (hg : g ≠ b) (hA : At b 0 w) :
    Calls Tryz.prog 43 #[.pointer (some ⟨b, 0, none⟩), .slice (some ⟨g, o, none⟩) ps.length cap, .int .i64 0] w fun e w' => ∃ u ys, e = .returned u ∧ ys.length = ps.length * 4 ∧ w'.ownsRow w.heap.size 29 4 u (ps.length + 1) (ys ++ q4 (nz (tabL (ps.map PuI.n) unitS))) ∧ Ext b 0 w w' := by
  have HP := hid hP
  have hs2 := hs
  unfold seqB at hs2
  simp only [Bool.and_eq_true, decide_eq_true_eq] at hs2
  have hlen := hs2.2
  have HOK := hid hs2.1
  generalize hR : tabL (ps.map PuI.n) unitS = R
  have HR := hid hR
  clear hR hP hs hs2
  have hlt := hA.lt
  have HU := hid unit_lw
  have NU := hid nz_unit
  generalize unitS = u0 at *
  go_enter Tryz.func43, Tryz.ntmps43
  go_wp2_with fail
  with_reducible refine (unit_c _).mono ?_; rintro e w1 ⟨rfl, hN⟩
  have hs1 := hN.size
  go_wp2_with fail
  go_loopw [7, 15] (fun u i wr => ∃ (k : Nat) (ys : List Value) (t : C8), k ≤ ps.length ∧ i = .int .i64 k ∧ Hid (Lw8 (2 * (k : Int)) t) ∧ Hid (tabL ((ps.map PuI.n).drop k) t = R) ∧ Hid (ys.length = k * 4) ∧
    Hid (wr.ownsRow w.heap.size 29 4 u (k + 1) (ys ++ q4 (nz t))) ∧ Ext b 0 w wr) (fun _ i _ => ps.length - (intOf i).toNat)
  case atStart =>
    refine ⟨0, [], u0, Nat.zero_le _, rfl, HU, HR, hid rfl, hid ?_, ((Ext.refl hA).new hN).alloc _⟩
    rw [NU.out]
    exact own_lit1 _ #[.complex .f32 1065353216 0, .complex .f32 0 0, .complex .f32 0 0, .complex .f32 1065353216 0] _ 4 rfl (by omega) rfl
  case round =>
    obtain ⟨k, ys, t, hk, rfl, HL, HM, HY, HO, hX⟩ := hrel
    by_cases hkn : k < ps.length
    · obtain ⟨gr, cr, rfl⟩ : ∃ gr cr, u7 = .slice (some ⟨gr, 0, none⟩) (k + 1) cr := by
        rcases own_forms HO.out with ⟨_, h⟩ | h
        · omega
        · exact h
      obtain ⟨c0, c1, c2⟩ := (HP.out.ext hX hg) k hkn
      obtain ⟨r0, r1, r2, r3⟩ := own_last HO.out HY.out rfl
      have hgr := (HO.out.lt gr rfl).1
      have hgl := (HO.out.lt gr rfl).2
      have hsz := hX.size
      have hkn' : ((k : Int) < (ps.length : Int)) := by omega
      have hki : (k : Int) < (k : Int) + 1 := by omega
      have nb : wr.heap.size ≠ b := by omega
      have ngb : gr ≠ b := by omega
      have nrw : gr ≠ wr.heap.size := by omega
      have nrw' : wr.heap.size ≠ gr := by omega
      have hD := hid (drop_n hkn)
      have hok : (ps.getD k PuI.zero).okB = true := by
        have e : ps.getD k PuI.zero = ps[k] := by simp [List.getD, hkn]
        rw [e]; exact List.all_eq_true.1 HOK.out _ (List.getElem_mem _)
      generalize ps.getD k PuI.zero = p at *
      obtain ⟨ok1, ev⟩ := PuI.ok_n hok
      have KP := hid (fun w hA => tableOf_c b p.n w ok1 hA)
      rw [← ev] at KP
      have lp := pul_lw ok1
      have KT := hid (fun w hA => product_c b 0 (nz (pulS p.n)) (nz t) 0 (2 * (k : Int)) w lp.nz HL.out.nz (by omega) (by omega) hA)
      have hlaw := (product_law (k := 0) (j := 2 * (k : Int)) lp HL.out (by omega) (by omega)).1
      rw [hlaw] at KT
      have hc0 : (nz (productS (pulS p.n) t)).c = 0 := rfl
      rw [hc0] at KT
      have hL2 := product_lw lp HL.out (by omega) (by omega)
      rw [show (2 : Int) * (k : Int) + 2 = 2 * ((k + 1 : Nat) : Int) by omega] at hL2
      have hM2 : tabL ((ps.map PuI.n).drop (k + 1)) (productS (pulS p.n) t) = R := by rw [← HM.out, hD.out]; rfl
      have HL2 := hid hL2
      have HM2 := hid hM2
      clear hok ok1 ev lp hL2 hM2 hlaw hc0
      generalize productS (pulS p.n) t = t2 at *
      generalize nz (pulS p.n) = s at *
      have EN := hid (rfl : nz t = nz t)
      generalize ent : nz t = nt at *
      have ENT := hid ent
      clear ent EN
      generalize ent2 : nz t2 = nt2 at *
      have ENT2 := hid ent2
      clear ent2
      have hAr := hX.at_
      go_wp2_with fail
      have hE0 := (Ext.refl (hAr.alloc (.cells #[.int .i64 p.a, .int .i64 p.k, .bool p.back] 61))).drew
      have pw : wr.heap.size < (wr.alloc (.cells #[.int .i64 p.a, .int .i64 p.k, .bool p.back] 61)).heap.size := by simp
      have HS : ∀ wx, Ext b 0 (wr.alloc (.cells #[.int .i64 p.a, .int .i64 p.k, .bool p.back] 61)) wx → wx.cell? ⟨wr.heap.size, 0, none⟩ = some (.int .i64 p.a) ∧ wx.cell? ⟨wr.heap.size, 1, none⟩ = some (.int .i64 p.k) ∧ wx.cell? ⟨wr.heap.size, 2, none⟩ = some (.bool p.back) ∧ wx.cell? ⟨gr, k * 4, none⟩ = some (.complex .f32 nt.a0 nt.a1) ∧ wx.cell? ⟨gr, k * 4 + 1, none⟩ = some (.complex .f32 nt.b0 nt.b1) ∧ wx.cell? ⟨gr, k * 4 + 2, none⟩ = some (.complex .f32 nt.c0 nt.c1) ∧ wx.cell? ⟨gr, k * 4 + 3, none⟩ = some (.complex .f32 nt.d0 nt.d1) := fun wx hE => ⟨hE.cell_at (by go_simp) nb, hE.cell_at (by go_simp) nb, hE.cell_at (by go_simp) nb, hE.cell_at (by go_simp) ngb, hE.cell_at (by go_simp) ngb, hE.cell_at (by go_simp) ngb, hE.cell_at (by go_simp) ngb⟩
      go_cut [10] from 20 to 28 (fun u wx => ∃ o, u = .pointer (some ⟨o, 0, none⟩) ∧ Hid (wx.cell? ⟨o, 0, none⟩ = some (.complex .f32 nt2.a0 nt2.a1) ∧ wx.cell? ⟨o, 1, none⟩ = some (.complex .f32 nt2.b0 nt2.b1) ∧ wx.cell? ⟨o, 2, none⟩ = some (.complex .f32 nt2.c0 nt2.c1) ∧ wx.cell? ⟨o, 3, none⟩ = some (.complex .f32 nt2.d0 nt2.d1)) ∧ Ext b 0 wr wx)
      case first =>
        refine wp_region_held_drew (S := fun wx => wx.cell? ⟨wr.heap.size, 0, none⟩ = some (.int .i64 p.a) ∧ wx.cell? ⟨wr.heap.size, 1, none⟩ = some (.int .i64 p.k) ∧ wx.cell? ⟨wr.heap.size, 2, none⟩ = some (.bool p.back) ∧ wx.cell? ⟨gr, k * 4, none⟩ = some (.complex .f32 nt.a0 nt.a1) ∧ wx.cell? ⟨gr, k * 4 + 1, none⟩ = some (.complex .f32 nt.b0 nt.b1) ∧ wx.cell? ⟨gr, k * 4 + 2, none⟩ = some (.complex .f32 nt.c0 nt.c1) ∧ wx.cell? ⟨gr, k * 4 + 3, none⟩ = some (.complex .f32 nt.d0 nt.d1)) (by kernel_rfl) (HS _ hE0) (fun hHeld => ?_)
        refine wpAnyH_take (i := 0) (oi := { dst := some 20, op := Op.move (Operand.tmp 0), type := 53, pos := "l05_pulses.go:101", after := #[], guard := none }) (v := ?_) rfl (by kernel_rfl) (by kernel_rfl) (by kernel_rfl) (fun _ _ _ h => h) (Or.inl ⟨by rfl, ?_⟩) (by assumption) ?_
        rotate_left
        · intro wq hSw; (try dsimp only at hSw); go_simp; try (with_reducible rfl)
        try simp only [Act.put, List.setIfInBounds_toArray, List.set_cons_zero, List.set_cons_succ]
        refine wpAnyH_take (i := 1) (oi := { dst := some 21, op := Op.move (Operand.tmp 0), type := 53, pos := "l05_pulses.go:101", after := #[], guard := none }) (v := ?_) rfl (by kernel_rfl) (by kernel_rfl) (by kernel_rfl) (fun _ _ _ h => h) (Or.inl ⟨by rfl, ?_⟩) (by assumption) ?_
        rotate_left
        · intro wq hSw; (try dsimp only at hSw); go_simp; try (with_reducible rfl)
        try simp only [Act.put, List.setIfInBounds_toArray, List.set_cons_zero, List.set_cons_succ]
        refine wpAnyH_take (i := 2) (oi := { dst := some 22, op := Op.load 61 (Operand.tmp 9), type := 61, pos := "l05_pulses.go:101", after := #[], guard := none }) (v := ?_) rfl (by kernel_rfl) (by kernel_rfl) (by kernel_rfl) (fun _ _ _ h => h) (Or.inl ⟨by rfl, ?_⟩) (by assumption) ?_
        rotate_left
        · intro wq hSw; (try dsimp only at hSw); go_simp; try (with_reducible rfl)
        try simp only [Act.put, List.setIfInBounds_toArray, List.set_cons_zero, List.set_cons_succ]
        refine wpAnyH_take (i := 4) (oi := { dst := some 24, op := Op.move (Operand.tmp 7), type := 84, pos := "l05_pulses.go:101", after := #[], guard := none }) (v := ?_) rfl (by kernel_rfl) (by kernel_rfl) (by kernel_rfl) (fun _ _ _ h => h) (Or.inl ⟨by rfl, ?_⟩) (by assumption) ?_
        rotate_left
        · intro wq hSw; (try dsimp only at hSw); go_simp; try (with_reducible rfl)
        try simp only [Act.put, List.setIfInBounds_toArray, List.set_cons_zero, List.set_cons_succ]
        refine wpAnyH_take (i := 5) (oi := { dst := some 25, op := Op.move (Operand.tmp 8), type := 3, pos := "l05_pulses.go:101", after := #[], guard := none }) (v := ?_) rfl (by kernel_rfl) (by kernel_rfl) (by kernel_rfl) (fun _ _ _ h => h) (Or.inl ⟨by rfl, ?_⟩) (by assumption) ?_
        rotate_left
        · intro wq hSw; (try dsimp only at hSw); go_simp; try (with_reducible rfl)
        try simp only [Act.put, List.setIfInBounds_toArray, List.set_cons_zero, List.set_cons_succ]
        refine wpAnyH_take (i := 6) (oi := { dst := some 26, op := Op.indexAddr 84 (Operand.tmp 24) (Operand.tmp 25), type := 0, pos := "l05_pulses.go:101", after := #[{ on := 4, ground := Ground.data }, { on := 5, ground := Ground.data }], guard := none }) (v := ?_) rfl (by kernel_rfl) (by kernel_rfl) (by kernel_rfl) (fun _ _ _ h => h) (Or.inl ⟨by rfl, ?_⟩) (by assumption) ?_
        rotate_left
        · intro wq hSw; (try dsimp only at hSw); go_simp; try (with_reducible rfl)
        try simp only [Act.put, List.setIfInBounds_toArray, List.set_cons_zero, List.set_cons_succ]
        refine wpAnyH_take (i := 7) (oi := { dst := some 27, op := Op.load 29 (Operand.tmp 26), type := 29, pos := "l05_pulses.go:101", after := #[{ on := 6, ground := Ground.data }], guard := none }) (v := ?_) rfl (by kernel_rfl) (by kernel_rfl) (by kernel_rfl) (fun _ _ _ h => h) (Or.inl ⟨by rfl, ?_⟩) (by assumption) ?_
        rotate_left
        · intro wq hSw; (try dsimp only at hSw); go_simp; try (with_reducible rfl)
        try simp only [Act.put, List.setIfInBounds_toArray, List.set_cons_zero, List.set_cons_succ]
        refine two_one' (n := 1) 3 8 9 ({ dst := some 23, op := Op.call { callee := Callee.value (Operand.func 61), args := #[Operand.tmp 21, Operand.tmp 22], argTypes := #[53, 61] }, type := 29, pos := "l05_pulses.go:101", after := #[{ on := 1, ground := Ground.data }, { on := 2, ground := Ground.data }], guard := none }) ({ dst := some 28, op := Op.call { callee := Callee.value (Operand.func 52), args := #[Operand.tmp 20, Operand.tmp 23, Operand.tmp 27], argTypes := #[53, 29, 29] }, type := 29, pos := "l05_pulses.go:101", after := #[{ on := 0, ground := Ground.data }, { on := 3, ground := Ground.data }, { on := 7, ground := Ground.data }, { on := 3, ground := Ground.chain }], guard := none }) ({ dst := some 10, op := Op.alloc 29, type := 0, pos := "l05_pulses.go:101", after := #[], guard := none }) (fun c1 c2 d => #[true, true, true, c1, true, true, true, true, c2, d, false]) (fun c1 c2 d a wx => ∃ v10 v23 v28 : Value, a = ⟨#[Value.pointer (some { block := b, off := 0 }), Value.slice (some { block := g, off := o }) ps.length cap, Value.int IntKind.i64 0, undef, undef, undef, Value.slice none 0 0, Value.slice (some { block := gr, off := 0 }) (k + 1) cr, Value.int IntKind.i64 ↑k, Value.pointer (some { block := wr.heap.size, off := 0 }), v10, T4 1065353216 0 0 0 0 0 1065353216 0, Value.slice (some { block := w1.heap.size, off := 0 }) 1 1, Value.slice (some { block := g, off := o }) ps.length cap, Value.int IntKind.i64 ↑ps.length, Value.int IntKind.i64 ↑k, Value.bool true, Value.int IntKind.i64 ↑k, Value.pointer (some { block := g, off := o + k * 3 }), Value.agg #[Value.int IntKind.i64 p.a, Value.int IntKind.i64 p.k, Value.bool p.back], Value.pointer (some { block := b, off := 0 }), Value.pointer (some { block := b, off := 0 }), Value.agg #[Value.int IntKind.i64 p.a, Value.int IntKind.i64 p.k, Value.bool p.back], v23, Value.slice (some { block := gr, off := 0 }) (k + 1) cr, Value.int IntKind.i64 ↑k, Value.pointer (some { block := gr, off := k * 4 }), Value.agg #[Value.complex FloatKind.f32 nt.a0 nt.a1, Value.complex FloatKind.f32 nt.b0 nt.b1, Value.complex FloatKind.f32 nt.c0 nt.c1, Value.complex FloatKind.f32 nt.d0 nt.d1], v28, u29, u30, u31, u32, u33, u34, u35, u36, u37, u38, u39, u40, u41, u42, u43, u44, u45, undef], []⟩ ∧ Ext b 0 (wr.alloc (.cells #[.int .i64 p.a, .int .i64 p.k, .bool p.back] 61)) wx ∧ (c1 = true → v23 = s.val) ∧ (c2 = true → v28 = nt2.val) ∧ (d = true → ∃ o, v10 = .pointer (some ⟨o, 0, none⟩) ∧ Zr4 (wr.alloc (.cells #[.int .i64 p.a, .int .i64 p.k, .bool p.back] 61)) wx b o)) rfl rfl ?hr ?l1 ?l2 ?m1 rfl rfl rfl ?s1 ?s2 ?t1 ?e ⟨_, _, _, rfl, hE0, (fun h => nomatch h), (fun h => nomatch h), (fun h => nomatch h)⟩
        case hr =>
          intro c1 c2 d h1 h3
          cases c1 <;> cases c2 <;> (first | (exact absurd (h1 rfl) (by decide)) | skip) <;> cases d <;> first | (exact absurd rfl h3) | kernel_rfl
        case l1 => intro c2 d; rfl
        case l2 => intro c1 d; rfl
        case m1 => intro c1 c2; rfl
        case s1 =>
          intro d a wx hI K hK
          obtain ⟨v10, v23, v28, rfl, hE, e1, e2, hG⟩ := hI
          have hAx := hE.at_
          go_simp
          go_at_call 61
          with_reducible refine (KP.out _ hAx).mono ?_; rintro e wA ⟨rfl, hEA⟩
          try simp only [Act.put, List.setIfInBounds_toArray, List.set_cons_zero, List.set_cons_succ]
          refine hK.out _ _ (HS _ (Ext.trans hE hEA)) ⟨v10, _, v28, rfl, Ext.trans hE hEA, fun _ => rfl, e2, fun e => (hG e).imp fun _ h => ⟨h.1, h.2.ext hEA⟩⟩
        case s2 =>
          intro d a wx hI K hK
          obtain ⟨v10, v23, v28, rfl, hE, e1, e2, hG⟩ := hI
          obtain rfl := e1 rfl
          have hAx := hE.at_
          go_simp
          go_at_call 52
          with_reducible refine (KT.out _ hAx).mono ?_; rintro e wA ⟨rfl, hEA⟩
          try simp only [Act.put, List.setIfInBounds_toArray, List.set_cons_zero, List.set_cons_succ]
          refine hK.out _ _ (HS _ (Ext.trans hE hEA)) ⟨v10, _, _, rfl, Ext.trans hE hEA, fun _ => rfl, fun _ => rfl, fun e => (hG e).imp fun _ h => ⟨h.1, h.2.ext hEA⟩⟩
        case t1 =>
          intro c1 c2 a wx hI K hK
          obtain ⟨v10, v23, v28, rfl, hE, e1, e2, hG⟩ := hI
          go_simp
          try simp only [Act.put, List.setIfInBounds_toArray, List.set_cons_zero, List.set_cons_succ]
          refine hK.out _ _ (HS _ (hE.alloc _)) ⟨_, v23, v28, rfl, hE.alloc _, e1, e2, fun _ => ⟨_, rfl, Zr4.new hE.size hE.at_.lt⟩⟩
        case e =>
          intro a wx hI
          obtain ⟨v10, v23, v28, rfl, hE, e1, e2, hG⟩ := hI
          obtain ⟨o, rfl, os, ol, ob, oc, of⟩ := hG rfl
          obtain rfl := e1 rfl
          obtain rfl := e2 rfl
          have oc0 := oc 0 (by decide); have oc1 := oc 1 (by decide); have oc2 := oc 2 (by decide); have oc3 := oc 3 (by decide)
          obtain ⟨x0, x1, x2, x3, x4, x5, x6⟩ := HS _ hE
          simp at os
          have no1 : wr.heap.size ≠ o := by omega
          have no2 : gr ≠ o := by omega
          have no1' : o ≠ wr.heap.size := by omega
          have no2' : o ≠ gr := by omega
          have hh := hid (Ext.trans ((Ext.refl hAr).alloc (.cells #[.int .i64 p.a, .int .i64 p.k, .bool p.back] 61)) hE)
          clear e1 e2 oc hE HS
          refine wpAnyH_ready (rs := [10]) (by kernel_rfl) (by simp) ?_
          refine AllReadyH.cons (o := { dst := none, op := Op.store 29 (Operand.tmp 10) (Operand.tmp 28), type := 0, pos := "l05_pulses.go:101", after := #[{ on := 9, ground := Ground.data }, { on := 8, ground := Ground.data }, { on := 8, ground := Ground.chain }, { on := 0, ground := Ground.phase }, { on := 1, ground := Ground.phase }, { on := 2, ground := Ground.phase }, { on := 3, ground := Ground.phase }, { on := 4, ground := Ground.phase }, { on := 5, ground := Ground.phase }, { on := 6, ground := Ground.phase }, { on := 7, ground := Ground.phase }, { on := 8, ground := Ground.phase }, { on := 9, ground := Ground.phase }], guard := none }) rfl (fun K hK => ?_) AllReadyH.nil
          go_simp
          refine hK.out _ _ (by refine ⟨?_, ?_, ?_, ?_, ?_, ?_, ?_⟩ <;> (go_simp; done)) (fun hHeld => ?_)
          clear hK K
          try simp only [Act.put, List.setIfInBounds_toArray, List.set_cons_zero, List.set_cons_succ]
          refine wpAnyH_done (by kernel_rfl) ?_ _
          go_wp2_with fail
          go_meet
          refine ⟨o, rfl, ⟨by go_simp, by go_simp, by go_simp, by go_simp⟩, ?_⟩
          exact Ext.set4 hh.out (by omega) ob _ _ _ _
      case rest =>
        obtain ⟨o, rfl, HB, hXo⟩ := hcut
        obtain ⟨o0, o1, o2, o3⟩ := HB.out
        have HOx := hid (own_ext HO.out hlt hXo)
        obtain ⟨i0, hi, hz0, hz1, hz2⟩ := info_parts infoT
        have hsc := hXo.size
        go_wp2_with (at_builtin; refine wpList_append_own _ rfl _ _ 84 rfl w.heap.size 29 i0 (T4 0 0 0 0 0 0 0 0) 4 32 Tryz.underlying84 hi hz0 hz1 hz2 rfl (by decide) _ _ _ rfl (HOx.out.alloc _) ⟨_, 0, none⟩ 1 1 (q4 nt2) rfl rfl ?c1 ?c2 ?c3 ?c4 ?c5 ?_)
        case c1 => exact new_cells _ #[.complex .f32 nt2.a0 nt2.a1, .complex .f32 nt2.b0 nt2.b1, .complex .f32 nt2.c0 nt2.c1, .complex .f32 nt2.d0 nt2.d1] _ rfl
        case c2 => intro u hu; simp [q4] at hu; rcases hu with rfl | rfl | rfl | rfl <;> rfl
        case c3 => unfold maxLen; omega
        case c4 => omega
        case c5 => simp; omega
        intro v' w2 hown' hgrow hnil
        have hX1 := hid (Ext.grew ((hX.trans hXo).alloc (.cells #[.complex .f32 nt2.a0 nt2.a1, .complex .f32 nt2.b0 nt2.b1, .complex .f32 nt2.c0 nt2.c1, .complex .f32 nt2.d0 nt2.d1] 29)) (HOx.out.alloc _) hgrow hlt (Nat.le_refl _))
        have hown1 := hid hown'
        have hYl := hid (show (ys ++ q4 nt).length = (k + 1) * 4 by rw [List.length_append, HY.out]; show k * 4 + 4 = _; omega)
        clear hown' hgrow hnil HOx HO HM HB
        go_wp2_with fail
        go_roundw
        case rel => exact ⟨k + 1, ys ++ q4 nt, t2, by omega, by go_num, HL2, HM2, hYl, hid (by rw [ENT2.out, List.append_assoc]; exact hown1.out), hX1.out⟩
        case measure => simp [intOf]; omega
    · have hk' : k = ps.length := by omega
      subst hk'
      have hkn' : ¬ ((ps.length : Int) < (ps.length : Int)) := by omega
      have eR : t = R := by
        have := HM.out
        rw [List.drop_eq_nil_of_le (by simp)] at this
        exact this
      have HE := hid eR
      clear eR
      go_wp2
      go_ret
      exact ⟨_, rfl, ys, HY.out, by rw [← HE.out]; exact HO.out, hX⟩
end Go.Proofs.YtmbjomjpnfnbkaaGreat

namespace Go.Proofs.YtmbjomjpnfnbkaaGreat
open Go.RowKit Flt

theorem isAxis_c (n : Int) (w : World) : Calls Tryz.prog 58 #[.int .i64 n] w fun e w' => e = .returned (.bool (inB n 0 2)) ∧ w = w' := by
  go_enter Tryz.func58, Tryz.ntmps58
  go_wp2_with fail
  refine (within_c _ _ _ _).mono ?_; rintro e w' ⟨rfl, rfl⟩
  go_wp2
  go_ret; exact ⟨rfl, rfl⟩
theorem isHalvings_c (n : Int) (w : World) : Calls Tryz.prog 59 #[.int .i64 n] w fun e w' => e = .returned (.bool (inB n 0 24)) ∧ w = w' := by
  go_enter Tryz.func59, Tryz.ntmps59
  go_wp2_with fail
  refine (within_c _ _ _ _).mono ?_; rintro e w' ⟨rfl, rfl⟩
  go_wp2
  go_ret; exact ⟨rfl, rfl⟩
theorem isPulse_c (p : PuI) (w : World) : Calls Tryz.prog 42 #[p.val] w fun e w' => e = .returned (.bool p.okB) ∧ New w w' := by
  unfold PuI.okB
  cases h1 : inB p.a 0 2 with
  | false =>
    have H1 := hid h1
    clear h1
    rw [Bool.false_and]
    go_enter Tryz.func42, Tryz.ntmps42
    go_wp2_with fail
    with_reducible refine (isAxis_c _ _).mono ?_; rintro e w' ⟨rfl, rfl⟩; rw [H1.out]
    go_wp2
    go_ret
    exact ⟨rfl, (New.refl w).alloc _⟩
  | true =>
    have H1 := hid h1
    clear h1
    rw [Bool.true_and]
    go_enter Tryz.func42, Tryz.ntmps42
    go_wp2_with fail
    with_reducible refine (isAxis_c _ _).mono ?_; rintro e w' ⟨rfl, rfl⟩; rw [H1.out]
    go_wp2_with fail
    with_reducible refine (isHalvings_c _ _).mono ?_; rintro e w' ⟨rfl, rfl⟩
    go_wp2
    go_ret
    exact ⟨rfl, (New.refl w).alloc _⟩

theorem allPu1_c (p : PuI) (B : Nat) (w : World) (hB : w.cell? ⟨B, 0, none⟩ = some (.func (.func 42) #[] #[])) :
    Calls Tryz.prog 57 #[p.val, .pointer (some ⟨B, 0, none⟩)] w fun e w' => e = .returned (.bool (!p.okB)) ∧ New w w' := by
  have hl := cell_lt hB
  have hn : B ≠ w.heap.size := by omega
  have K := hid (isPulse_c p)
  generalize p.okB = q at *
  go_enter Tryz.func57, Tryz.ntmps57
  go_wp2_with fail
  with_reducible refine (K.out _).mono ?_; rintro e w1 ⟨rfl, hN⟩
  go_wp2
  go_ret
  exact ⟨rfl, ((New.refl w).alloc _).trans hN⟩

def FoundP (ps : List PuI) (w : World) (e : Ending) (w' : World) : Prop := (∃ r : Int, e = .returned (.int .i64 r) ∧ (decide (0 ≤ r)) = !ps.all PuI.okB) ∧ New w w'

set_option maxHeartbeats 1000000 in
theorem indexPu_c (g o cp : Nat) (ps : List PuI) (bx : Nat) (w : World) (hlen : ps.length ≤ 9223372036854775807) (hP : PuHo w g o ps) (hB : w.cell? ⟨bx, 0, none⟩ = some (.func (.func 42) #[] #[])) :
    Calls Tryz.prog 79 #[.slice (some ⟨g, o, none⟩) ps.length cp, .func (.func 57) #[] #[.pointer (some ⟨bx, 0, none⟩)]] w (FoundP ps w) := by
  have HP := hid hP
  have HB := hid hB
  clear hP hB
  go_enter Tryz.func79, Tryz.ntmps79
  go_wp2
  go_loopw [5, 8] (fun i q wr => ∃ k : Nat, k ≤ ps.length ∧ q = .int .i64 k ∧ Hid ((ps.take k).all PuI.okB = true) ∧ New w wr) (fun _ q _ => ps.length - (intOf q).toNat)
  case atStart => exact ⟨0, Nat.zero_le _, rfl, hid rfl, New.refl w⟩
  case round =>
    obtain ⟨k, hk, rfl, hall, hN⟩ := hrel
    by_cases hlt : k < ps.length
    · obtain ⟨c0, c1, c2⟩ := (HP.out.new hN) k hlt
      have hkn : ((k : Int) < (ps.length : Int)) := by omega
      have hT := hid (all_take hlt)
      have hf0 := hid (fun h : (ps.getD k PuI.zero).okB = false => show ps.all PuI.okB = false by
        rw [List.all_eq_false]
        refine ⟨ps[k], List.getElem_mem _, ?_⟩
        have e : ps.getD k PuI.zero = ps[k] := by simp [List.getD, hlt]
        rw [e] at h; simp [h])
      generalize ps.getD k PuI.zero = p at *
      have K := hid (fun w hB => allPu1_c p bx w hB)
      cases hx : p.okB with
      | true =>
        have hX := hid hx
        clear hx
        go_wp2_with fail
        with_reducible refine (K.out _ (hN.cell_at HB.out)).mono ?_; rintro e w1 ⟨rfl, hN1⟩; rw [hX.out]
        go_wp2_with fail
        go_roundw
        case rel => exact ⟨k + 1, by omega, by go_num, hid (by rw [hT.out, hall.out, hX.out]; rfl), hN.trans hN1⟩
        case measure => simp [intOf]; omega
      | false =>
        have hX := hid hx
        have hF := hid (hf0.out hx)
        clear hx
        go_wp2_with fail
        with_reducible refine (K.out _ (hN.cell_at HB.out)).mono ?_; rintro e w1 ⟨rfl, hN1⟩; rw [hX.out]
        go_wp2
        go_ret
        exact ⟨⟨_, rfl, by rw [hF.out]; simp⟩, hN.trans hN1⟩
    · have hk' : k = ps.length := by omega
      subst hk'
      have hkn : ¬ ((ps.length : Int) < (ps.length : Int)) := by omega
      go_wp2
      go_ret
      have hall' := hall.out
      rw [List.take_of_length_le (Nat.le_refl _)] at hall'
      exact ⟨⟨_, rfl, by rw [hall']; rfl⟩, hN⟩

theorem containsPu_c (g o cp : Nat) (ps : List PuI) (bx : Nat) (w : World) (hlen : ps.length ≤ 9223372036854775807) (hP : PuHo w g o ps) (hB : w.cell? ⟨bx, 0, none⟩ = some (.func (.func 42) #[] #[])) :
    Calls Tryz.prog 56 #[.slice (some ⟨g, o, none⟩) ps.length cp, .func (.func 57) #[] #[.pointer (some ⟨bx, 0, none⟩)]] w fun e w' => e = .returned (.bool (!ps.all PuI.okB)) ∧ New w w' := by
  have HP := hid hP
  clear hP
  go_enter Tryz.func56, Tryz.ntmps56
  go_wp2_with fail
  refine (indexPu_c g o cp ps bx _ hlen HP.out hB).mono ?_
  rintro e w' ⟨⟨r, rfl, hr⟩, hN⟩
  have Hr := hid hr
  clear hr
  go_wp2
  go_ret
  exact ⟨ret_bool Hr.out, hN⟩

theorem arePu_c (g o cp : Nat) (ps : List PuI) (w : World) (hlen : ps.length ≤ 9223372036854775807) (hP : PuHo w g o ps) :
    Calls Tryz.prog 41 #[.slice (some ⟨g, o, none⟩) ps.length cp, .func (.func 42) #[] #[]] w fun e w' => e = .returned (.bool (ps.all PuI.okB)) ∧ New w w' := by
  have HP := hid hP
  clear hP
  go_enter Tryz.func41, Tryz.ntmps41
  go_wp2_with fail
  refine (containsPu_c g o cp ps _ _ hlen (HP.out.new ((New.refl w).alloc _)) (by go_simp)).mono ?_
  rintro e w' ⟨rfl, hN⟩
  go_wp2
  go_ret
  exact ⟨ret_bool (by simp), ((New.refl w).alloc _).trans hN⟩

theorem isSequence_c (g o cp : Nat) (ps : List PuI) (w : World) (hlen : ps.length ≤ 9223372036854775807) (hP : PuHo w g o ps) :
    Calls Tryz.prog 17 #[.slice (some ⟨g, o, none⟩) ps.length cp] w fun e w' => e = .returned (.bool (seqB ps)) ∧ New w w' := by
  have HP := hid hP
  clear hP
  unfold seqB
  by_cases hl : ps.length ≤ 60
  · have hl' : (ps.length : Int) ≤ 60 := by omega
    have e : (ps.all PuI.okB && decide (ps.length ≤ 60)) = ps.all PuI.okB := by simp [hl]
    rw [e]
    clear e hl
    generalize hq : ps.all PuI.okB = q at *
    have HQ := hid hq
    clear hq
    go_enter Tryz.func17, Tryz.ntmps17
    go_wp2_with fail
    refine (arePu_c g o cp ps _ hlen HP.out).mono ?_; rintro e w1 ⟨rfl, hN⟩
    rw [HQ.out]
    go_wp2
    go_ret
    exact ⟨rfl, hN⟩
  · have hl' : ¬ (ps.length : Int) ≤ 60 := by omega
    have e : (ps.all PuI.okB && decide (ps.length ≤ 60)) = false := by simp [hl]
    rw [e]
    clear e hl
    go_enter Tryz.func17, Tryz.ntmps17
    go_wp2
    go_ret
    exact ⟨rfl, New.refl w⟩
end Go.Proofs.YtmbjomjpnfnbkaaGreat

namespace Go.Proofs.YtmbjomjpnfnbkaaGreat
open Go.RowKit Flt

set_option maxHeartbeats 1000000 in
theorem table_c (b g o cap : Nat) (ps : List PuI) (w : World) (hP : PuHo w g o ps) (hs : seqB ps = true) (hg : g ≠ b) (hA : At b 0 w) :
    Calls Tryz.prog 19 #[.pointer (some ⟨b, 0, none⟩), .slice (some ⟨g, o, none⟩) ps.length cap] w fun e w' => e = .returned (nz (tabL (ps.map PuI.n) unitS)).val ∧ Ext b 0 w w' := by
  have hlt := hA.lt
  have hne : w.heap.size ≠ b := by omega
  have HP := hid hP
  have K := hid (fun w hP hA => tables_c b g o cap ps w hP hs hg hA)
  have HG := hid hg
  clear hP hs hg
  generalize nz (tabL (ps.map PuI.n) unitS) = R at *
  generalize hn : ps.length = n at *
  clear hn
  go_enter Tryz.func19, Tryz.ntmps19
  go_wp2_with fail
  have hE0 := (Ext.refl hA).alloc (.cells #[.complex .f32 0 0, .complex .f32 0 0, .complex .f32 0 0, .complex .f32 0 0] 29)
  refine (K.out _ (HP.out.ext hE0 HG.out) (hA.alloc _)).mono ?_; rintro e w1 ⟨u, ys, rfl, hy, hO, hE⟩
  obtain ⟨gr, cr, rfl⟩ : ∃ gr cr, u = .slice (some ⟨gr, 0, none⟩) (n + 1) cr := by
    rcases own_forms hO with ⟨_, h⟩ | h
    · omega
    · exact h
  obtain ⟨r0, r1, r2, r3⟩ := own_last hO hy rfl
  have hgr := (hO.lt gr rfl).1
  simp at hgr
  have j0 := hE.cell_at (k := w.heap.size) (o := 0) (v := .complex .f32 0 0) (by go_simp) hne
  have j1 := hE.cell_at (k := w.heap.size) (o := 1) (v := .complex .f32 0 0) (by go_simp) hne
  have j2 := hE.cell_at (k := w.heap.size) (o := 2) (v := .complex .f32 0 0) (by go_simp) hne
  have j3 := hE.cell_at (k := w.heap.size) (o := 3) (v := .complex .f32 0 0) (by go_simp) hne
  have z0 := hE.frozen_at (k := w.heap.size) (o := 0) (by simp) (by go_simp) hne
  have z1 := hE.frozen_at (k := w.heap.size) (o := 1) (by simp) (by go_simp) hne
  have z2 := hE.frozen_at (k := w.heap.size) (o := 2) (by simp) (by go_simp) hne
  have z3 := hE.frozen_at (k := w.heap.size) (o := 3) (by simp) (by go_simp) hne
  have hki : (n : Int) < (n : Int) + 1 := by omega
  clear hO hy
  go_wp2
  refine bodyPost_ret (v := R.val) (by simp [results, Tryz.results19, go_sem, j0, j1, j2, j3]) rfl ⟨rfl, ?_⟩
  exact Ext.set4 (hE0.trans hE) (Nat.le_refl _) hne _ _ _ _

set_option maxHeartbeats 1000000 in
theorem tableOfSequence_c (g o cap : Nat) (ps : List PuI) (w : World) (hP : PuHo w g o ps) (hl : ps.length ≤ 1048576) (hg : g < w.heap.size) :
    Calls Tryz.prog 6 #[.slice (some ⟨g, o, none⟩) ps.length cap] w fun e w' => e = .returned (nz (tabQ ps)).told ∧ New w w' := by
  have HP := hid hP
  clear hP
  have KS := hid (fun w hP => isSequence_c g o cap ps w (by omega) hP)
  have hN0 := hid ((New.refl w).alloc (.cells #[.complex .f32 0 0, .complex .f32 0 0, .complex .f32 0 0, .complex .f32 0 0] 29))
  cases hs : seqB ps with
  | false =>
    rw [tabQ_bad hs, nz_bad]
    have HS := hid hs
    clear hs
    go_enter Tryz.func6, Tryz.ntmps6
    go_wp2_with fail
    refine (KS.out _ (HP.out.new hN0.out)).mono ?_; rintro e w1 ⟨rfl, hN⟩; rw [HS.out]
    obtain ⟨l1, l2, l3⟩ := hN.laws
    go_wp2
    refine bodyPost_ret (v := .tuple #[T4 0 0 0 0 0 0 0 0, .int .i64 1]) (by simp [results, Tryz.results6, go_sem, l1, l2, l3]) rfl ⟨rfl, ?_⟩
    exact New.set4 (hN0.out.trans hN) (Nat.le_refl _) _ _ _ _
  | true =>
    rw [tabQ_good hs]
    have K := hid (fun b w hP hg hA => table_c b g o cap ps w hP hs hg hA)
    have hc := hid (show (nz (tabL (ps.map PuI.n) unitS)).c = 0 from tabL_c (ps.map PuI.n) unitS rfl)
    have HS := hid hs
    clear hs
    generalize nz (tabL (ps.map PuI.n) unitS) = R at *
    obtain ⟨c, a0, a1, b0, b1, c0, c1, d0, d1⟩ := R
    have hc0 : c = 0 := hc.out
    subst hc0
    have T := hid (fun b w hA => toldT_c b ⟨0, a0, a1, b0, b1, c0, c1, d0, d1⟩ w hA)
    have eT : toldC (⟨0, a0, a1, b0, b1, c0, c1, d0, d1⟩ : C8) = ⟨0, a0, a1, b0, b1, c0, c1, d0, d1⟩ := if_pos rfl
    rw [eT] at T
    clear eT
    go_enter Tryz.func6, Tryz.ntmps6
    go_wp2_with fail
    refine (KS.out _ (HP.out.new hN0.out)).mono ?_; rintro e w1 ⟨rfl, hN⟩; rw [HS.out]
    have hs1 := hN.size
    simp at hs1
    obtain ⟨l1, l2, l3⟩ := hN.laws
    have i0 := hid (hN.cell_at (k := w.heap.size) (o := 0) (v := .complex .f32 0 0) (by go_simp))
    have i1 := hid (hN.cell_at (k := w.heap.size) (o := 1) (v := .complex .f32 0 0) (by go_simp))
    have i2 := hid (hN.cell_at (k := w.heap.size) (o := 2) (v := .complex .f32 0 0) (by go_simp))
    have i3 := hid (hN.cell_at (k := w.heap.size) (o := 3) (v := .complex .f32 0 0) (by go_simp))
    have f0 := hid (hN.frozen_at (k := w.heap.size) (o := 0) (by simp) (by go_simp))
    have f1 := hid (hN.frozen_at (k := w.heap.size) (o := 1) (by simp) (by go_simp))
    have f2 := hid (hN.frozen_at (k := w.heap.size) (o := 2) (by simp) (by go_simp))
    have f3 := hid (hN.frozen_at (k := w.heap.size) (o := 3) (by simp) (by go_simp))
    clear l1 l2 l3
    go_wp2_with fail
    refine (K.out w1.heap.size _ (HP.out.new ((hN0.out.trans hN).alloc _)) (by omega) (At.new _ _ _)).mono ?_; rintro e w2 ⟨rfl, hE⟩
    have hs2 := hE.size
    simp at hs2
    have j0 := hE.cell_at (cell_alloc i0.out _) (by omega)
    have j1 := hE.cell_at (cell_alloc i1.out _) (by omega)
    have j2 := hE.cell_at (cell_alloc i2.out _) (by omega)
    have j3 := hE.cell_at (cell_alloc i3.out _) (by omega)
    have g0 := hE.frozen_at (k := w.heap.size) (o := 0) (by simp; omega) (frozen_alloc (by omega) f0.out _) (by omega)
    have g1 := hE.frozen_at (k := w.heap.size) (o := 1) (by simp; omega) (frozen_alloc (by omega) f1.out _) (by omega)
    have g2 := hE.frozen_at (k := w.heap.size) (o := 2) (by simp; omega) (frozen_alloc (by omega) f2.out _) (by omega)
    have g3 := hE.frozen_at (k := w.heap.size) (o := 3) (by simp; omega) (frozen_alloc (by omega) f3.out _) (by omega)
    go_wp2_with fail
    refine (T.out w1.heap.size _ hE.at_).mono ?_; rintro e w3 ⟨rfl, hN3⟩
    have j0' := hN3.cell_at j0
    have j1' := hN3.cell_at j1
    have j2' := hN3.cell_at j2
    have j3' := hN3.cell_at j3
    have g0' := hN3.frozen_at (k := w.heap.size) (o := 0) (by omega) g0
    have g1' := hN3.frozen_at (k := w.heap.size) (o := 1) (by omega) g1
    have g2' := hN3.frozen_at (k := w.heap.size) (o := 2) (by omega) g2
    have g3' := hN3.frozen_at (k := w.heap.size) (o := 3) (by omega) g3
    go_wp2
    refine bodyPost_ret (v := .tuple #[T4 a0 a1 b0 b1 c0 c1 d0 d1, .int .i64 0]) (by simp [results, Tryz.results6, go_sem, j0', j1', j2', j3']) rfl ⟨rfl, ?_⟩
    exact New.set4 (((hN0.out.trans hN).ext hE (by omega)).trans hN3) (Nat.le_refl _) _ _ _ _
end Go.Proofs.YtmbjomjpnfnbkaaGreat
