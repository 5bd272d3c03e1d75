/-
  Walk of the program's SplitStep.
-/
import Derived.Test.YtmbjomjpnfnbkaaA12
import Derived.Test.YtmbjomjpnfnbkaaP6
import Derived.Test.YtmbjomjpnfnbkaaR0
import Derived.Test.YtmbjomjpnfnbkaaK0
set_option linter.unusedSimpArgs false
set_option linter.unusedVariables false
namespace Go.Proofs.Ytmbjomjpnfnbkaa
open Go.RowKit Flt

/-- The program's answer. -/
def splitR (x y z h : Nat) : C8 := if isFin4 x y z h = true then toldC (splitM x y z h) else bad8 1

/-- A block of four zeros that the walk has made. -/
def Zr (w0 wx : World) (b p : Nat) : Prop := w0.heap.size ≤ p ∧ p < wx.heap.size ∧ p ≠ b ∧ (∀ o, o < 4 → wx.cell? ⟨p, o, none⟩ = some (.complex .f32 0 0)) ∧ (∀ o, wx.frozen? ⟨p, o, none⟩ = false)
abbrev zero4 : Obj := .cells #[.complex .f32 0 0, .complex .f32 0 0, .complex .f32 0 0, .complex .f32 0 0] 26
theorem Zr.ext {w0 wx wy : World} {b p : Nat} {c : Int} (h : Zr w0 wx b p) (hE : Ext b c wx wy) : Zr w0 wy b p :=
  ⟨h.1, Nat.lt_of_lt_of_le h.2.1 hE.size, h.2.2.1, fun o ho => hE.cell_at (h.2.2.2.1 o ho) h.2.2.1, fun o => hE.frozen_at h.2.1 (h.2.2.2.2 o) h.2.2.1⟩
theorem Zr.alloc {w0 wx : World} {b p : Nat} (h : Zr w0 wx b p) (o : Obj) : Zr w0 (wx.alloc o) b p :=
  ⟨h.1, by have := h.2.1; simp; omega, h.2.2.1, fun o' ho => cell_alloc (h.2.2.2.1 o' ho) _, fun o' => frozen_alloc h.2.1 (h.2.2.2.2 o') _⟩
theorem Zr.new {w0 wx : World} {b : Nat} (h : w0.heap.size ≤ wx.heap.size) (hb : b < wx.heap.size) : Zr w0 (wx.alloc zero4) b wx.heap.size :=
  ⟨h, by simp, by omega, fun o ho => by
    match o, ho with
    | 0, _ => go_simp
    | 1, _ => go_simp
    | 2, _ => go_simp
    | 3, _ => go_simp, fun o => by go_simp⟩
/-- The blocks of three variables, as far as they have been made. -/
def Gs (w0 wx : World) (b : Nat) (d1 d2 d3 : Bool) (u v t : Value) : Prop := ∃ p q r : Nat, (d1 = true → u = .pointer (some ⟨p, 0, none⟩) ∧ Zr w0 wx b p) ∧ (d2 = true → v = .pointer (some ⟨q, 0, none⟩) ∧ Zr w0 wx b q) ∧ (d3 = true → t = .pointer (some ⟨r, 0, none⟩) ∧ Zr w0 wx b r) ∧
  (d1 = true → d2 = true → p ≠ q) ∧ (d1 = true → d3 = true → p ≠ r) ∧ (d2 = true → d3 = true → q ≠ r)
theorem Gs.zero (w0 wx : World) (b : Nat) (u v t : Value) : Gs w0 wx b false false false u v t :=
  ⟨0, 0, 0, (fun h => nomatch h), (fun h => nomatch h), (fun h => nomatch h), (fun h => nomatch h), (fun h => nomatch h), (fun h => nomatch h)⟩
theorem Gs.ext {w0 wx wy : World} {b : Nat} {c : Int} {d1 d2 d3 : Bool} {u v t : Value} (h : Gs w0 wx b d1 d2 d3 u v t) (hE : Ext b c wx wy) : Gs w0 wy b d1 d2 d3 u v t := by
  obtain ⟨p, q, r, h1, h2, h3, n⟩ := h
  exact ⟨p, q, r, fun e => ⟨(h1 e).1, (h1 e).2.ext hE⟩, fun e => ⟨(h2 e).1, (h2 e).2.ext hE⟩, fun e => ⟨(h3 e).1, (h3 e).2.ext hE⟩, n⟩
theorem Gs.new1 {w0 wx : World} {b : Nat} {d2 d3 : Bool} {u v t : Value} (h : Gs w0 wx b false d2 d3 u v t) (hs : w0.heap.size ≤ wx.heap.size) (hb : b < wx.heap.size) : Gs w0 (wx.alloc zero4) b true d2 d3 (.pointer (some ⟨wx.heap.size, 0, none⟩)) v t := by
  obtain ⟨p, q, r, h1, h2, h3, n1, n2, n3⟩ := h
  exact ⟨wx.heap.size, q, r, fun _ => ⟨rfl, Zr.new hs hb⟩, fun e => ⟨(h2 e).1, (h2 e).2.alloc _⟩, fun e => ⟨(h3 e).1, (h3 e).2.alloc _⟩, fun _ e => by have := (h2 e).2.2.1; omega, fun _ e => by have := (h3 e).2.2.1; omega, n3⟩
theorem Gs.new2 {w0 wx : World} {b : Nat} {d1 d3 : Bool} {u v t : Value} (h : Gs w0 wx b d1 false d3 u v t) (hs : w0.heap.size ≤ wx.heap.size) (hb : b < wx.heap.size) : Gs w0 (wx.alloc zero4) b d1 true d3 u (.pointer (some ⟨wx.heap.size, 0, none⟩)) t := by
  obtain ⟨p, q, r, h1, h2, h3, n1, n2, n3⟩ := h
  exact ⟨p, wx.heap.size, r, fun e => ⟨(h1 e).1, (h1 e).2.alloc _⟩, fun _ => ⟨rfl, Zr.new hs hb⟩, fun e => ⟨(h3 e).1, (h3 e).2.alloc _⟩, fun e _ => by have := (h1 e).2.2.1; omega, n2, fun _ e => by have := (h3 e).2.2.1; omega⟩
theorem Gs.new3 {w0 wx : World} {b : Nat} {d1 d2 : Bool} {u v t : Value} (h : Gs w0 wx b d1 d2 false u v t) (hs : w0.heap.size ≤ wx.heap.size) (hb : b < wx.heap.size) : Gs w0 (wx.alloc zero4) b d1 d2 true u v (.pointer (some ⟨wx.heap.size, 0, none⟩)) := by
  obtain ⟨p, q, r, h1, h2, h3, n1, n2, n3⟩ := h
  exact ⟨p, q, wx.heap.size, fun e => ⟨(h1 e).1, (h1 e).2.alloc _⟩, fun e => ⟨(h2 e).1, (h2 e).2.alloc _⟩, fun _ => ⟨rfl, Zr.new hs hb⟩, n1, fun e _ => by have := (h1 e).2.2.1; omega, fun e _ => by have := (h2 e).2.2.1; omega⟩

set_option maxRecDepth 20000 in
set_option maxHeartbeats 4000000 in
theorem splitStep_g (x y z h : Nat) (w : World) (hx : FW x) (hy : FW y) (hz : FW z) (hh : FW h) (hf : isFin4 x y z h = true) :
    Calls Try.prog 36 #[V3 x y z, .float .f32 h] w fun e w' => e = .returned (toldC (splitM x y z h)).told ∧ New w w' := by
  have HC := hid (fcode_step x y z h)
  have HF := hid hf
  have E : splitM x y z h = splitM x y z h := rfl
  conv at E => rhs; unfold splitM
  simp only at E
  have H2 := fun b w hA => div_c b 0 h 1073741824 w hh.2 fin_2 hA
  have Fk := divM_FW hh.2 fin_2 0
  generalize ek : divM h 1073741824 0 = k at *
  have H3 := fun b w hA => step_c b k.1 x 0 0 k.2 w hx FW0 FW0 Fk hA
  have Lf := stepM_lw hx FW0 FW0 Fk k.1
  generalize ef : stepM x 0 0 k.2 k.1 = f at *
  have H4 := fun b w hA => step_c b f.c 0 y 0 k.2 w FW0 hy FW0 Fk hA
  have Ls := stepM_lw FW0 hy FW0 Fk f.c
  generalize es : stepM 0 y 0 k.2 f.c = s at *
  have H5 := fun b w hA => step_c b s.c 0 0 z h w FW0 FW0 hz hh hA
  have Lt := stepM_lw FW0 FW0 hz hh s.c
  generalize et : stepM 0 0 z h s.c = t at *
  have H6 := fun b w hA => product_c b t.c f s 3 3 w Lf Ls (by decide) (by decide) hA
  have Lp := productM_lw Lf Ls (by decide) (by decide) t.c
  generalize ep : productM f s t.c = p at *
  have H7 := fun b w hA => product_c b p.c p t _ 3 w Lp Lt (by decide) (by decide) hA
  have Lq := productM_lw Lp Lt (by decide) (by decide) p.c
  generalize eq : productM p t p.c = q at *
  have H8 := fun b w hA => product_c b q.c q s _ 3 w Lq Ls (by decide) (by decide) hA
  have Lr := productM_lw Lq Ls (by decide) (by decide) q.c
  generalize er : productM q s q.c = r at *
  have H9 := fun b w hA => product_c b r.c r f _ 3 w Lr Lf (by decide) (by decide) hA
  generalize eu : productM r f r.c = u at *
  have H10 := fun b w hA => toldT_c b u w hA
  rw [E]
  generalize toldC u = V at *
  have HH := And.intro H2 (And.intro H3 (And.intro H4 (And.intro H5 (And.intro H6 (And.intro H7 (And.intro H8 (And.intro H9 H10)))))))
  clear E ek ef es et ep eq er eu Lf Ls Lt Lp Lq Lr Fk H2 H3 H4 H5 H6 H7 H8 H9 H10 hx hy hz hh hf
  obtain ⟨k1, k2⟩ := k
  obtain ⟨fc, f0, f1, f2, f3, f4, f5, f6, f7⟩ := f
  obtain ⟨sc, s0, s1, s2, s3, s4, s5, s6, s7⟩ := s
  obtain ⟨tc, t0, t1, t2, t3, t4, t5, t6, t7⟩ := t
  obtain ⟨pc, p0, p1, p2, p3, p4, p5, p6, p7⟩ := p
  obtain ⟨qc, q0, q1, q2, q3, q4, q5, q6, q7⟩ := q
  obtain ⟨rc, r0, r1, r2, r3, r4, r5, r6, r7⟩ := r
  obtain ⟨zc, z0, z1, z2, z3, z4, z5, z6, z7⟩ := V
  simp only at HH
  obtain ⟨H2, H3, H4, H5, H6, H7, H8, H9, H10⟩ := HH
  have G3 := hid H3
  have G4 := hid H4
  have G5 := hid H5
  have G6 := hid H6
  have G7 := hid H7
  have G8 := hid H8
  have G9 := hid H9
  have G10 := hid H10
  clear H3 H4 H5 H6 H7 H8 H9 H10
  go_enter Try.func36, Try.ntmps36
  go_wp2_with fail
  refine (fieldCode_c x y z _ 0 [h] 1 _ _ _ _ true _ (by simp) (fun j hj => ?_)).mono ?_
  · have : j = 0 := by simp at hj; omega
    subst this; go_simp
  · rintro e w1 ⟨rfl, hN⟩
    rw [HC.out, HF.out]
    obtain ⟨l1, l2, l3⟩ := hN.laws
    have hN1 := ((((New.refl w).alloc _).alloc _).alloc _).trans hN
    have hs := hN1.size
    have hs2 := hN.size
    simp at hs2
    have hq1 : w.heap.size ≠ w1.heap.size := by omega
    have hq2 : w.heap.size < w1.heap.size := by omega
    have hb0 := At.new w1 0 83
    go_wp2_with fail
    with_reducible refine (H2 _ _ hb0).mono ?_; rintro e w2 ⟨rfl, rfl⟩
    have hA := At.new w1 k1 83
    go_wp2_with fail
    have c0 : (w1.alloc (.cells #[.int .i64 k1] 83)).cell? ⟨w.heap.size, 0, none⟩ = some (.float .f32 x) := by go_simp
    have c1 : (w1.alloc (.cells #[.int .i64 k1] 83)).cell? ⟨w.heap.size, 1, none⟩ = some (.float .f32 y) := by go_simp
    have c2 : (w1.alloc (.cells #[.int .i64 k1] 83)).cell? ⟨w.heap.size, 2, none⟩ = some (.float .f32 z) := by go_simp
    have hs0 : w1.heap.size < (w1.alloc (.cells #[.int .i64 k1] 83)).heap.size := by simp
    have n1 : w.heap.size + 1 ≠ w1.heap.size := by omega
    have m1 : w.heap.size + 1 < (w1.alloc (.cells #[.int .i64 k1] 83)).heap.size := by simp; omega
    have zc0 : (w1.alloc (.cells #[.int .i64 k1] 83)).cell? ⟨w.heap.size + 1, 0, none⟩ = some (.complex .f32 0 0) := by go_simp
    have zf0 : (w1.alloc (.cells #[.int .i64 k1] 83)).frozen? ⟨w.heap.size + 1, 0, none⟩ = false := by go_simp
    have zc1 : (w1.alloc (.cells #[.int .i64 k1] 83)).cell? ⟨w.heap.size + 1, 1, none⟩ = some (.complex .f32 0 0) := by go_simp
    have zf1 : (w1.alloc (.cells #[.int .i64 k1] 83)).frozen? ⟨w.heap.size + 1, 1, none⟩ = false := by go_simp
    have zc2 : (w1.alloc (.cells #[.int .i64 k1] 83)).cell? ⟨w.heap.size + 1, 2, none⟩ = some (.complex .f32 0 0) := by go_simp
    have zf2 : (w1.alloc (.cells #[.int .i64 k1] 83)).frozen? ⟨w.heap.size + 1, 2, none⟩ = false := by go_simp
    have zc3 : (w1.alloc (.cells #[.int .i64 k1] 83)).cell? ⟨w.heap.size + 1, 3, none⟩ = some (.complex .f32 0 0) := by go_simp
    have zf3 : (w1.alloc (.cells #[.int .i64 k1] 83)).frozen? ⟨w.heap.size + 1, 3, none⟩ = false := by go_simp
    have HN := hid (fun (c : Int) (wx : World) (hE : Ext w1.heap.size c (w1.alloc (.cells #[.int .i64 k1] 83)) wx) => hN1.ext hE hs)
    clear l1 l2 l3
    generalize w1.alloc (.cells #[.int .i64 k1] 83) = w0 at *
    go_cut [9, 10, 11] from 27 to 44 (fun u v t wx => ∃ p q r, u = .pointer (some ⟨p, 0, none⟩) ∧ v = .pointer (some ⟨q, 0, none⟩) ∧ t = .pointer (some ⟨r, 0, none⟩) ∧ Box wx p ⟨fc, f0, f1, f2, f3, f4, f5, f6, f7⟩ ∧ Box wx q ⟨sc, s0, s1, s2, s3, s4, s5, s6, s7⟩ ∧ Box wx r ⟨tc, t0, t1, t2, t3, t4, t5, t6, t7⟩ ∧ w1.heap.size < p ∧ w1.heap.size < q ∧ w1.heap.size < r ∧ Ext w1.heap.size tc w0 wx)
    case first =>
      have HS : ∀ c wx, Ext w1.heap.size c w0 wx → wx.cell? ⟨w.heap.size, 0, none⟩ = some (.float .f32 x) ∧ wx.cell? ⟨w.heap.size, 1, none⟩ = some (.float .f32 y) ∧ wx.cell? ⟨w.heap.size, 2, none⟩ = some (.float .f32 z) := fun c wx hX => ⟨hX.cell_at c0 hq1, hX.cell_at c1 hq1, hX.cell_at c2 hq1⟩
      have hX0 := (Ext.refl hA).drew
      refine wp_region_held_drew (S := fun wx => wx.cell? ⟨w.heap.size, 0, none⟩ = some (.float .f32 x) ∧ wx.cell? ⟨w.heap.size, 1, none⟩ = some (.float .f32 y) ∧ wx.cell? ⟨w.heap.size, 2, none⟩ = some (.float .f32 z)) (by kernel_rfl) (HS _ _ hX0) (fun hHeld => ?_)
      refine wpAnyH_take (i := 0) (oi := { dst := some 27, op := Op.move (Operand.tmp 7), type := 81, pos := "l09_fields.go:67", after := #[], guard := none }) (v := ?_) rfl (by kernel_rfl) (by kernel_rfl) (by kernel_rfl) (fun _ _ _ h => h) (Or.inl ⟨by rfl, ?_⟩) (by assumption) ?_
      rotate_left
      · intro wq hSw; (try dsimp only at hSw); go_simp; try (with_reducible rfl)
      try simp only [Act.put, List.setIfInBounds_toArray, List.set_cons_zero, List.set_cons_succ]
      refine wpAnyH_take (i := 1) (oi := { dst := some 28, op := Op.indexAddr 38 (Operand.tmp 2) (Operand.const (Value.int IntKind.i64 0)), type := 0, pos := "l09_fields.go:67", after := #[], guard := none }) (v := ?_) rfl (by kernel_rfl) (by kernel_rfl) (by kernel_rfl) (fun _ _ _ h => h) (Or.inl ⟨by rfl, ?_⟩) (by assumption) ?_
      rotate_left
      · intro wq hSw; (try dsimp only at hSw); go_simp; try (with_reducible rfl)
      try simp only [Act.put, List.setIfInBounds_toArray, List.set_cons_zero, List.set_cons_succ]
      refine wpAnyH_take (i := 2) (oi := { dst := some 29, op := Op.load 34 (Operand.tmp 28), type := 34, pos := "l09_fields.go:67", after := #[{ on := 1, ground := Ground.data }], guard := none }) (v := ?_) rfl (by kernel_rfl) (by kernel_rfl) (by kernel_rfl) (fun _ _ _ h => h) (Or.inl ⟨by rfl, ?_⟩) (by assumption) ?_
      rotate_left
      · intro wq hSw; (try dsimp only at hSw); go_simp; try (with_reducible rfl)
      try simp only [Act.put, List.setIfInBounds_toArray, List.set_cons_zero, List.set_cons_succ]
      refine wpAnyH_take (i := 3) (oi := { dst := some 30, op := Op.build 38 #[(0, Operand.tmp 29), (1, Operand.const (Value.float FloatKind.f32 0)), (2, Operand.const (Value.float FloatKind.f32 0))], type := 38, pos := "l09_fields.go:67", after := #[{ on := 2, ground := Ground.data }], guard := none }) (v := ?_) rfl (by kernel_rfl) (by kernel_rfl) (by kernel_rfl) (fun _ _ _ h => h) (Or.inl ⟨by rfl, ?_⟩) (by assumption) ?_
      rotate_left
      · intro wq hSw; (try dsimp only at hSw); go_simp; try (with_reducible rfl)
      try simp only [Act.put, List.setIfInBounds_toArray, List.set_cons_zero, List.set_cons_succ]
      refine wpAnyH_take (i := 4) (oi := { dst := some 31, op := Op.move (Operand.tmp 8), type := 34, pos := "l09_fields.go:67", after := #[], guard := none }) (v := ?_) rfl (by kernel_rfl) (by kernel_rfl) (by kernel_rfl) (fun _ _ _ h => h) (Or.inl ⟨by rfl, ?_⟩) (by assumption) ?_
      rotate_left
      · intro wq hSw; (try dsimp only at hSw); go_simp; try (with_reducible rfl)
      try simp only [Act.put, List.setIfInBounds_toArray, List.set_cons_zero, List.set_cons_succ]
      refine wpAnyH_take (i := 6) (oi := { dst := some 33, op := Op.move (Operand.tmp 7), type := 81, pos := "l09_fields.go:67", after := #[], guard := none }) (v := ?_) rfl (by kernel_rfl) (by kernel_rfl) (by kernel_rfl) (fun _ _ _ h => h) (Or.inl ⟨by rfl, ?_⟩) (by assumption) ?_
      rotate_left
      · intro wq hSw; (try dsimp only at hSw); go_simp; try (with_reducible rfl)
      try simp only [Act.put, List.setIfInBounds_toArray, List.set_cons_zero, List.set_cons_succ]
      refine wpAnyH_take (i := 7) (oi := { dst := some 34, op := Op.indexAddr 38 (Operand.tmp 2) (Operand.const (Value.int IntKind.i64 1)), type := 0, pos := "l09_fields.go:67", after := #[], guard := none }) (v := ?_) rfl (by kernel_rfl) (by kernel_rfl) (by kernel_rfl) (fun _ _ _ h => h) (Or.inl ⟨by rfl, ?_⟩) (by assumption) ?_
      rotate_left
      · intro wq hSw; (try dsimp only at hSw); go_simp; try (with_reducible rfl)
      try simp only [Act.put, List.setIfInBounds_toArray, List.set_cons_zero, List.set_cons_succ]
      refine wpAnyH_take (i := 8) (oi := { dst := some 35, op := Op.load 34 (Operand.tmp 34), type := 34, pos := "l09_fields.go:67", after := #[{ on := 7, ground := Ground.data }], guard := none }) (v := ?_) rfl (by kernel_rfl) (by kernel_rfl) (by kernel_rfl) (fun _ _ _ h => h) (Or.inl ⟨by rfl, ?_⟩) (by assumption) ?_
      rotate_left
      · intro wq hSw; (try dsimp only at hSw); go_simp; try (with_reducible rfl)
      try simp only [Act.put, List.setIfInBounds_toArray, List.set_cons_zero, List.set_cons_succ]
      refine wpAnyH_take (i := 9) (oi := { dst := some 36, op := Op.build 38 #[(0, Operand.const (Value.float FloatKind.f32 0)), (1, Operand.tmp 35), (2, Operand.const (Value.float FloatKind.f32 0))], type := 38, pos := "l09_fields.go:67", after := #[{ on := 8, ground := Ground.data }], guard := none }) (v := ?_) rfl (by kernel_rfl) (by kernel_rfl) (by kernel_rfl) (fun _ _ _ h => h) (Or.inl ⟨by rfl, ?_⟩) (by assumption) ?_
      rotate_left
      · intro wq hSw; (try dsimp only at hSw); go_simp; try (with_reducible rfl)
      try simp only [Act.put, List.setIfInBounds_toArray, List.set_cons_zero, List.set_cons_succ]
      refine wpAnyH_take (i := 10) (oi := { dst := some 37, op := Op.move (Operand.tmp 8), type := 34, pos := "l09_fields.go:67", after := #[], guard := none }) (v := ?_) rfl (by kernel_rfl) (by kernel_rfl) (by kernel_rfl) (fun _ _ _ h => h) (Or.inl ⟨by rfl, ?_⟩) (by assumption) ?_
      rotate_left
      · intro wq hSw; (try dsimp only at hSw); go_simp; try (with_reducible rfl)
      try simp only [Act.put, List.setIfInBounds_toArray, List.set_cons_zero, List.set_cons_succ]
      refine wpAnyH_take (i := 12) (oi := { dst := some 39, op := Op.move (Operand.tmp 7), type := 81, pos := "l09_fields.go:67", after := #[], guard := none }) (v := ?_) rfl (by kernel_rfl) (by kernel_rfl) (by kernel_rfl) (fun _ _ _ h => h) (Or.inl ⟨by rfl, ?_⟩) (by assumption) ?_
      rotate_left
      · intro wq hSw; (try dsimp only at hSw); go_simp; try (with_reducible rfl)
      try simp only [Act.put, List.setIfInBounds_toArray, List.set_cons_zero, List.set_cons_succ]
      refine wpAnyH_take (i := 13) (oi := { dst := some 40, op := Op.indexAddr 38 (Operand.tmp 2) (Operand.const (Value.int IntKind.i64 2)), type := 0, pos := "l09_fields.go:67", after := #[], guard := none }) (v := ?_) rfl (by kernel_rfl) (by kernel_rfl) (by kernel_rfl) (fun _ _ _ h => h) (Or.inl ⟨by rfl, ?_⟩) (by assumption) ?_
      rotate_left
      · intro wq hSw; (try dsimp only at hSw); go_simp; try (with_reducible rfl)
      try simp only [Act.put, List.setIfInBounds_toArray, List.set_cons_zero, List.set_cons_succ]
      refine wpAnyH_take (i := 14) (oi := { dst := some 41, op := Op.load 34 (Operand.tmp 40), type := 34, pos := "l09_fields.go:67", after := #[{ on := 13, ground := Ground.data }], guard := none }) (v := ?_) rfl (by kernel_rfl) (by kernel_rfl) (by kernel_rfl) (fun _ _ _ h => h) (Or.inl ⟨by rfl, ?_⟩) (by assumption) ?_
      rotate_left
      · intro wq hSw; (try dsimp only at hSw); go_simp; try (with_reducible rfl)
      try simp only [Act.put, List.setIfInBounds_toArray, List.set_cons_zero, List.set_cons_succ]
      refine wpAnyH_take (i := 15) (oi := { dst := some 42, op := Op.build 38 #[(0, Operand.const (Value.float FloatKind.f32 0)), (1, Operand.const (Value.float FloatKind.f32 0)), (2, Operand.tmp 41)], type := 38, pos := "l09_fields.go:67", after := #[{ on := 14, ground := Ground.data }], guard := none }) (v := ?_) rfl (by kernel_rfl) (by kernel_rfl) (by kernel_rfl) (fun _ _ _ h => h) (Or.inl ⟨by rfl, ?_⟩) (by assumption) ?_
      rotate_left
      · intro wq hSw; (try dsimp only at hSw); go_simp; try (with_reducible rfl)
      try simp only [Act.put, List.setIfInBounds_toArray, List.set_cons_zero, List.set_cons_succ]
      refine wpAnyH_take (i := 16) (oi := { dst := some 43, op := Op.move (Operand.tmp 1), type := 34, pos := "l09_fields.go:67", after := #[], guard := none }) (v := ?_) rfl (by kernel_rfl) (by kernel_rfl) (by kernel_rfl) (fun _ _ _ h => h) (Or.inl ⟨by rfl, ?_⟩) (by assumption) ?_
      rotate_left
      · intro wq hSw; (try dsimp only at hSw); go_simp; try (with_reducible rfl)
      try simp only [Act.put, List.setIfInBounds_toArray, List.set_cons_zero, List.set_cons_succ]
      refine three_three' (n := 3) 5 11 17 18 19 20 ({ dst := some 32, op := Op.call { callee := Callee.value (Operand.func 79), args := #[Operand.tmp 27, Operand.tmp 30, Operand.tmp 31], argTypes := #[81, 38, 34] }, type := 26, pos := "l09_fields.go:67", after := #[{ on := 0, ground := Ground.data }, { on := 3, ground := Ground.data }, { on := 4, ground := Ground.data }], guard := none }) ({ dst := some 38, op := Op.call { callee := Callee.value (Operand.func 79), args := #[Operand.tmp 33, Operand.tmp 36, Operand.tmp 37], argTypes := #[81, 38, 34] }, type := 26, pos := "l09_fields.go:67", after := #[{ on := 6, ground := Ground.data }, { on := 9, ground := Ground.data }, { on := 10, ground := Ground.data }, { on := 5, ground := Ground.chain }], guard := none }) ({ dst := some 44, op := Op.call { callee := Callee.value (Operand.func 79), args := #[Operand.tmp 39, Operand.tmp 42, Operand.tmp 43], argTypes := #[81, 38, 34] }, type := 26, pos := "l09_fields.go:67", after := #[{ on := 12, ground := Ground.data }, { on := 15, ground := Ground.data }, { on := 16, ground := Ground.data }, { on := 11, ground := Ground.chain }], guard := none }) ({ dst := some 9, op := Op.alloc 26, type := 0, pos := "l09_fields.go:67", after := #[], guard := none }) ({ dst := some 10, op := Op.alloc 26, type := 0, pos := "l09_fields.go:67", after := #[], guard := none }) ({ dst := some 11, op := Op.alloc 26, type := 0, pos := "l09_fields.go:67", after := #[], guard := none }) (fun c1 c2 c3 d1 d2 d3 => #[true, true, true, true, true, c1, true, true, true, true, true, c2, true, true, true, true, true, c3, d1, d2, d3, false, false, false]) (fun c1 c2 c3 d1 d2 d3 a wx => ∃ v9 v10 v11 v32 v38 v44 : Value, a = ⟨#[V3 x y z, .float .f32 h, .pointer (some ⟨w.heap.size, 0, none⟩), undef, .pointer (some ⟨w.heap.size + 1, 0, none⟩), .int .i64 0, .int .i64 0, .pointer (some ⟨w1.heap.size, 0, none⟩), .float .f32 k2, v9, v10, v11, undef, V3 x y z, .float .f32 h, .slice (some ⟨w.heap.size + 1 + 1, 0, none⟩) 1 1, Sp 0 0 0 0, .int .i64 0, .int .i64 0, .bool false, undef, undef, .agg #[.int .i64 0], .pointer (some ⟨w1.heap.size, 0, none⟩), .pointer (some ⟨w1.heap.size, 0, none⟩), .float .f32 h, .float .f32 k2, .pointer (some ⟨w1.heap.size, 0, none⟩), .pointer (some ⟨w.heap.size, 0, none⟩), .float .f32 x, V3 x 0 0, .float .f32 k2, v32, .pointer (some ⟨w1.heap.size, 0, none⟩), .pointer (some ⟨w.heap.size, 1, none⟩), .float .f32 y, V3 0 y 0, .float .f32 k2, v38, .pointer (some ⟨w1.heap.size, 0, none⟩), .pointer (some ⟨w.heap.size, 2, none⟩), .float .f32 z, V3 0 0 z, .float .f32 h, v44, undef, undef, undef, undef, undef, undef, undef, undef, undef, undef, undef, undef, undef, undef, undef, undef, undef, undef], []⟩ ∧ Ext w1.heap.size (bif c3 then tc else bif c2 then sc else bif c1 then fc else k1) w0 wx ∧ (c1 = true → v32 = T4 f0 f1 f2 f3 f4 f5 f6 f7) ∧ (c2 = true → v38 = T4 s0 s1 s2 s3 s4 s5 s6 s7) ∧ (c3 = true → v44 = T4 t0 t1 t2 t3 t4 t5 t6 t7) ∧ Gs w0 wx w1.heap.size d1 d2 d3 v9 v10 v11) (by rfl) (by kernel_rfl) ?hr (fun _ _ _ _ _ => rfl) (fun _ _ _ _ _ => rfl) (fun _ _ _ _ _ => rfl) (fun _ _ _ _ _ => rfl) (fun _ _ _ _ _ => rfl) (fun _ _ _ _ _ => rfl) rfl rfl rfl rfl rfl rfl ?s1 ?s2 ?s3 ?t1 ?t2 ?t3 ?e ⟨undef, undef, undef, undef, undef, undef, rfl, hX0, (fun h => nomatch h), (fun h => nomatch h), (fun h => nomatch h), Gs.zero _ _ _ _ _ _⟩
      case hr =>
        intro c1 c2 c3 d1 d2 d3 h1 h2 h3
        cases c1 <;> cases c2 <;> cases c3 <;> (first | (exact absurd (h1 rfl) (by decide)) | (exact absurd (h2 rfl) (by decide)) | skip) <;> cases d1 <;> cases d2 <;> cases d3 <;> first | (exact absurd rfl h3) | kernel_rfl
      case s1 =>
        intro d1 d2 d3 a wx hI K hK
        obtain ⟨v9, v10, v11, v32, v38, v44, rfl, hX, e1, e2, e3, hG⟩ := hI
        have hAx := hX.at_
        simp only [cond_true, cond_false] at hAx
        go_simp
        go_at_call 79
        with_reducible refine (G3.out _ _ hAx).mono ?_; rintro e wA ⟨rfl, hEA⟩
        try simp only [Act.put, List.setIfInBounds_toArray, List.set_cons_zero, List.set_cons_succ]
        refine hK.out _ _ (HS _ _ (Ext.trans hX hEA)) ⟨v9, v10, v11, _, v38, v44, rfl, Ext.trans hX hEA, fun _ => rfl, e2, e3, hG.ext hEA⟩
      case s2 =>
        intro d1 d2 d3 a wx hI K hK
        obtain ⟨v9, v10, v11, v32, v38, v44, rfl, hX, e1, e2, e3, hG⟩ := hI
        have hAx := hX.at_
        simp only [cond_true, cond_false] at hAx
        go_simp
        go_at_call 79
        with_reducible refine (G4.out _ _ hAx).mono ?_; rintro e wA ⟨rfl, hEA⟩
        try simp only [Act.put, List.setIfInBounds_toArray, List.set_cons_zero, List.set_cons_succ]
        refine hK.out _ _ (HS _ _ (Ext.trans hX hEA)) ⟨v9, v10, v11, _, _, v44, rfl, Ext.trans hX hEA, fun _ => rfl, fun _ => rfl, e3, hG.ext hEA⟩
      case s3 =>
        intro d1 d2 d3 a wx hI K hK
        obtain ⟨v9, v10, v11, v32, v38, v44, rfl, hX, e1, e2, e3, hG⟩ := hI
        have hAx := hX.at_
        simp only [cond_true, cond_false] at hAx
        go_simp
        go_at_call 79
        with_reducible refine (G5.out _ _ hAx).mono ?_; rintro e wA ⟨rfl, hEA⟩
        try simp only [Act.put, List.setIfInBounds_toArray, List.set_cons_zero, List.set_cons_succ]
        refine hK.out _ _ (HS _ _ (Ext.trans hX hEA)) ⟨v9, v10, v11, _, _, _, rfl, Ext.trans hX hEA, fun _ => rfl, fun _ => rfl, fun _ => rfl, hG.ext hEA⟩
      case t1 =>
        intro c1 c2 c3 d d' a wx hI K hK
        obtain ⟨v9, v10, v11, v32, v38, v44, rfl, hX, e1, e2, e3, hG⟩ := hI
        go_simp
        try simp only [Act.put, List.setIfInBounds_toArray, List.set_cons_zero, List.set_cons_succ]
        refine hK.out _ _ (HS _ _ (hX.alloc _)) ⟨_, v10, v11, v32, v38, v44, rfl, hX.alloc _, e1, e2, e3, hG.new1 hX.size hX.at_.lt⟩
      case t2 =>
        intro c1 c2 c3 d d' a wx hI K hK
        obtain ⟨v9, v10, v11, v32, v38, v44, rfl, hX, e1, e2, e3, hG⟩ := hI
        go_simp
        try simp only [Act.put, List.setIfInBounds_toArray, List.set_cons_zero, List.set_cons_succ]
        refine hK.out _ _ (HS _ _ (hX.alloc _)) ⟨v9, _, v11, v32, v38, v44, rfl, hX.alloc _, e1, e2, e3, hG.new2 hX.size hX.at_.lt⟩
      case t3 =>
        intro c1 c2 c3 d d' a wx hI K hK
        obtain ⟨v9, v10, v11, v32, v38, v44, rfl, hX, e1, e2, e3, hG⟩ := hI
        go_simp
        try simp only [Act.put, List.setIfInBounds_toArray, List.set_cons_zero, List.set_cons_succ]
        refine hK.out _ _ (HS _ _ (hX.alloc _)) ⟨v9, v10, _, v32, v38, v44, rfl, hX.alloc _, e1, e2, e3, hG.new3 hX.size hX.at_.lt⟩
      case e =>
        intro a wx hI
        obtain ⟨v9, v10, v11, v32, v38, v44, rfl, hX, e1, e2, e3, p, q, r, g1, g2, g3, npq, npr, nqr⟩ := hI
        obtain ⟨rfl, gp⟩ := g1 rfl
        obtain ⟨rfl, gq⟩ := g2 rfl
        obtain ⟨rfl, gr⟩ := g3 rfl
        obtain rfl := e1 rfl
        obtain rfl := e2 rfl
        obtain rfl := e3 rfl
        have npq := npq rfl rfl
        have npr := npr rfl rfl
        have nqr := nqr rfl rfl
        simp only [cond_true] at hX
        clear g1 g2 g3 e1 e2 e3
        obtain ⟨ps, pl, pb, pc', pf⟩ := gp
        obtain ⟨qs, ql, qb, qc', qf⟩ := gq
        obtain ⟨rs, rl, rb, rc', rf⟩ := gr
        have pc0 := pc' 0 (by decide); have pc1 := pc' 1 (by decide); have pc2 := pc' 2 (by decide); have pc3 := pc' 3 (by decide)
        have qc0 := qc' 0 (by decide); have qc1 := qc' 1 (by decide); have qc2 := qc' 2 (by decide); have qc3 := qc' 3 (by decide)
        have rc0 := rc' 0 (by decide); have rc1 := rc' 1 (by decide); have rc2 := rc' 2 (by decide); have rc3 := rc' 3 (by decide)
        clear pc' qc' rc'
        have npq' : q ≠ p := fun h => npq h.symm
        have npr' : r ≠ p := fun h => npr h.symm
        have nqr' : r ≠ q := fun h => nqr h.symm
        have sp : w.heap.size ≠ p := by omega
        have sq : w.heap.size ≠ q := by omega
        have sr : w.heap.size ≠ r := by omega
        have sp' : p ≠ w.heap.size := by omega
        have sq' : q ≠ w.heap.size := by omega
        have sr' : r ≠ w.heap.size := by omega
        obtain ⟨v0, v1, v2⟩ := HS _ _ hX
        have hh := hid hX
        refine wpAnyH_ready (rs := [21]) (by kernel_rfl) (by simp) ?_
        refine AllReadyH.cons (o := { dst := none, op := Op.store 26 (Operand.tmp 9) (Operand.tmp 32), type := 0, pos := "l09_fields.go:67", after := #[{ on := 18, ground := Ground.data }, { on := 5, ground := Ground.data }, { on := 17, ground := Ground.chain }, { on := 0, ground := Ground.phase }, { on := 1, ground := Ground.phase }, { on := 2, ground := Ground.phase }, { on := 3, ground := Ground.phase }, { on := 4, ground := Ground.phase }, { on := 5, ground := Ground.phase }, { on := 6, ground := Ground.textOnly Departure.lateStores }, { on := 7, ground := Ground.textOnly Departure.lateStores }, { on := 8, ground := Ground.textOnly Departure.lateStores }, { on := 9, ground := Ground.textOnly Departure.lateStores }, { on := 10, ground := Ground.textOnly Departure.lateStores }, { on := 11, ground := Ground.textOnly Departure.lateStoresUnsure }, { on := 12, ground := Ground.textOnly Departure.lateStores }, { on := 13, ground := Ground.textOnly Departure.lateStores }, { on := 14, ground := Ground.textOnly Departure.lateStores }, { on := 15, ground := Ground.textOnly Departure.lateStores }, { on := 16, ground := Ground.textOnly Departure.lateStores }, { on := 17, ground := Ground.textOnly Departure.lateStoresUnsure }, { on := 18, ground := Ground.phase }, { on := 19, ground := Ground.phase }, { on := 20, ground := Ground.phase }], guard := none }) rfl (fun K hK => ?_) AllReadyH.nil
        go_simp
        refine hK.out _ _ ⟨by go_simp, by go_simp, by go_simp⟩ (fun hHeld => ?_)
        clear hK K
        try simp only [Act.put, List.setIfInBounds_toArray, List.set_cons_zero, List.set_cons_succ]
        refine wpAnyH_ready (rs := [22]) (by kernel_rfl) (by simp) ?_
        refine AllReadyH.cons (o := { dst := none, op := Op.store 26 (Operand.tmp 10) (Operand.tmp 38), type := 0, pos := "l09_fields.go:67", after := #[{ on := 19, ground := Ground.data }, { on := 11, ground := Ground.data }, { on := 21, ground := Ground.chain }, { on := 0, ground := Ground.phase }, { on := 1, ground := Ground.phase }, { on := 2, ground := Ground.phase }, { on := 3, ground := Ground.phase }, { on := 4, ground := Ground.phase }, { on := 5, ground := Ground.phase }, { on := 6, ground := Ground.phase }, { on := 7, ground := Ground.phase }, { on := 8, ground := Ground.phase }, { on := 9, ground := Ground.phase }, { on := 10, ground := Ground.phase }, { on := 11, ground := Ground.phase }, { on := 12, ground := Ground.textOnly Departure.lateStores }, { on := 13, ground := Ground.textOnly Departure.lateStores }, { on := 14, ground := Ground.textOnly Departure.lateStores }, { on := 15, ground := Ground.textOnly Departure.lateStores }, { on := 16, ground := Ground.textOnly Departure.lateStores }, { on := 17, ground := Ground.textOnly Departure.lateStoresUnsure }, { on := 18, ground := Ground.phase }, { on := 19, ground := Ground.phase }, { on := 20, ground := Ground.phase }, { on := 21, ground := Ground.phase }], guard := none }) rfl (fun K hK => ?_) AllReadyH.nil
        go_simp
        refine hK.out _ _ ⟨by go_simp, by go_simp, by go_simp⟩ (fun hHeld => ?_)
        clear hK K
        try simp only [Act.put, List.setIfInBounds_toArray, List.set_cons_zero, List.set_cons_succ]
        refine wpAnyH_ready (rs := [23]) (by kernel_rfl) (by simp) ?_
        refine AllReadyH.cons (o := { dst := none, op := Op.store 26 (Operand.tmp 11) (Operand.tmp 44), type := 0, pos := "l09_fields.go:67", after := #[{ on := 20, ground := Ground.data }, { on := 17, ground := Ground.data }, { on := 22, ground := Ground.chain }, { on := 0, ground := Ground.phase }, { on := 1, ground := Ground.phase }, { on := 2, ground := Ground.phase }, { on := 3, ground := Ground.phase }, { on := 4, ground := Ground.phase }, { on := 5, ground := Ground.phase }, { on := 6, ground := Ground.phase }, { on := 7, ground := Ground.phase }, { on := 8, ground := Ground.phase }, { on := 9, ground := Ground.phase }, { on := 10, ground := Ground.phase }, { on := 11, ground := Ground.phase }, { on := 12, ground := Ground.phase }, { on := 13, ground := Ground.phase }, { on := 14, ground := Ground.phase }, { on := 15, ground := Ground.phase }, { on := 16, ground := Ground.phase }, { on := 17, ground := Ground.phase }, { on := 18, ground := Ground.phase }, { on := 19, ground := Ground.phase }, { on := 20, ground := Ground.phase }, { on := 21, ground := Ground.phase }, { on := 22, ground := Ground.phase }], guard := none }) rfl (fun K hK => ?_) AllReadyH.nil
        go_simp
        refine hK.out _ _ ⟨by go_simp, by go_simp, by go_simp⟩ (fun hHeld => ?_)
        clear hK K
        try simp only [Act.put, List.setIfInBounds_toArray, List.set_cons_zero, List.set_cons_succ]
        refine wpAnyH_done (by kernel_rfl) ?_ _
        go_wp2_with fail
        go_meet
        refine ⟨p, q, r, rfl, rfl, rfl, ⟨?_, ?_, ?_, ?_⟩, ⟨?_, ?_, ?_, ?_⟩, ⟨?_, ?_, ?_, ?_⟩, by omega, by omega, by omega, ?_⟩
        all_goals first | (go_simp; done) | skip
        have hX' := hh.out
        exact ((((((((((((hX'.setNew ps pb _).setNew ps pb _).setNew ps pb _).setNew ps pb _).setNew qs qb _).setNew qs qb _).setNew qs qb _).setNew qs qb _).setNew rs rb _).setNew rs rb _).setNew rs rb _).setNew rs rb _)
    case rest =>
      obtain ⟨p, q, r, rfl, rfl, rfl, ⟨a0, a1, a2, a3⟩, ⟨b0, b1, b2, b3⟩, ⟨d0, d1, d2, d3⟩, np', nq', nr', hX⟩ := hcut
      have np : p ≠ w1.heap.size := by omega
      have nq : q ≠ w1.heap.size := by omega
      have nr : r ≠ w1.heap.size := by omega
      have hB := hX.at_
      simp only at a0 a1 a2 a3 b0 b1 b2 b3 d0 d1 d2 d3
      go_wp2_with fail
      go_cut [12] from 45 to 51 (fun u wx => ∃ o, u = .pointer (some ⟨o, 0, none⟩) ∧ Box wx o ⟨qc, q0, q1, q2, q3, q4, q5, q6, q7⟩ ∧ Box wx p ⟨fc, f0, f1, f2, f3, f4, f5, f6, f7⟩ ∧ Box wx q ⟨sc, s0, s1, s2, s3, s4, s5, s6, s7⟩ ∧ w1.heap.size < o ∧ Ext w1.heap.size qc w0 wx)
      case first =>
        have HS : ∀ c wx, Ext w1.heap.size c wc wx → wx.cell? ⟨p, 0, none⟩ = some (.complex .f32 f0 f1) ∧ wx.cell? ⟨p, 1, none⟩ = some (.complex .f32 f2 f3) ∧ wx.cell? ⟨p, 2, none⟩ = some (.complex .f32 f4 f5) ∧ wx.cell? ⟨p, 3, none⟩ = some (.complex .f32 f6 f7) ∧ wx.cell? ⟨q, 0, none⟩ = some (.complex .f32 s0 s1) ∧ wx.cell? ⟨q, 1, none⟩ = some (.complex .f32 s2 s3) ∧ wx.cell? ⟨q, 2, none⟩ = some (.complex .f32 s4 s5) ∧ wx.cell? ⟨q, 3, none⟩ = some (.complex .f32 s6 s7) ∧ wx.cell? ⟨r, 0, none⟩ = some (.complex .f32 t0 t1) ∧ wx.cell? ⟨r, 1, none⟩ = some (.complex .f32 t2 t3) ∧ wx.cell? ⟨r, 2, none⟩ = some (.complex .f32 t4 t5) ∧ wx.cell? ⟨r, 3, none⟩ = some (.complex .f32 t6 t7) := fun c wx hE => ⟨hE.cell_at a0 np, hE.cell_at a1 np, hE.cell_at a2 np, hE.cell_at a3 np, hE.cell_at b0 nq, hE.cell_at b1 nq, hE.cell_at b2 nq, hE.cell_at b3 nq, hE.cell_at d0 nr, hE.cell_at d1 nr, hE.cell_at d2 nr, hE.cell_at d3 nr⟩
        have hE0 := (Ext.refl hB).drew
        refine wp_region_held_drew (S := fun wx => wx.cell? ⟨p, 0, none⟩ = some (.complex .f32 f0 f1) ∧ wx.cell? ⟨p, 1, none⟩ = some (.complex .f32 f2 f3) ∧ wx.cell? ⟨p, 2, none⟩ = some (.complex .f32 f4 f5) ∧ wx.cell? ⟨p, 3, none⟩ = some (.complex .f32 f6 f7) ∧ wx.cell? ⟨q, 0, none⟩ = some (.complex .f32 s0 s1) ∧ wx.cell? ⟨q, 1, none⟩ = some (.complex .f32 s2 s3) ∧ wx.cell? ⟨q, 2, none⟩ = some (.complex .f32 s4 s5) ∧ wx.cell? ⟨q, 3, none⟩ = some (.complex .f32 s6 s7) ∧ wx.cell? ⟨r, 0, none⟩ = some (.complex .f32 t0 t1) ∧ wx.cell? ⟨r, 1, none⟩ = some (.complex .f32 t2 t3) ∧ wx.cell? ⟨r, 2, none⟩ = some (.complex .f32 t4 t5) ∧ wx.cell? ⟨r, 3, none⟩ = some (.complex .f32 t6 t7)) (by kernel_rfl) (HS _ _ hE0) (fun hHeld => ?_)
        refine wpAnyH_take (i := 0) (oi := { dst := some 45, op := Op.move (Operand.tmp 7), type := 81, pos := "l09_fields.go:68", after := #[], guard := none }) (v := ?_) rfl (by kernel_rfl) (by kernel_rfl) (by kernel_rfl) (fun _ _ _ h => h) (Or.inl ⟨by rfl, ?_⟩) (by assumption) ?_
        rotate_left
        · intro wq hSw; (try dsimp only at hSw); go_simp; try (with_reducible rfl)
        try simp only [Act.put, List.setIfInBounds_toArray, List.set_cons_zero, List.set_cons_succ]
        refine wpAnyH_take (i := 1) (oi := { dst := some 46, op := Op.move (Operand.tmp 7), type := 81, pos := "l09_fields.go:68", after := #[], guard := none }) (v := ?_) rfl (by kernel_rfl) (by kernel_rfl) (by kernel_rfl) (fun _ _ _ h => h) (Or.inl ⟨by rfl, ?_⟩) (by assumption) ?_
        rotate_left
        · intro wq hSw; (try dsimp only at hSw); go_simp; try (with_reducible rfl)
        try simp only [Act.put, List.setIfInBounds_toArray, List.set_cons_zero, List.set_cons_succ]
        refine wpAnyH_take (i := 2) (oi := { dst := some 47, op := Op.load 26 (Operand.tmp 9), type := 26, pos := "l09_fields.go:68", after := #[], guard := none }) (v := ?_) rfl (by kernel_rfl) (by kernel_rfl) (by kernel_rfl) (fun _ _ _ h => h) (Or.inl ⟨by rfl, ?_⟩) (by assumption) ?_
        rotate_left
        · intro wq hSw; (try dsimp only at hSw); go_simp; try (with_reducible rfl)
        try simp only [Act.put, List.setIfInBounds_toArray, List.set_cons_zero, List.set_cons_succ]
        refine wpAnyH_take (i := 3) (oi := { dst := some 48, op := Op.load 26 (Operand.tmp 10), type := 26, pos := "l09_fields.go:68", after := #[], guard := none }) (v := ?_) rfl (by kernel_rfl) (by kernel_rfl) (by kernel_rfl) (fun _ _ _ h => h) (Or.inl ⟨by rfl, ?_⟩) (by assumption) ?_
        rotate_left
        · intro wq hSw; (try dsimp only at hSw); go_simp; try (with_reducible rfl)
        try simp only [Act.put, List.setIfInBounds_toArray, List.set_cons_zero, List.set_cons_succ]
        refine wpAnyH_take (i := 5) (oi := { dst := some 50, op := Op.load 26 (Operand.tmp 11), type := 26, pos := "l09_fields.go:68", after := #[], guard := none }) (v := ?_) rfl (by kernel_rfl) (by kernel_rfl) (by kernel_rfl) (fun _ _ _ h => h) (Or.inl ⟨by rfl, ?_⟩) (by assumption) ?_
        rotate_left
        · intro wq hSw; (try dsimp only at hSw); go_simp; try (with_reducible rfl)
        try simp only [Act.put, List.setIfInBounds_toArray, List.set_cons_zero, List.set_cons_succ]
        refine two_one' (n := 1) 4 6 7 ({ dst := some 49, op := Op.call { callee := Callee.value (Operand.func 87), args := #[Operand.tmp 46, Operand.tmp 47, Operand.tmp 48], argTypes := #[81, 26, 26] }, type := 26, pos := "l09_fields.go:68", after := #[{ on := 1, ground := Ground.data }, { on := 2, ground := Ground.data }, { on := 3, ground := Ground.data }], guard := none }) ({ dst := some 51, op := Op.call { callee := Callee.value (Operand.func 87), args := #[Operand.tmp 45, Operand.tmp 49, Operand.tmp 50], argTypes := #[81, 26, 26] }, type := 26, pos := "l09_fields.go:68", after := #[{ on := 0, ground := Ground.data }, { on := 4, ground := Ground.data }, { on := 5, ground := Ground.data }, { on := 4, ground := Ground.chain }], guard := none }) ({ dst := some 12, op := Op.alloc 26, type := 0, pos := "l09_fields.go:68", after := #[], guard := none }) (fun c1 c2 d => #[true, true, true, true, c1, true, c2, d, false]) (fun c1 c2 d a wx => ∃ v12 v49 v51 : Value, a = ⟨#[V3 x y z, .float .f32 h, .pointer (some ⟨w.heap.size, 0, none⟩), undef, .pointer (some ⟨w.heap.size + 1, 0, none⟩), .int .i64 0, .int .i64 0, .pointer (some ⟨w1.heap.size, 0, none⟩), .float .f32 k2, .pointer (some ⟨p, 0, none⟩), .pointer (some ⟨q, 0, none⟩), .pointer (some ⟨r, 0, none⟩), v12, V3 x y z, .float .f32 h, .slice (some ⟨w.heap.size + 1 + 1, 0, none⟩) 1 1, Sp 0 0 0 0, .int .i64 0, .int .i64 0, .bool false, undef, undef, .agg #[.int .i64 0], .pointer (some ⟨w1.heap.size, 0, none⟩), .pointer (some ⟨w1.heap.size, 0, none⟩), .float .f32 h, .float .f32 k2, u27, u28, u29, u30, u31, u32, u33, u34, u35, u36, u37, u38, u39, u40, u41, u42, u43, u44, .pointer (some ⟨w1.heap.size, 0, none⟩), .pointer (some ⟨w1.heap.size, 0, none⟩), T4 f0 f1 f2 f3 f4 f5 f6 f7, T4 s0 s1 s2 s3 s4 s5 s6 s7, v49, T4 t0 t1 t2 t3 t4 t5 t6 t7, v51, undef, undef, undef, undef, undef, undef, undef, undef, undef, undef, undef], []⟩ ∧ Ext w1.heap.size (bif c2 then qc else bif c1 then pc else tc) wc wx ∧ (c1 = true → v49 = T4 p0 p1 p2 p3 p4 p5 p6 p7) ∧ (c2 = true → v51 = T4 q0 q1 q2 q3 q4 q5 q6 q7) ∧ (d = true → ∃ o, v12 = .pointer (some ⟨o, 0, none⟩) ∧ Zr wc wx w1.heap.size o)) (by rfl) (by kernel_rfl) ?hr (fun _ _ => rfl) (fun _ _ => rfl) (fun _ _ => rfl) rfl rfl rfl ?s1 ?s2 ?t1 ?e ⟨undef, undef, undef, rfl, hE0, (fun h => nomatch h), (fun h => nomatch h), (fun h => nomatch h)⟩
        case hr =>
          intro c1 c2 d h1 h3
          cases c1 <;> cases c2 <;> (first | (exact absurd (h1 rfl) (by decide)) | skip) <;> cases d <;> first | (exact absurd rfl h3) | kernel_rfl
        case s1 =>
          intro d a wx hI K hK
          obtain ⟨v12, v49, v51, rfl, hE, e1, e2, hG⟩ := hI
          have hAx := hE.at_
          simp only [cond_true, cond_false] at hAx
          go_simp
          go_at_call 87
          with_reducible refine (G6.out _ _ hAx).mono ?_; rintro e wA ⟨rfl, hEA⟩
          try simp only [Act.put, List.setIfInBounds_toArray, List.set_cons_zero, List.set_cons_succ]
          refine hK.out _ _ (HS _ _ (Ext.trans hE hEA)) ⟨v12, _, v51, rfl, Ext.trans hE hEA, fun _ => rfl, e2, fun e => (hG e).imp fun _ h => ⟨h.1, h.2.ext hEA⟩⟩
        case s2 =>
          intro d a wx hI K hK
          obtain ⟨v12, v49, v51, rfl, hE, e1, e2, hG⟩ := hI
          have hAx := hE.at_
          simp only [cond_true, cond_false] at hAx
          go_simp
          go_at_call 87
          with_reducible refine (G7.out _ _ hAx).mono ?_; rintro e wA ⟨rfl, hEA⟩
          try simp only [Act.put, List.setIfInBounds_toArray, List.set_cons_zero, List.set_cons_succ]
          refine hK.out _ _ (HS _ _ (Ext.trans hE hEA)) ⟨v12, _, _, rfl, Ext.trans hE hEA, fun _ => rfl, fun _ => rfl, fun e => (hG e).imp fun _ h => ⟨h.1, h.2.ext hEA⟩⟩
        case t1 =>
          intro c1 c2 a wx hI K hK
          obtain ⟨v12, v49, v51, rfl, hE, e1, e2, hG⟩ := hI
          go_simp
          try simp only [Act.put, List.setIfInBounds_toArray, List.set_cons_zero, List.set_cons_succ]
          refine hK.out _ _ (HS _ _ (hE.alloc _)) ⟨_, v49, v51, rfl, hE.alloc _, e1, e2, fun _ => ⟨_, rfl, Zr.new hE.size hE.at_.lt⟩⟩
        case e =>
          intro a wx hI
          obtain ⟨v12, v49, v51, rfl, hE, e1, e2, hG⟩ := hI
          obtain ⟨o, rfl, os, ol, ob, oc, of⟩ := hG rfl
          obtain rfl := e1 rfl
          obtain rfl := e2 rfl
          simp only [cond_true] at hE
          have oc0 := oc 0 (by decide); have oc1 := oc 1 (by decide); have oc2 := oc 2 (by decide); have oc3 := oc 3 (by decide)
          obtain ⟨x0, x1, x2, x3, x4, x5, x6, x7, x8, x9, x10, x11⟩ := HS _ _ hE
          have pl := cell_lt a0
          have ql := cell_lt b0
          have rl := cell_lt d0
          have zo := hX.size
          have op : p ≠ o := by omega
          have oq : q ≠ o := by omega
          have or' : r ≠ o := by omega
          have op' : o ≠ p := by omega
          have oq' : o ≠ q := by omega
          have or'' : o ≠ r := by omega
          have hh := hid (Ext.trans hX hE)
          have zs : w0.heap.size ≤ o := by omega
          clear e1 e2 oc hX hE HS
          refine wpAnyH_ready (rs := [8]) (by kernel_rfl) (by simp) ?_
          refine AllReadyH.cons (o := { dst := none, op := Op.store 26 (Operand.tmp 12) (Operand.tmp 51), type := 0, pos := "l09_fields.go:68", after := #[{ on := 7, ground := Ground.data }, { on := 6, ground := Ground.data }, { on := 6, ground := Ground.chain }, { on := 0, ground := Ground.phase }, { on := 1, ground := Ground.phase }, { on := 2, ground := Ground.phase }, { on := 3, ground := Ground.phase }, { on := 4, ground := Ground.phase }, { on := 5, ground := Ground.phase }, { on := 6, ground := Ground.phase }, { on := 7, ground := Ground.phase }], guard := none }) rfl (fun K hK => ?_) AllReadyH.nil
          go_simp
          refine hK.out _ _ (by refine ⟨?_, ?_, ?_, ?_, ?_, ?_, ?_, ?_, ?_, ?_, ?_, ?_⟩ <;> (go_simp; done)) (fun hHeld => ?_)
          clear hK K
          try simp only [Act.put, List.setIfInBounds_toArray, List.set_cons_zero, List.set_cons_succ]
          refine wpAnyH_done (by kernel_rfl) ?_ _
          go_wp2_with fail
          go_meet
          refine ⟨o, rfl, ⟨?_, ?_, ?_, ?_⟩, ⟨?_, ?_, ?_, ?_⟩, ⟨?_, ?_, ?_, ?_⟩, by omega, ?_⟩
          all_goals first | (go_simp; done) | skip
          exact ((((hh.out.setNew zs ob _).setNew zs ob _).setNew zs ob _).setNew zs ob _)
      case rest =>
        obtain ⟨o, rfl, ⟨o0, o1, o2, o3⟩, ⟨i0, i1, i2, i3⟩, ⟨j0, j1, j2, j3⟩, no', hY⟩ := hcut
        have no : o ≠ w1.heap.size := by omega
        have ow : w.heap.size + 1 ≠ o := by omega
        have pw : w.heap.size + 1 ≠ p := by omega
        have qw : w.heap.size + 1 ≠ q := by omega
        have ow' : o ≠ w.heap.size + 1 := by omega
        have pw' : p ≠ w.heap.size + 1 := by omega
        have qw' : q ≠ w.heap.size + 1 := by omega
        have hC := hY.at_
        simp only at o0 o1 o2 o3 i0 i1 i2 i3 j0 j1 j2 j3
        go_wp2_with fail
        have nn0 := hY.cell_at zc0 n1; have nn1 := hY.cell_at zc1 n1; have nn2 := hY.cell_at zc2 n1; have nn3 := hY.cell_at zc3 n1
        have nf0 := hY.frozen_at m1 zf0 n1; have nf1 := hY.frozen_at m1 zf1 n1; have nf2 := hY.frozen_at m1 zf2 n1; have nf3 := hY.frozen_at m1 zf3 n1
        have sY : w.heap.size + 1 < wc.heap.size := by have := hY.size; omega
        have sY' : w.heap.size + 1 < wc.drew.heap.size := by simpa using sY
        go_region_held3 (fun wx => wx.cell? ⟨o, 0, none⟩ = some (.complex .f32 q0 q1) ∧ wx.cell? ⟨o, 1, none⟩ = some (.complex .f32 q2 q3) ∧ wx.cell? ⟨o, 2, none⟩ = some (.complex .f32 q4 q5) ∧ wx.cell? ⟨o, 3, none⟩ = some (.complex .f32 q6 q7) ∧ wx.cell? ⟨q, 0, none⟩ = some (.complex .f32 s0 s1) ∧ wx.cell? ⟨q, 1, none⟩ = some (.complex .f32 s2 s3) ∧ wx.cell? ⟨q, 2, none⟩ = some (.complex .f32 s4 s5) ∧ wx.cell? ⟨q, 3, none⟩ = some (.complex .f32 s6 s7) ∧ wx.cell? ⟨p, 0, none⟩ = some (.complex .f32 f0 f1) ∧ wx.cell? ⟨p, 1, none⟩ = some (.complex .f32 f2 f3) ∧ wx.cell? ⟨p, 2, none⟩ = some (.complex .f32 f4 f5) ∧ wx.cell? ⟨p, 3, none⟩ = some (.complex .f32 f6 f7)) (((repeat' apply And.intro) <;> (first | (with_reducible assumption) | (go_simp; done))))
          (first | (go_at_call 87; with_reducible refine (G8.out _ _ (by repeat (with_reducible first | assumption | apply At.set | apply At.alloc | apply At.drew | apply At.drewN))).mono ?_; rintro e wC ⟨rfl, hEC⟩; go_split_ands; have hBC := hEC.at_; have xo0 := hEC.cell_at (k := o) (o := 0) (v := .complex .f32 q0 q1) (by go_simp) no; have xo1 := hEC.cell_at (k := o) (o := 1) (v := .complex .f32 q2 q3) (by go_simp) no; have xo2 := hEC.cell_at (k := o) (o := 2) (v := .complex .f32 q4 q5) (by go_simp) no; have xo3 := hEC.cell_at (k := o) (o := 3) (v := .complex .f32 q6 q7) (by go_simp) no; have xq0 := hEC.cell_at (k := q) (o := 0) (v := .complex .f32 s0 s1) (by go_simp) nq; have xq1 := hEC.cell_at (k := q) (o := 1) (v := .complex .f32 s2 s3) (by go_simp) nq; have xq2 := hEC.cell_at (k := q) (o := 2) (v := .complex .f32 s4 s5) (by go_simp) nq; have xq3 := hEC.cell_at (k := q) (o := 3) (v := .complex .f32 s6 s7) (by go_simp) nq; have xp0 := hEC.cell_at (k := p) (o := 0) (v := .complex .f32 f0 f1) (by go_simp) np; have xp1 := hEC.cell_at (k := p) (o := 1) (v := .complex .f32 f2 f3) (by go_simp) np; have xp2 := hEC.cell_at (k := p) (o := 2) (v := .complex .f32 f4 f5) (by go_simp) np; have xp3 := hEC.cell_at (k := p) (o := 3) (v := .complex .f32 f6 f7) (by go_simp) np)
                 | (go_at_call 87; with_reducible refine (G9.out _ _ (by repeat (with_reducible first | assumption | apply At.set | apply At.alloc | apply At.drew | apply At.drewN))).mono ?_; rintro e wD ⟨rfl, hED⟩; go_split_ands; have hBD := hED.at_; have xo0 := hED.cell_at (k := o) (o := 0) (v := .complex .f32 q0 q1) (by go_simp) no; have xo1 := hED.cell_at (k := o) (o := 1) (v := .complex .f32 q2 q3) (by go_simp) no; have xo2 := hED.cell_at (k := o) (o := 2) (v := .complex .f32 q4 q5) (by go_simp) no; have xo3 := hED.cell_at (k := o) (o := 3) (v := .complex .f32 q6 q7) (by go_simp) no; have xq0 := hED.cell_at (k := q) (o := 0) (v := .complex .f32 s0 s1) (by go_simp) nq; have xq1 := hED.cell_at (k := q) (o := 1) (v := .complex .f32 s2 s3) (by go_simp) nq; have xq2 := hED.cell_at (k := q) (o := 2) (v := .complex .f32 s4 s5) (by go_simp) nq; have xq3 := hED.cell_at (k := q) (o := 3) (v := .complex .f32 s6 s7) (by go_simp) nq; have xp0 := hED.cell_at (k := p) (o := 0) (v := .complex .f32 f0 f1) (by go_simp) np; have xp1 := hED.cell_at (k := p) (o := 1) (v := .complex .f32 f2 f3) (by go_simp) np; have xp2 := hED.cell_at (k := p) (o := 2) (v := .complex .f32 f4 f5) (by go_simp) np; have xp3 := hED.cell_at (k := p) (o := 3) (v := .complex .f32 f6 f7) (by go_simp) np)
                 | (go_at_call 68; with_reducible refine (G10.out _ _ (by repeat (with_reducible first | assumption | apply At.set | apply At.alloc | apply At.drew | apply At.drewN))).mono ?_; rintro e wF ⟨rfl, hNF⟩; go_split_ands; have sC : w.heap.size + 1 < wC.heap.size := Nat.lt_of_lt_of_le sY' hEC.size; have sD : w.heap.size + 1 < wD.heap.size := Nat.lt_of_lt_of_le sC hED.size; have tt0 := hNF.cell_at (hED.cell_at (hEC.cell_at (k := w.heap.size + 1) (o := 0) (v := .complex .f32 0 0) (by go_simp) n1) n1); have tf0 := hNF.frozen_at sD (hED.frozen_at sC (hEC.frozen_at (k := w.heap.size + 1) (o := 0) sY' (by go_simp) n1) n1); have tt1 := hNF.cell_at (hED.cell_at (hEC.cell_at (k := w.heap.size + 1) (o := 1) (v := .complex .f32 0 0) (by go_simp) n1) n1); have tf1 := hNF.frozen_at sD (hED.frozen_at sC (hEC.frozen_at (k := w.heap.size + 1) (o := 1) sY' (by go_simp) n1) n1); have tt2 := hNF.cell_at (hED.cell_at (hEC.cell_at (k := w.heap.size + 1) (o := 2) (v := .complex .f32 0 0) (by go_simp) n1) n1); have tf2 := hNF.frozen_at sD (hED.frozen_at sC (hEC.frozen_at (k := w.heap.size + 1) (o := 2) sY' (by go_simp) n1) n1); have tt3 := hNF.cell_at (hED.cell_at (hEC.cell_at (k := w.heap.size + 1) (o := 3) (v := .complex .f32 0 0) (by go_simp) n1) n1); have tf3 := hNF.frozen_at sD (hED.frozen_at sC (hEC.frozen_at (k := w.heap.size + 1) (o := 3) sY' (by go_simp) n1) n1); have xo0 := hNF.cell_at (k := o) (o := 0) (v := .complex .f32 q0 q1) (by go_simp); have xo1 := hNF.cell_at (k := o) (o := 1) (v := .complex .f32 q2 q3) (by go_simp); have xo2 := hNF.cell_at (k := o) (o := 2) (v := .complex .f32 q4 q5) (by go_simp); have xo3 := hNF.cell_at (k := o) (o := 3) (v := .complex .f32 q6 q7) (by go_simp); have xq0 := hNF.cell_at (k := q) (o := 0) (v := .complex .f32 s0 s1) (by go_simp); have xq1 := hNF.cell_at (k := q) (o := 1) (v := .complex .f32 s2 s3) (by go_simp); have xq2 := hNF.cell_at (k := q) (o := 2) (v := .complex .f32 s4 s5) (by go_simp); have xq3 := hNF.cell_at (k := q) (o := 3) (v := .complex .f32 s6 s7) (by go_simp); have xp0 := hNF.cell_at (k := p) (o := 0) (v := .complex .f32 f0 f1) (by go_simp); have xp1 := hNF.cell_at (k := p) (o := 1) (v := .complex .f32 f2 f3) (by go_simp); have xp2 := hNF.cell_at (k := p) (o := 2) (v := .complex .f32 f4 f5) (by go_simp); have xp3 := hNF.cell_at (k := p) (o := 3) (v := .complex .f32 f6 f7) (by go_simp)))
        all_goals
          rename_i hh; clear hh
          go_wp2
          refine bodyPost_ret (v := C8.told ⟨zc, z0, z1, z2, z3, z4, z5, z6, z7⟩) (by simp [results, Try.results36, go_sem, tt0, tt1, tt2, tt3]) rfl ⟨rfl, ?_⟩
          have hW := HN.out _ _ (Ext.trans (Ext.trans hY.drew hEC) hED)
          have g1 : w.heap.size ≤ w.heap.size + 1 := Nat.le_succ _
          exact New.set4 (hW.trans hNF) g1 _ _ _ _

set_option maxHeartbeats 1000000 in
theorem splitStep_c (x y z h : Nat) (w : World) (hx : x < 2 ^ 32) (hy : y < 2 ^ 32) (hz : z < 2 ^ 32) (hh : h < 2 ^ 32) :
    Calls Try.prog 36 #[V3 x y z, .float .f32 h] w fun e w' => e = .returned (splitR x y z h).told ∧ New w w' := by
  cases hf : isFin4 x y z h with
  | false =>
    have hR : splitR x y z h = bad8 1 := if_neg (by simp [hf])
    have HR := hid hR
    have HC := hid (fcode_step x y z h)
    have HF := hid hf
    clear hR hf hx hy hz hh
    go_enter Try.func36, Try.ntmps36
    go_wp2_with fail
    refine (fieldCode_c x y z _ 0 [h] 1 _ _ _ _ true _ (by simp) (fun j hj => ?_)).mono ?_
    · have : j = 0 := by simp at hj; omega
      subst this; go_simp
    · rintro e w1 ⟨rfl, hN⟩
      rw [HC.out, HF.out]
      have hs := hN.size
      simp at hs
      have r0 := hN.cell_at (k := w.heap.size + 1) (o := 0) (v := .complex .f32 0 0) (by go_simp)
      have r1 := hN.cell_at (k := w.heap.size + 1) (o := 1) (v := .complex .f32 0 0) (by go_simp)
      have r2 := hN.cell_at (k := w.heap.size + 1) (o := 2) (v := .complex .f32 0 0) (by go_simp)
      have r3 := hN.cell_at (k := w.heap.size + 1) (o := 3) (v := .complex .f32 0 0) (by go_simp)
      have q0 := hN.frozen_at (k := w.heap.size + 1) (o := 0) (by simp) (by go_simp)
      have q1 := hN.frozen_at (k := w.heap.size + 1) (o := 1) (by simp) (by go_simp)
      have q2 := hN.frozen_at (k := w.heap.size + 1) (o := 2) (by simp) (by go_simp)
      have q3 := hN.frozen_at (k := w.heap.size + 1) (o := 3) (by simp) (by go_simp)
      go_wp2
      refine bodyPost_ret (v := .tuple #[T4 0 0 0 0 0 0 0 0, .int .i64 1]) (by simp [results, Try.results36, go_sem, r0, r1, r2, r3]) rfl ⟨by rw [HR.out]; rfl, ?_⟩
      have g1 : w.heap.size ≤ w.heap.size + 1 := Nat.le_succ _
      refine New.set (p := ⟨w.heap.size + 1, 3, none⟩) ?_ g1 _
      refine New.set (p := ⟨w.heap.size + 1, 2, none⟩) ?_ g1 _
      refine New.set (p := ⟨w.heap.size + 1, 1, none⟩) ?_ g1 _
      refine New.set (p := ⟨w.heap.size + 1, 0, none⟩) ?_ g1 _
      exact ((((New.refl w).alloc _).alloc _).alloc _).trans hN
  | true =>
    have hR : splitR x y z h = toldC (splitM x y z h) := if_pos hf
    rw [hR]
    have hf' := hf
    unfold isFin4 at hf
    simp only [Bool.and_eq_true] at hf
    exact splitStep_g x y z h w ⟨hx, hf.1.1.1⟩ ⟨hy, hf.1.1.2⟩ ⟨hz, hf.1.2⟩ ⟨hh, hf.2⟩ hf'
end Go.Proofs.Ytmbjomjpnfnbkaa
