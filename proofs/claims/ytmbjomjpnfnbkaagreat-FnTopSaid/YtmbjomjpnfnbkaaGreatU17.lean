/-
  Walk of the statement on sequences, tables, vectors and pairs.
-/
import Derived.Test.YtmbjomjpnfnbkaaGreatU9
import Derived.Test.YtmbjomjpnfnbkaaGreatMe
import Derived.Test.YtmbjomjpnfnbkaaGreatMg
import Derived.Test.YtmbjomjpnfnbkaaGreatU16
import Derived.Test.YtmbjomjpnfnbkaaGreatP29
set_option linter.unusedSimpArgs false
set_option linter.unusedVariables false
namespace Go.Proofs.YtmbjomjpnfnbkaaGreat
open Go.RowKit Flt

/-- A table or a pair that stands in a block. -/
structure Has4 (w : World) (b : Nat) (t : C8) : Prop where
  c0 : w.cell? ⟨b, 0, none⟩ = some (.complex .f32 t.a0 t.a1)
  c1 : w.cell? ⟨b, 1, none⟩ = some (.complex .f32 t.b0 t.b1)
  c2 : w.cell? ⟨b, 2, none⟩ = some (.complex .f32 t.c0 t.c1)
  c3 : w.cell? ⟨b, 3, none⟩ = some (.complex .f32 t.d0 t.d1)
theorem Has4.new {w w' : World} {b : Nat} {t : C8} (h : Has4 w b t) (hN : New w w') : Has4 w' b t := ⟨hN.cell_at h.c0, hN.cell_at h.c1, hN.cell_at h.c2, hN.cell_at h.c3⟩
theorem Has4.alloc {w : World} {b : Nat} {t : C8} (h : Has4 w b t) (o : Obj) : Has4 (w.alloc o) b t := ⟨cell_alloc h.c0 o, cell_alloc h.c1 o, cell_alloc h.c2 o, cell_alloc h.c3 o⟩
theorem Has4.made (w : World) (t : C8) (T : TypeId) : Has4 (w.alloc (.cells #[.complex .f32 t.a0 t.a1, .complex .f32 t.b0 t.b1, .complex .f32 t.c0 t.c1, .complex .f32 t.d0 t.d1] T)) w.heap.size t := ⟨by go_simp, by go_simp, by go_simp, by go_simp⟩
/-- A vector that stands in a block. -/
structure Has3 (w : World) (b : Nat) (x y z : Nat) : Prop where
  c0 : w.cell? ⟨b, 0, none⟩ = some (.float .f32 x)
  c1 : w.cell? ⟨b, 1, none⟩ = some (.float .f32 y)
  c2 : w.cell? ⟨b, 2, none⟩ = some (.float .f32 z)
theorem Has3.new {w w' : World} {b x y z : Nat} (h : Has3 w b x y z) (hN : New w w') : Has3 w' b x y z := ⟨hN.cell_at h.c0, hN.cell_at h.c1, hN.cell_at h.c2⟩
theorem Has3.alloc {w : World} {b x y z : Nat} (h : Has3 w b x y z) (o : Obj) : Has3 (w.alloc o) b x y z := ⟨cell_alloc h.c0 o, cell_alloc h.c1 o, cell_alloc h.c2 o⟩
theorem Has3.made (w : World) (x y z : Nat) (T : TypeId) : Has3 (w.alloc (.cells #[.float .f32 x, .float .f32 y, .float .f32 z] T)) w.heap.size x y z := ⟨by go_simp, by go_simp, by go_simp⟩

set_option maxRecDepth 20000 in
set_option maxHeartbeats 2000000 in
theorem fnTop_big (p : Option Addr) (n cap : Nat) (w : World) (h : 4096 < n) :
    Calls Tryz.prog 3 #[.slice p n cap] w fun e w' => e = .returned (.bool true) ∧ New w w' := by
  have hb : decide (4096 < n) = true := by simp [h]
  have HB := hid hb
  clear hb
  go_enter Tryz.func3, Tryz.ntmps3
  go_wp2_with fail
  refine (big_c _ _ _ _).mono ?_; rintro e w1 ⟨rfl, rfl⟩; rw [HB.out]
  go_wp2
  go_ret
  exact ⟨rfl, New.refl w⟩

/-- The list that was drawn. -/
def Ls (base : Nat) (w : World) (q : Option Addr) (cap : Nat) (ps : List PuI) : Prop :=
  (q = none ∧ cap = 0 ∧ ps = []) ∨ ∃ g, q = some ⟨g, 0, none⟩ ∧ w.ownsRow base 61 3 (.slice (some ⟨g, 0, none⟩) ps.length cap) ps.length (pfl ps)
theorem lsI {base : Nat} {w w' : World} {q : Option Addr} {cap : Nat} {ps : List PuI} (h : Ls base w q cap ps) (hN : New w w') (hl : ps.length ≤ 61) :
    Calls Tryz.prog 6 #[.slice q ps.length cap] w' fun e w'' => e = .returned (nz (tabQ ps)).told ∧ New w' w'' := by
  rcases h with ⟨rfl, rfl, rfl⟩ | ⟨g, rfl, hO⟩
  · exact tableOfSequence0_c w'
  · exact tableOfSequence_c g 0 cap ps w' ((own_pfl hO).o.new hN) (by omega) (Nat.lt_of_lt_of_le (own_cap hO).2.2 hN.size)
theorem lsS {base : Nat} {w w' : World} {q : Option Addr} {cap : Nat} {ps : List PuI} (h : Ls base w q cap ps) (hN : New w w') (hl : ps.length ≤ 61) :
    Calls Tryz.prog 7 #[.slice q ps.length cap] w' fun e w'' => e = .returned (nz (tabQ ps)).told ∧ New w' w'' := by
  rcases h with ⟨rfl, rfl, rfl⟩ | ⟨g, rfl, hO⟩
  · exact specTableOfSequence0_c w'
  · exact specTableOfSequence_c g cap ps w' ((own_pfl hO).new hN) (by omega)
theorem lsV {base : Nat} {w w' : World} {q : Option Addr} {cap : Nat} {ps : List PuI} (h : Ls base w q cap ps) (hN : New w w') (hs : seqB ps = true) :
    Calls Tryz.prog 8 #[.slice q ps.length cap] w' fun e w'' => ∃ q' c', e = .returned (.tuple #[.slice q' ps.length c', .int .i64 0]) ∧
      (ps.length ≠ 0 → ∃ g', q' = some ⟨g', 0, none⟩ ∧ ps.length ≤ c' ∧ g' < w''.heap.size ∧ PuHo w'' g' 0 (invL ps)) ∧ New w' w'' := by
  rcases h with ⟨rfl, rfl, rfl⟩ | ⟨g, rfl, hO⟩
  · refine (inverse0_c w').mono ?_
    rintro e w'' ⟨rfl, hN'⟩
    exact ⟨none, 0, rfl, fun h => absurd rfl h, hN'⟩
  · refine (inverse_c g cap ps base w' (own_new hO hN) hs).mono ?_
    rintro e w'' ⟨u', rfl, h1, h2, hN'⟩
    rcases h2 with ⟨rfl, hz⟩ | ⟨g', c', rfl⟩
    · exact ⟨none, 0, by rw [hz], fun h => absurd hz h, hN'⟩
    · exact ⟨_, c', rfl, fun _ => ⟨g', rfl, h1 g' c' rfl⟩, hN'⟩
theorem fw_adj {t : C8} (h : Fw8 t) : Fw8 (nz (adjS t)) := by
  have z : ∀ {x : Nat}, FW x → FW (zn x) := fun h => ⟨zn_lt h.1, zn_fin h.2⟩
  have g : ∀ {x : Nat}, FW x → FW (ng x) := fun h => ⟨ng_lt h.1, h.ng⟩
  exact ⟨z h.a0, z (g h.a1), z h.c0, z (g h.c1), z h.b0, z (g h.b1), z h.d0, z (g h.d1)⟩
/-- One pulse out of the list. -/
theorem lsG {base : Nat} {w : World} {q : Option Addr} {cap : Nat} {ps : List PuI} (h : Ls base w q cap ps) {k : Nat} (hk : k < ps.length) : ∃ g, q = some ⟨g, 0, none⟩ ∧ ps.length ≤ cap ∧ g < w.heap.size ∧ PuHo w g 0 ps := by
  rcases h with ⟨rfl, rfl, rfl⟩ | ⟨g, rfl, hO⟩
  · simp at hk
  · exact ⟨g, rfl, (own_cap hO).1, (own_cap hO).2.2, (own_pfl hO).o⟩
theorem PuHo.one {w : World} {g : Nat} {ps : List PuI} (h : PuHo w g 0 ps) {k : Nat} (hk : k < ps.length) : PuHo w g (k * 3) [ps.getD k PuI.zero] := fun j hj => by
  have hj0 : j = 0 := by simp at hj; omega
  subst hj0
  have := h k hk
  simpa using this
theorem lsOne {w w' : World} {g cap : Nat} {ps : List PuI} (h : PuHo w g 0 ps) (hg : g < w.heap.size) {k : Nat} (hk : k < ps.length) (hN : New w w') :
    Calls Tryz.prog 6 #[.slice (some ⟨g, k * 3, none⟩) 1 cap] w' fun e w'' => e = .returned (nz (tabQ [ps.getD k PuI.zero])).told ∧ New w' w'' :=
  tableOfSequence_c g (k * 3) cap [ps.getD k PuI.zero] w' ((h.one hk).new hN) (by simp) (Nat.lt_of_lt_of_le hg hN.size)
theorem invL_get {ps : List PuI} {k : Nat} (hk : k < ps.length) : (invL ps).length = ps.length ∧ (invL ps).getD (ps.length - 1 - k) PuI.zero = (ps.getD k PuI.zero).inv := by
  have hl : (invL ps).length = ps.length := by simp [invL]
  refine ⟨hl, ?_⟩
  have h1 : ps.length - 1 - k < ps.reverse.length := by simp; omega
  rw [getD_lt (by rw [hl]; omega)]
  unfold invL
  rw [List.getElem_map, ← getD_lt h1, getD_rev ps (by omega)]
  congr 2
  omega

theorem tv1 {s : C8} (hs : Lw8 58 s) {x y z : Nat} (hx : Lw 2 x) (hy : Lw 2 y) (hz : Lw 2 z) (w : World) :
    Calls Tryz.prog 12 #[(nz s).val, V3 x y z] w fun e w' => e = .returned (.tuple #[V3 (turS s (vecB x y z)).c0 (turS s (vecB x y z)).c1 (turS s (vecB x y z)).a0, .int .i64 0]) ∧ New w w' := by
  have hm := vecB_lw hx hy hz
  obtain ⟨e1, l1, e2⟩ := tur1 hs hm
  exact turnVector_c (nz s) (turS s (vecB x y z)) x y z w hs.nz.fw' hx.FW hy.FW hz.FW (fun b w hA =>
    around_c b (nz s) (vecT x y z) _ _ 58 2 62 58 w hs.nz hm.nz l1 (adj_lw hs.nz).nz (by decide) (by decide) (by decide) (by decide) e1 rfl e2 rfl hA)
theorem tv2 {s : C8} (hs : Lw8 58 s) {x y z : Nat} (hx : Lw 2 x) (hy : Lw 2 y) (hz : Lw 2 z) (w : World) :
    Calls Tryz.prog 12 #[(oppS (nz s)).val, V3 x y z] w fun e w' => e = .returned (.tuple #[V3 (turS s (vecB x y z)).c0 (turS s (vecB x y z)).c1 (turS s (vecB x y z)).a0, .int .i64 0]) ∧ New w w' := by
  have hm := vecB_lw hx hy hz
  have ho := (OV8.of hs).lw'
  obtain ⟨e1, l1, e2⟩ := tur2 hs hm
  exact turnVector_c (oppS (nz s)) (turS s (vecB x y z)) x y z w ho.fw' hx.FW hy.FW hz.FW (fun b w hA =>
    around_c b (oppS (nz s)) (vecT x y z) _ _ 58 2 62 58 w ho hm.nz l1 (adj_lw ho).nz (by decide) (by decide) (by decide) (by decide) e1 rfl e2 rfl hA)
theorem Has4.grown {w w1 : World} {b s : Nat} {t : C8} (h : Has4 w b t) (hG : w.grownBy w1 (some s)) (hb : s ≠ b) : Has4 w1 b t :=
  ⟨grown_cell hG (by simpa using hb) h.c0, grown_cell hG (by simpa using hb) h.c1, grown_cell hG (by simpa using hb) h.c2, grown_cell hG (by simpa using hb) h.c3⟩
theorem Has3.grown {w w1 : World} {b s x y z : Nat} (h : Has3 w b x y z) (hG : w.grownBy w1 (some s)) (hb : s ≠ b) : Has3 w1 b x y z :=
  ⟨grown_cell hG (by simpa using hb) h.c0, grown_cell hG (by simpa using hb) h.c1, grown_cell hG (by simpa using hb) h.c2⟩
/-- A pair of small numbers in a block that may be written. -/
structure Pst (w : World) (b : Nat) (P : C8) : Prop where
  has : Has4 w b P
  soft : ∀ o, w.frozen? ⟨b, o, none⟩ = false
  lw : Lw8 2 P
def setP (P : C8) (k x y : Nat) : C8 := match k with
  | 0 => ⟨P.c, x, y, P.b0, P.b1, P.c0, P.c1, P.d0, P.d1⟩
  | 1 => ⟨P.c, P.a0, P.a1, x, y, P.c0, P.c1, P.d0, P.d1⟩
  | 2 => ⟨P.c, P.a0, P.a1, P.b0, P.b1, x, y, P.d0, P.d1⟩
  | _ => ⟨P.c, P.a0, P.a1, P.b0, P.b1, P.c0, P.c1, x, y⟩
theorem Has4.set1 {w : World} {b b' o : Nat} {t : C8} {v : Value} (h : Has4 w b t) (hb : b' ≠ b) : Has4 (w.setCell ⟨b', o, none⟩ v) b t := by
  have e : ∀ o', (⟨b', o, none⟩ : Addr) ≠ ⟨b, o', none⟩ := fun o' h => hb (congrArg Addr.block h)
  refine ⟨?_, ?_, ?_, ?_⟩ <;> rw [World.cell?_setCell_other _ _ _ _ (e _)]
  · exact h.c0
  · exact h.c1
  · exact h.c2
  · exact h.c3
theorem Pst.zero (w : World) (x : Obj) : Pst ((w.alloc x).alloc (.cells #[.complex .f32 0 0, .complex .f32 0 0, .complex .f32 0 0, .complex .f32 0 0] 45)) (w.heap.size + 1) ⟨0, 0, 0, 0, 0, 0, 0, 0, 0⟩ :=
  ⟨⟨by go_simp, by go_simp, by go_simp, by go_simp⟩, fun o => by go_simp, ⟨.zero 2, .zero 2, .zero 2, .zero 2, .zero 2, .zero 2, .zero 2, .zero 2⟩⟩
theorem Pst.grown {w w1 : World} {b s : Nat} {P : C8} (h : Pst w b P) (hG : w.grownBy w1 (some s)) (hb : s ≠ b) : Pst w1 b P :=
  ⟨h.has.grown hG hb, fun o => grown_frozen hG (by simpa using hb) (cell_lt h.has.c0) (h.soft o), h.lw⟩
theorem Pst.at_ {w : World} {b k : Nat} {P : C8} (h : Pst w b P) (hk : k < 4) : ∃ v, w.cell? ⟨b, k, none⟩ = some v := by
  match k, hk with
  | 0, _ => exact ⟨_, h.has.c0⟩
  | 1, _ => exact ⟨_, h.has.c1⟩
  | 2, _ => exact ⟨_, h.has.c2⟩
  | 3, _ => exact ⟨_, h.has.c3⟩
theorem Pst.set {w : World} {b k x y : Nat} {P : C8} (h : Pst w b P) (hk : k < 4) (hx : Lw 2 x) (hy : Lw 2 y) : Pst (w.setCell ⟨b, k, none⟩ (.complex .f32 x y)) b (setP P k x y) := by
  obtain ⟨⟨c0, c1, c2, c3⟩, hs, l⟩ := h
  match k, hk with
  | 0, _ => exact ⟨⟨cell_same c0, by rw [cell_else (by decide)]; exact c1, by rw [cell_else (by decide)]; exact c2, by rw [cell_else (by decide)]; exact c3⟩, fun o => by rw [World.frozen?_setCell]; exact hs o, ⟨hx, hy, l.b0, l.b1, l.c0, l.c1, l.d0, l.d1⟩⟩
  | 1, _ => exact ⟨⟨by rw [cell_else (by decide)]; exact c0, cell_same c1, by rw [cell_else (by decide)]; exact c2, by rw [cell_else (by decide)]; exact c3⟩, fun o => by rw [World.frozen?_setCell]; exact hs o, ⟨l.a0, l.a1, hx, hy, l.c0, l.c1, l.d0, l.d1⟩⟩
  | 2, _ => exact ⟨⟨by rw [cell_else (by decide)]; exact c0, by rw [cell_else (by decide)]; exact c1, cell_same c2, by rw [cell_else (by decide)]; exact c3⟩, fun o => by rw [World.frozen?_setCell]; exact hs o, ⟨l.a0, l.a1, l.b0, l.b1, hx, hy, l.d0, l.d1⟩⟩
  | 3, _ => exact ⟨⟨by rw [cell_else (by decide)]; exact c0, by rw [cell_else (by decide)]; exact c1, by rw [cell_else (by decide)]; exact c2, cell_same c3⟩, fun o => by rw [World.frozen?_setCell]; exact hs o, ⟨l.a0, l.a1, l.b0, l.b1, l.c0, l.c1, hx, hy⟩⟩
theorem tab_of {a' a p' p : C8} {k j : Int} (ha : EV8 k a' a) (hp : EV8 j p' p) (h3 : -149 ≤ k + j) (h4 : k + j ≤ 125) : TabOk a' p' (nz (productS a p)) :=
  ⟨(inTable_e ha.a0 ha.a1 hp.a0 hp.a1 ha.b0 ha.b1 hp.c0 hp.c1 h3 h4).1, (inTable_e ha.a0 ha.a1 hp.b0 hp.b1 ha.b0 ha.b1 hp.d0 hp.d1 h3 h4).1, (inTable_e ha.c0 ha.c1 hp.a0 hp.a1 ha.d0 ha.d1 hp.c0 hp.c1 h3 h4).1, (inTable_e ha.c0 ha.c1 hp.b0 hp.b1 ha.d0 ha.d1 hp.d0 hp.d1 h3 h4).1⟩
theorem tabR_lw {a p : C8} (ha : Lw8 58 a) (hp : Lw8 2 p) : Lw8 62 (productS a p) := (product_law (k := 58) (j := 2) ha hp (by decide) (by decide)).2
theorem turnOne_t1 {a p : C8} (ha : Lw8 58 a) (hp : Lw8 2 p) : Hid (∀ w, Calls Tryz.prog 13 #[(nz a).val, p.val, .int .i64 0] w fun e w' => e = .returned (.tuple #[(nz (productS a p)).val, .int .i64 0]) ∧ New w w') :=
  hid (fun w => turnOne0_c (nz a) p _ 58 2 w ha.nz hp (by decide) (by decide) (tab_of (EV8.nz ha) (EV8.refl hp) (by decide) (by decide)))
theorem turnOne_t2 {a p : C8} (ha : Lw8 58 a) (hp : Lw8 2 p) : Hid (∀ w, Calls Tryz.prog 13 #[(nz a).val, (swp (nz p)).val, .int .i64 1] w fun e w' => e = .returned (.tuple #[(swp (nz (productS a p))).val, .int .i64 0]) ∧ New w w') :=
  hid (fun w => turnOne1_c (nz a) (nz p) _ 58 2 w ha.nz hp.nz (by decide) (by decide) (tab_of (EV8.nz ha) (EV8.nz hp) (by decide) (by decide)))
theorem swapPair_t {r : C8} (hr : Lw8 62 r) : Hid (∀ w, Calls Tryz.prog 14 #[(swp (nz r)).val] w fun e w' => e = .returned (.tuple #[(nz r).val, .int .i64 0]) ∧ New w w') := by
  have h := hr.nz.fw'
  refine hid (fun w => (swapPair_c (swp (nz r)) w ⟨h.a0, h.a1, h.c0, h.c1, h.b0, h.b1, h.d0, h.d1⟩).mono ?_)
  rintro e w' ⟨rfl, hN⟩
  refine ⟨?_, hN⟩
  rw [swp_swp, nz_nz]
theorem nat_of {r : Int} (h0 : 0 ≤ r) (h1 : r < 9) : ∃ k : Nat, r = k ∧ k < 9 := ⟨r.toNat, by omega, by omega⟩
theorem cfr {r : Nat} (h : r < 9) (t : TypeId) (w : World) : (binOp .sub t (.float .f32 (floatOfInt .f32 (r : Int))) (.float .f32 1082130432)).run Tryz.prog w = .ok (.float .f32 (cf r)) w :=
  run_float_arith (P := Tryz.prog) w .sub t .f32 _ _ (cf r) (cf_sub h)

set_option maxRecDepth 20000 in
set_option maxHeartbeats 8000000 in
theorem fnTop_c (cv : Value) (n : Nat) (w : World) (hn : n ≤ 4096) (h : Bs w cv n) (hf : ∃ p cap, cv = .slice p n cap) :
    Calls Tryz.prog 3 #[cv] w fun e w' => e = .returned (.bool true) ∧ New w w' := by
  have hb : decide (4096 < n) = false := by simp; omega
  have HB := hid hb
  have HS := hid h
  clear hb h
  have KB : Hid (∀ w, Calls Tryz.prog 4 #[cv] w fun e w' => e = .returned (.bool (decide (4096 < n))) ∧ w = w') := by
    obtain ⟨p, cap, rfl⟩ := hf
    exact hid (big_c p n cap)
  clear hf
  go_enter Tryz.func3, Tryz.ntmps3
  go_wp2_with fail
  refine (KB.out _).mono ?_; rintro e w1 ⟨rfl, rfl⟩; rw [HB.out]
  go_wp2_with fail
  refine (draw_c cv n _ hn HS.out).mono ?_; rintro e w1 ⟨u, ps, rfl, hl, hO, hN⟩
  have HN1 := hid hN
  have HO := hid hO
  clear hN hO
  obtain ⟨q, cap, rfl, hq⟩ : ∃ q cap, u = .slice q ps.length cap ∧ Ls w.heap.size w1 q cap ps := by
    rcases own_forms HO.out with ⟨rfl, hz⟩ | ⟨g, cap, rfl⟩
    · have hp : ps = [] := List.eq_nil_of_length_eq_zero hz
      subst hp
      exact ⟨none, 0, rfl, .inl ⟨rfl, rfl, rfl⟩⟩
    · exact ⟨_, cap, rfl, .inr ⟨g, rfl, HO.out⟩⟩
  have HQ := hid hq
  have HF := hid (tab_fw ps)
  have KI := hid (fun w' hN => lsI (w' := w') HQ.out hN hl)
  have KS := hid (fun w' hN => lsS (w' := w') HQ.out hN hl)
  have KV := hid (fun w' hN hs => lsV (w' := w') HQ.out hN hs)
  have HB1 := hid (HS.out.new HN1.out)
  have Hg : Hid (∀ g o c, cv = .slice (some ⟨g, o, none⟩) n c → g < w.heap.size) := hid (fun g o c e => by
    rcases HS.out with ⟨g', o', c', e', hg, _⟩ | ⟨e', _⟩
    · rw [e] at e'; injection e' with e1; injection e1 with e2; injection e2 with e3; omega
    · rw [e] at e'; injection e' with e1; cases e1)
  clear hq HO HS KB HB
  have hD : (seqB ps = false ∧ (nz (tabQ ps)).c = 1) ∨ (seqB ps = true ∧ (nz (tabQ ps)).c = 0) := by
    cases hs : seqB ps with
    | false => exact .inl ⟨rfl, tab_code_bad hs⟩
    | true => exact .inr ⟨rfl, tab_code hs⟩
  generalize hT : nz (tabQ ps) = T at *
  have HT := hid hT
  clear hT
  obtain ⟨tc, t0, t1, t2, t3, t4, t5, t6, t7⟩ := T
  simp only at hD
  have HD := hid hD
  clear hD
  go_wp2_with fail
  refine (KI.out w1 (New.refl _)).mono ?_; rintro e w2 ⟨rfl, hN2⟩
  have HN2 := hid hN2
  clear hN2
  go_wp2_with fail
  refine (KS.out _ (HN2.out.alloc _)).mono ?_; rintro e w3 ⟨rfl, hN3⟩
  have A3 := (Has4.made w2 ⟨tc, t0, t1, t2, t3, t4, t5, t6, t7⟩ 29).new hN3
  have q0 : ∀ o, (w3.alloc o).cell? ⟨w2.heap.size, 0, none⟩ = some (.complex .f32 t0 t1) := fun o => (A3.alloc o).c0
  have q1 : ∀ o, (w3.alloc o).cell? ⟨w2.heap.size, 1, none⟩ = some (.complex .f32 t2 t3) := fun o => (A3.alloc o).c1
  have q2 : ∀ o, (w3.alloc o).cell? ⟨w2.heap.size, 2, none⟩ = some (.complex .f32 t4 t5) := fun o => (A3.alloc o).c2
  have q3 : ∀ o, (w3.alloc o).cell? ⟨w2.heap.size, 3, none⟩ = some (.complex .f32 t6 t7) := fun o => (A3.alloc o).c3
  have HA3 := hid A3
  have HN3 := hid ((HN2.out.alloc (Obj.cells #[.complex .f32 t0 t1, .complex .f32 t2 t3, .complex .f32 t4 t5, .complex .f32 t6 t7] 29)).trans hN3)
  have kt : ∀ w, (binOp .neq 29 (T4 t0 t1 t2 t3 t4 t5 t6 t7) (T4 t0 t1 t2 t3 t4 t5 t6 t7)).run Tryz.prog w = .ok (.bool false) w := fun w => run_neq_turn ⟨tc, t0, t1, t2, t3, t4, t5, t6, t7⟩ HF.out w
  clear hN3 A3
  rcases HD.out with ⟨hsq, rfl⟩ | ⟨hsq, rfl⟩
  · clear hsq
    go_wp2
    go_ret
    exact ⟨rfl, HN1.out.trans (HN3.out.alloc _)⟩
  have HSQ := hid hsq
  clear hsq HD
  go_wp2_with fail
  refine (KV.out _ (HN3.out.alloc _) HSQ.out).mono ?_; rintro e w4 ⟨q', cap', rfl, hq', hN4⟩
  have HN4 := hid ((HN3.out.alloc (Obj.cells #[.complex .f32 t0 t1, .complex .f32 t2 t3, .complex .f32 t4 t5, .complex .f32 t6 t7] 29)).trans hN4)
  have HA4 := hid ((HA3.out.alloc (Obj.cells #[.complex .f32 t0 t1, .complex .f32 t2 t3, .complex .f32 t4 t5, .complex .f32 t6 t7] 29)).new hN4)
  have HQ' := hid hq'
  clear hN4 hq' q0 q1 q2 q3 kt HA3 HN3 HN2
  have b0 : w2.heap.size < w4.heap.size := cell_lt HA4.out.c0
  go_wp2_with fail
  go_loopw [10] (fun i wr => ∃ k : Nat, k ≤ ps.length ∧ i = .int .i64 k ∧ Hid (New w4 wr)) (fun i _ => ps.length - (intOf i).toNat)
  case atStart => exact ⟨0, Nat.zero_le _, rfl, hid (New.refl _)⟩
  case round =>
    obtain ⟨k, hk, rfl, HNr⟩ := hrel
    by_cases hlt : k < ps.length
    · have hltI : (k : Int) < (ps.length : Int) := by omega
      obtain ⟨g, rfl, hcap, hgw, hP⟩ := lsG HQ.out hlt
      obtain ⟨g', rfl, hcap', hgw', hP'⟩ := HQ'.out (by omega)
      have HP := hid hP
      have HP' := hid hP'
      clear hP hP'
      have wr1 : IntKind.i64.wrap ((k : Int) + 1) = (k : Int) + 1 := wrap_small (by omega) (by omega)
      obtain ⟨m, hm⟩ : ∃ m : Nat, (ps.length : Int) - 1 - k = m := ⟨ps.length - 1 - k, by omega⟩
      have hmk : m + k + 1 = ps.length := by omega
      have wr2 : IntKind.i64.wrap ((ps.length : Int) - 1) = (ps.length : Int) - 1 := wrap_small (by omega) (by omega)
      have wr3 : IntKind.i64.wrap ((ps.length : Int) - 1 - (k : Int)) = (m : Int) := by rw [hm]; exact wrap_small (by omega) (by omega)
      have wr4 : IntKind.i64.wrap ((ps.length : Int) - (k : Int)) = (m : Int) + 1 := by rw [show (ps.length : Int) - (k : Int) = (m : Int) + 1 by omega]; exact wrap_small (by omega) (by omega)
      clear hm
      have hok : (ps.getD k PuI.zero).okB = true := by
        have h1 := HSQ.out
        unfold seqB at h1
        simp only [Bool.and_eq_true] at h1
        rw [getD_lt hlt]
        exact List.all_eq_true.1 h1.1 _ (List.getElem_mem _)
      have KB1 := hid (fun w' hN => lsOne (cap := cap - k) (w' := w') HP.out hgw hlt hN)
      have KC1 := hid (fun w' hN => lsOne (ps := invL ps) (k := m) (cap := cap' - m) (w' := w') HP'.out hgw' (by rw [(invL_get hlt).1]; omega) hN)
      rw [show m = ps.length - 1 - k by omega, (invL_get hlt).2, show nz (tabQ [(ps.getD k PuI.zero).inv]) = nz (adjS (nz (tabQ [ps.getD k PuI.zero]))) from back_tab hok, show ps.length - 1 - k = m by omega] at KC1
      have hBf := tab_fw [ps.getD k PuI.zero]
      have hBc := tab_code (one_ok hok)
      generalize nz (tabQ [ps.getD k PuI.zero]) = B at *
      have KD := hid (fun w => adjointOf_c B w hBf hBc)
      have hDf : Fw8 (nz (adjS B)) := fw_adj hBf
      have hDc : (nz (adjS B)).c = 0 := hBc
      generalize nz (adjS B) = D at *
      have kt : ∀ w, (binOp .neq 29 (T4 D.a0 D.a1 D.b0 D.b1 D.c0 D.c1 D.d0 D.d1) (T4 D.a0 D.a1 D.b0 D.b1 D.c0 D.c1 D.d0 D.d1)).run Tryz.prog w = .ok (.bool false) w := fun w => run_neq_turn D hDf w
      obtain ⟨bc, b0, b1, b2, b3, b4, b5, b6, b7⟩ := B
      obtain ⟨dc, d0, d1, d2, d3, d4, d5, d6, d7⟩ := D
      simp only at hBc hDc kt
      subst hBc hDc
      clear hBf hDf hok
      go_wp2_with fail
      with_reducible refine (KB1.out _ (HN4.out.trans HNr.out)).mono ?_; rintro e w5 ⟨rfl, hN5⟩
      have HN5 := hid (HNr.out.trans hN5)
      clear hN5
      go_wp2_with fail
      with_reducible refine (KC1.out _ (HN5.out.alloc _)).mono ?_; rintro e w6 ⟨rfl, hN6⟩
      have B6 := hid ((Has4.made w5 ⟨0, b0, b1, b2, b3, b4, b5, b6, b7⟩ 29).new hN6)
      have HN6 := hid ((HN5.out.alloc (Obj.cells #[.complex .f32 b0 b1, .complex .f32 b2 b3, .complex .f32 b4 b5, .complex .f32 b6 b7] 29)).trans hN6)
      have q0 : ∀ o, (w6.alloc o).cell? ⟨w5.heap.size, 0, none⟩ = some (.complex .f32 b0 b1) := fun o => (B6.out.alloc o).c0
      have q1 : ∀ o, (w6.alloc o).cell? ⟨w5.heap.size, 1, none⟩ = some (.complex .f32 b2 b3) := fun o => (B6.out.alloc o).c1
      have q2 : ∀ o, (w6.alloc o).cell? ⟨w5.heap.size, 2, none⟩ = some (.complex .f32 b4 b5) := fun o => (B6.out.alloc o).c2
      have q3 : ∀ o, (w6.alloc o).cell? ⟨w5.heap.size, 3, none⟩ = some (.complex .f32 b6 b7) := fun o => (B6.out.alloc o).c3
      clear hN6
      go_wp2_with fail
      with_reducible refine (KD.out _).mono ?_; rintro e w7 ⟨rfl, hN7⟩
      have C7 := hid ((Has4.made w6 ⟨0, d0, d1, d2, d3, d4, d5, d6, d7⟩ 29).new hN7)
      have HN7 := hid ((HN6.out.alloc (Obj.cells #[.complex .f32 d0 d1, .complex .f32 d2 d3, .complex .f32 d4 d5, .complex .f32 d6 d7] 29)).trans hN7)
      have r0 : ∀ o, (w7.alloc o).cell? ⟨w6.heap.size, 0, none⟩ = some (.complex .f32 d0 d1) := fun o => (C7.out.alloc o).c0
      have r1 : ∀ o, (w7.alloc o).cell? ⟨w6.heap.size, 1, none⟩ = some (.complex .f32 d2 d3) := fun o => (C7.out.alloc o).c1
      have r2 : ∀ o, (w7.alloc o).cell? ⟨w6.heap.size, 2, none⟩ = some (.complex .f32 d4 d5) := fun o => (C7.out.alloc o).c2
      have r3 : ∀ o, (w7.alloc o).cell? ⟨w6.heap.size, 3, none⟩ = some (.complex .f32 d6 d7) := fun o => (C7.out.alloc o).c3
      clear hN7 q0 q1 q2 q3
      go_wp2_with fail
      go_roundw
      case rel => exact ⟨k + 1, by omega, by simp, hid (HN7.out.alloc _)⟩
      case measure => simp [intOf]; omega
    · have hltI : ¬ (k : Int) < (ps.length : Int) := by omega
      rename World => wa
      have HA5 := hid (HA4.out.new HNr.out)
      have HW5 := hid (HN4.out.trans HNr.out)
      have hwr := HNr.out.size
      clear HA4 HQ HQ' KI KS KV
      go_wp2_with fail
      with_reducible refine (roll_c 970 cv n _ hn (HB1.out.new HW5.out)).mono ?_; rintro e w5 ⟨s, hs5, rfl, hS5, hN5⟩
      have hws := hS5.lt
      have HS5 := hid hS5
      have HA6 := hid (HA5.out.new hN5)
      have HN5 := hid hN5
      clear hS5 hN5 HA5
      have hsb : s ≠ w2.heap.size := by omega
      go_wp2_with fail
      with_reducible refine (below_c s n cv 9 _ (by decide) (by decide) HS5.out).mono ?_; rintro e w6 ⟨r, r0, r1, rfl, hS6, hG6⟩
      obtain ⟨x, rfl, hx⟩ := nat_of r0 r1
      have HS6 := hid hS6
      have HA7 := hid (HA6.out.grown hG6 hsb)
      have HN6 := hid (HN5.out.grown hG6 hs5)
      clear hS6 hG6 r0 r1 HS5 HA6 HN5
      have k1 := cfr hx
      go_wp2_with fail
      with_reducible refine (below_c s n cv 9 _ (by decide) (by decide) HS6.out).mono ?_; rintro e w7 ⟨r, r0, r1, rfl, hS7, hG7⟩
      obtain ⟨y, rfl, hy⟩ := nat_of r0 r1
      have HS7 := hid hS7
      have HA8 := hid (HA7.out.grown hG7 hsb)
      have HN7 := hid (HN6.out.grown hG7 hs5)
      clear hS7 hG7 r0 r1 HS6 HA7 HN6 k1
      have k1 := cfr hy
      go_wp2_with fail
      with_reducible refine (below_c s n cv 9 _ (by decide) (by decide) HS7.out).mono ?_; rintro e w8 ⟨r, r0, r1, rfl, hS8, hG8⟩
      obtain ⟨z, rfl, hz⟩ := nat_of r0 r1
      have HS8 := hid hS8
      have HA9 := hid (HA8.out.grown hG8 hsb)
      have HN8 := hid (HN7.out.grown hG8 hs5)
      clear hS8 hG8 r0 r1 HS7 HA8 HN7 k1
      have k1 := cfr hz
      have hlx := (cf_ok hx).2
      have hly := (cf_ok hy).2
      have hlz := (cf_ok hz).2
      have KT1 := hid (tv1 (seq_lw HSQ.out) hlx hly hlz)
      have KT2 := hid (tv2 (seq_lw HSQ.out) hlx hly hlz)
      have hRf := turS_fw (seq_lw HSQ.out) (vecB_lw hlx hly hlz)
      rw [HT.out] at KT1 KT2
      generalize turS (tabQ ps) (vecB (cf x) (cf y) (cf z)) = R at *
      obtain ⟨rc, r0, r1, r2, r3, r4, r5, r6, r7⟩ := R
      have kv : ∀ w, (binOp .neq 41 (V3 r4 r5 r0) (V3 r4 r5 r0)).run Tryz.prog w = .ok (.bool false) w := fun w => run_neq_vec r4 r5 r0 hRf.c0.2 hRf.c1.2 hRf.a0.2 w
      have HX := hid hx
      have HY := hid hy
      have HZ := hid hz
      clear hlx hly hlz hRf hx hy hz
      generalize cf x = vx at *
      generalize cf y = vy at *
      generalize cf z = vz at *
      have a0 : ∀ o, (w8.alloc o).cell? ⟨w2.heap.size, 0, none⟩ = some (.complex .f32 t0 t1) := fun o => (HA9.out.alloc o).c0
      have a1 : ∀ o, (w8.alloc o).cell? ⟨w2.heap.size, 1, none⟩ = some (.complex .f32 t2 t3) := fun o => (HA9.out.alloc o).c1
      have a2 : ∀ o, (w8.alloc o).cell? ⟨w2.heap.size, 2, none⟩ = some (.complex .f32 t4 t5) := fun o => (HA9.out.alloc o).c2
      have a3 : ∀ o, (w8.alloc o).cell? ⟨w2.heap.size, 3, none⟩ = some (.complex .f32 t6 t7) := fun o => (HA9.out.alloc o).c3
      have b0 : ∀ o o', ((w8.alloc o).alloc o').cell? ⟨w2.heap.size, 0, none⟩ = some (.complex .f32 t0 t1) := fun o o' => ((HA9.out.alloc o).alloc o').c0
      have b1 : ∀ o o', ((w8.alloc o).alloc o').cell? ⟨w2.heap.size, 1, none⟩ = some (.complex .f32 t2 t3) := fun o o' => ((HA9.out.alloc o).alloc o').c1
      have b2 : ∀ o o', ((w8.alloc o).alloc o').cell? ⟨w2.heap.size, 2, none⟩ = some (.complex .f32 t4 t5) := fun o o' => ((HA9.out.alloc o).alloc o').c2
      have b3 : ∀ o o', ((w8.alloc o).alloc o').cell? ⟨w2.heap.size, 3, none⟩ = some (.complex .f32 t6 t7) := fun o o' => ((HA9.out.alloc o).alloc o').c3
      have kn := fun a b w => neg_cx a b w
      simp only [oppS] at KT2
      generalize hn0 : ng t0 = n0 at *
      generalize hn1 : ng t1 = n1 at *
      generalize hn2 : ng t2 = n2 at *
      generalize hn3 : ng t3 = n3 at *
      generalize hn4 : ng t4 = n4 at *
      generalize hn5 : ng t5 = n5 at *
      generalize hn6 : ng t6 = n6 at *
      generalize hn7 : ng t7 = n7 at *
      have kn0 := fun w => neg_cx t0 t1 w
      have kn1 := fun w => neg_cx t2 t3 w
      have kn2 := fun w => neg_cx t4 t5 w
      have kn3 := fun w => neg_cx t6 t7 w
      rw [show Op.negFloat .f32 t0 = n0 from hn0, show Op.negFloat .f32 t1 = n1 from hn1] at kn0
      rw [show Op.negFloat .f32 t2 = n2 from hn2, show Op.negFloat .f32 t3 = n3 from hn3] at kn1
      rw [show Op.negFloat .f32 t4 = n4 from hn4, show Op.negFloat .f32 t5 = n5 from hn5] at kn2
      rw [show Op.negFloat .f32 t6 = n6 from hn6, show Op.negFloat .f32 t7 = n7 from hn7] at kn3
      clear hn0 hn1 hn2 hn3 hn4 hn5 hn6 hn7 kn
      go_wp2_with fail
      with_reducible refine (KT1.out _).mono ?_; rintro e w9 ⟨rfl, hN9⟩
      clear a0 a1 a2 a3 b0 b1 b2 b3 kn0 kn1 kn2 kn3 k1
      have V9 : Hid (Has3 w9 w8.heap.size vx vy vz) := hid (((Has3.made w8 vx vy vz 41).alloc _).new hN9)
      have O9 : Hid (Has4 w9 (w8.heap.size + 1) ⟨0, n0, n1, n2, n3, n4, n5, n6, n7⟩) := hid (Has4.new ⟨by go_simp, by go_simp, by go_simp, by go_simp⟩ hN9)
      have A9 := hid (((HA9.out.alloc (Obj.cells #[.float .f32 vx, .float .f32 vy, .float .f32 vz] 41)).alloc (Obj.cells #[.complex .f32 n0 n1, .complex .f32 n2 n3, .complex .f32 n4 n5, .complex .f32 n6 n7] 29)).new hN9)
      have HN9 := hid (((HN8.out.alloc (Obj.cells #[.float .f32 vx, .float .f32 vy, .float .f32 vz] 41)).alloc (Obj.cells #[.complex .f32 n0 n1, .complex .f32 n2 n3, .complex .f32 n4 n5, .complex .f32 n6 n7] 29)).trans hN9)
      have HS9 := hid (((HS8.out.new ((New.refl _).alloc (Obj.cells #[.float .f32 vx, .float .f32 vy, .float .f32 vz] 41))).new ((New.refl _).alloc (Obj.cells #[.complex .f32 n0 n1, .complex .f32 n2 n3, .complex .f32 n4 n5, .complex .f32 n6 n7] 29))).new hN9)
      clear hN9 HA9 HN8 HS8
      have c0 : ∀ o, (w9.alloc o).cell? ⟨w8.heap.size + 1, 0, none⟩ = some (.complex .f32 n0 n1) := fun o => (O9.out.alloc o).c0
      have c1 : ∀ o, (w9.alloc o).cell? ⟨w8.heap.size + 1, 1, none⟩ = some (.complex .f32 n2 n3) := fun o => (O9.out.alloc o).c1
      have c2 : ∀ o, (w9.alloc o).cell? ⟨w8.heap.size + 1, 2, none⟩ = some (.complex .f32 n4 n5) := fun o => (O9.out.alloc o).c2
      have c3 : ∀ o, (w9.alloc o).cell? ⟨w8.heap.size + 1, 3, none⟩ = some (.complex .f32 n6 n7) := fun o => (O9.out.alloc o).c3
      have d0 : ∀ o, (w9.alloc o).cell? ⟨w8.heap.size, 0, none⟩ = some (.float .f32 vx) := fun o => (V9.out.alloc o).c0
      have d1 : ∀ o, (w9.alloc o).cell? ⟨w8.heap.size, 1, none⟩ = some (.float .f32 vy) := fun o => (V9.out.alloc o).c1
      have d2 : ∀ o, (w9.alloc o).cell? ⟨w8.heap.size, 2, none⟩ = some (.float .f32 vz) := fun o => (V9.out.alloc o).c2
      go_wp2_with fail
      with_reducible refine (KT2.out _).mono ?_; rintro e w10 ⟨rfl, hN10⟩
      clear c0 c1 c2 c3 d0 d1 d2 O9 V9
      have W10 := hid ((Has3.made w9 r4 r5 r0 41).new hN10)
      have A10 := hid ((A9.out.alloc (Obj.cells #[.float .f32 r4, .float .f32 r5, .float .f32 r0] 41)).new hN10)
      have HN10 := hid ((HN9.out.alloc (Obj.cells #[.float .f32 r4, .float .f32 r5, .float .f32 r0] 41)).trans hN10)
      have HS10 := hid ((HS9.out.new ((New.refl _).alloc (Obj.cells #[.float .f32 r4, .float .f32 r5, .float .f32 r0] 41))).new hN10)
      clear hN10 A9 HN9 HS9
      have c0 : ∀ o, (w10.alloc o).cell? ⟨w9.heap.size, 0, none⟩ = some (.float .f32 r4) := fun o => (W10.out.alloc o).c0
      have c1 : ∀ o, (w10.alloc o).cell? ⟨w9.heap.size, 1, none⟩ = some (.float .f32 r5) := fun o => (W10.out.alloc o).c1
      have c2 : ∀ o, (w10.alloc o).cell? ⟨w9.heap.size, 2, none⟩ = some (.float .f32 r0) := fun o => (W10.out.alloc o).c2
      go_wp2_with fail
      clear c0 c1 c2 W10
      have hsz10 := cell_lt A10.out.c0
      have hs10 := HS10.out.lt
      have A11 := hid ((A10.out.alloc (Obj.cells #[.float .f32 r4, .float .f32 r5, .float .f32 r0] 41)).alloc (Obj.cells #[.complex .f32 0 0, .complex .f32 0 0, .complex .f32 0 0, .complex .f32 0 0] 45))
      have HN11 := hid ((HN10.out.alloc (Obj.cells #[.float .f32 r4, .float .f32 r5, .float .f32 r0] 41)).alloc (Obj.cells #[.complex .f32 0 0, .complex .f32 0 0, .complex .f32 0 0, .complex .f32 0 0] 45))
      have HS11 := hid ((HS10.out.new ((New.refl _).alloc (Obj.cells #[.float .f32 r4, .float .f32 r5, .float .f32 r0] 41))).new ((New.refl _).alloc (Obj.cells #[.complex .f32 0 0, .complex .f32 0 0, .complex .f32 0 0, .complex .f32 0 0] 45)))
      clear A10 HN10 HS10 kv KT1 KT2
      have hsz : s ≠ w10.heap.size + 1 := by omega
      go_loopw [25] (fun i wx => ∃ (k : Nat) (P : C8), k ≤ 4 ∧ i = .int .i64 k ∧ Hid (Pst wx (w10.heap.size + 1) P) ∧ Hid (Has4 wx w2.heap.size ⟨0, t0, t1, t2, t3, t4, t5, t6, t7⟩) ∧ Hid (Sc wx s cv n) ∧ Hid (New wa wx)) (fun i _ => 4 - (intOf i).toNat)
      case atStart => exact ⟨0, ⟨0, 0, 0, 0, 0, 0, 0, 0, 0⟩, by omega, rfl, hid (Pst.zero w10 _), A11, HS11, HN11⟩
      case round =>
        obtain ⟨k, P, hk, rfl, HP, HA, HS, HN⟩ := hrel
        by_cases hlt : k < 4
        · have hltI : (k : Int) < 4 := by omega
          have hw1 : IntKind.i64.wrap ((k : Int) + 1) = (k : Int) + 1 := wrap_small (by omega) (by omega)
          go_wp2_with fail
          with_reducible refine (below_c s n cv 9 _ (by decide) (by decide) HS.out).mono ?_; rintro e w12 ⟨r, r0, r1, rfl, hS, hG⟩
          obtain ⟨x, rfl, hx⟩ := nat_of r0 r1
          have HS2 := hid hS
          have HA2 := hid (HA.out.grown hG hsb)
          have HP2 := hid (HP.out.grown hG hsz)
          have HN2 := hid (HN.out.grown hG hs5)
          clear hS hG r0 r1 HS HA HP HN
          have k1 := cfr hx
          go_wp2_with fail
          with_reducible refine (below_c s n cv 9 _ (by decide) (by decide) HS2.out).mono ?_; rintro e w13 ⟨r, r0, r1, rfl, hS, hG⟩
          obtain ⟨y, rfl, hy⟩ := nat_of r0 r1
          have HS3 := hid hS
          have HA3 := hid (HA2.out.grown hG hsb)
          have HP3 := hid (HP2.out.grown hG hsz)
          have HN3 := hid (HN2.out.grown hG hs5)
          clear hS hG r0 r1 HS2 HA2 HP2 HN2
          have k2 := cfr hy
          have hlx := (cf_ok hx).2
          have hly := (cf_ok hy).2
          obtain ⟨v, hv⟩ := HP3.out.at_ hlt
          have hf := HP3.out.soft k
          have HX := hid hx
          have HY := hid hy
          clear hx hy
          generalize cf x = vx at *
          generalize cf y = vy at *
          have HP4 := hid (HP3.out.set hlt hlx hly)
          have hge4 : wa.heap.size ≤ w10.heap.size + 1 := by omega
          have HN4' := hid (New.set (p := ⟨w10.heap.size + 1, k, none⟩) HN3.out hge4 (.complex .f32 vx vy))
          have HA4' := hid (HA3.out.set1 (b' := w10.heap.size + 1) (o := k) (v := .complex .f32 vx vy) (by omega))
          have HS4' := hid (HS3.out.grown (r := some (w10.heap.size + 1)) ((Grow.refl w13 _).set (w10.heap.size + 1) k (.complex .f32 vx vy) rfl) (by simpa using (Ne.symm hsz)) (fun g o c e => .inr (by have := Hg.out g o c e; have h1 := HN1.out.size; have h2 := HW5.out.size; simp; omega)))
          clear hlx hly HP3 HN3 HA3 HS3
          go_wp2_with fail
          go_roundw
          case rel => exact ⟨k + 1, setP P k vx vy, by omega, by simp, HP4, HA4', HS4', HN4'⟩
          case measure => simp [intOf]; omega
        · have hltI : ¬ (k : Int) < 4 := by omega
          rename World => wb
          obtain ⟨PH, PS, hpl⟩ := HP.out
          have hsl := seq_lw HSQ.out
          have KT1 := turnOne_t1 hsl hpl
          have KT2 := turnOne_t2 hsl hpl
          have KS1 := hid (fun w => swapPair_c P w hpl.fw')
          have hrl := tabR_lw hsl hpl
          have KS2 := swapPair_t hrl
          have hrf := hrl.nz.fw'
          rw [HT.out] at KT1 KT2
          rw [show (nz (swp P)) = swp (nz P) from rfl] at KS1
          generalize nz (productS (tabQ ps) P) = R at *
          generalize swp (nz P) = S at *
          obtain ⟨Q, hQ⟩ : ∃ Q, swp R = Q := ⟨_, rfl⟩
          rw [hQ] at KT2 KS2
          have ke : ∀ w, (binOp .eql 45 (T4 R.a0 R.a1 R.b0 R.b1 R.c0 R.c1 R.d0 R.d1) (T4 R.a0 R.a1 R.b0 R.b1 R.c0 R.c1 R.d0 R.d1)).run Tryz.prog w = .ok (.bool true) w := fun w => run_eql_pair R hrf w
          clear hQ hrf hrl hsl hpl
          obtain ⟨pc, p0, p1, p2, p3, p4, p5, p6, p7⟩ := P
          obtain ⟨rc', m0, m1, m2, m3, m4, m5, m6, m7⟩ := R
          obtain ⟨sc', s0, s1, s2, s3, s4, s5, s6, s7⟩ := S
          obtain ⟨qc', g0, g1, g2, g3, g4, g5, g6, g7⟩ := Q
          simp only at ke
          have a0 : wb.cell? ⟨w2.heap.size, 0, none⟩ = some (.complex .f32 t0 t1) := HA.out.c0
          have a1 : wb.cell? ⟨w2.heap.size, 1, none⟩ = some (.complex .f32 t2 t3) := HA.out.c1
          have a2 : wb.cell? ⟨w2.heap.size, 2, none⟩ = some (.complex .f32 t4 t5) := HA.out.c2
          have a3 : wb.cell? ⟨w2.heap.size, 3, none⟩ = some (.complex .f32 t6 t7) := HA.out.c3
          have e0 : wb.cell? ⟨w10.heap.size + 1, 0, none⟩ = some (.complex .f32 p0 p1) := PH.c0
          have e1 : wb.cell? ⟨w10.heap.size + 1, 1, none⟩ = some (.complex .f32 p2 p3) := PH.c1
          have e2 : wb.cell? ⟨w10.heap.size + 1, 2, none⟩ = some (.complex .f32 p4 p5) := PH.c2
          have e3 : wb.cell? ⟨w10.heap.size + 1, 3, none⟩ = some (.complex .f32 p6 p7) := PH.c3
          have HPH := hid PH
          clear PH PS HP
          go_wp2_with fail
          with_reducible refine (KT1.out _).mono ?_; rintro e wc ⟨rfl, hNc⟩
          clear a0 a1 a2 a3 e0 e1 e2 e3
          have Ac := hid (HA.out.new hNc)
          have Pc := hid (HPH.out.new hNc)
          have HNc := hid (HN.out.trans hNc)
          clear hNc HA HPH HN HS
          have e0 : ∀ o, (wc.alloc o).cell? ⟨w10.heap.size + 1, 0, none⟩ = some (.complex .f32 p0 p1) := fun o => (Pc.out.alloc o).c0
          have e1 : ∀ o, (wc.alloc o).cell? ⟨w10.heap.size + 1, 1, none⟩ = some (.complex .f32 p2 p3) := fun o => (Pc.out.alloc o).c1
          have e2 : ∀ o, (wc.alloc o).cell? ⟨w10.heap.size + 1, 2, none⟩ = some (.complex .f32 p4 p5) := fun o => (Pc.out.alloc o).c2
          have e3 : ∀ o, (wc.alloc o).cell? ⟨w10.heap.size + 1, 3, none⟩ = some (.complex .f32 p6 p7) := fun o => (Pc.out.alloc o).c3
          go_wp2_with fail
          with_reducible refine (KS1.out _).mono ?_; rintro e wd ⟨rfl, hNd⟩
          clear e0 e1 e2 e3
          have Ad := hid ((Ac.out.alloc (Obj.cells #[.complex .f32 m0 m1, .complex .f32 m2 m3, .complex .f32 m4 m5, .complex .f32 m6 m7] 45)).new hNd)
          have Fd := hid ((Has4.made wc ⟨0, m0, m1, m2, m3, m4, m5, m6, m7⟩ 45).new hNd)
          have HNd := hid ((HNc.out.alloc (Obj.cells #[.complex .f32 m0 m1, .complex .f32 m2 m3, .complex .f32 m4 m5, .complex .f32 m6 m7] 45)).trans hNd)
          clear hNd Ac Pc HNc
          have a0 : ∀ o, (wd.alloc o).cell? ⟨w2.heap.size, 0, none⟩ = some (.complex .f32 t0 t1) := fun o => (Ad.out.alloc o).c0
          have a1 : ∀ o, (wd.alloc o).cell? ⟨w2.heap.size, 1, none⟩ = some (.complex .f32 t2 t3) := fun o => (Ad.out.alloc o).c1
          have a2 : ∀ o, (wd.alloc o).cell? ⟨w2.heap.size, 2, none⟩ = some (.complex .f32 t4 t5) := fun o => (Ad.out.alloc o).c2
          have a3 : ∀ o, (wd.alloc o).cell? ⟨w2.heap.size, 3, none⟩ = some (.complex .f32 t6 t7) := fun o => (Ad.out.alloc o).c3
          go_wp2_with fail
          with_reducible refine (KT2.out _).mono ?_; rintro e we ⟨rfl, hNe⟩
          clear a0 a1 a2 a3 Ad
          have Fe := hid ((Fd.out.alloc (Obj.cells #[.complex .f32 s0 s1, .complex .f32 s2 s3, .complex .f32 s4 s5, .complex .f32 s6 s7] 45)).new hNe)
          have HNe := hid ((HNd.out.alloc (Obj.cells #[.complex .f32 s0 s1, .complex .f32 s2 s3, .complex .f32 s4 s5, .complex .f32 s6 s7] 45)).trans hNe)
          clear hNe Fd HNd
          go_wp2_with fail
          with_reducible refine (KS2.out _).mono ?_; rintro e wf ⟨rfl, hNf⟩
          have Ff := hid ((Fe.out.alloc (Obj.cells #[.complex .f32 g0 g1, .complex .f32 g2 g3, .complex .f32 g4 g5, .complex .f32 g6 g7] 45)).new hNf)
          have HNf := hid ((HNe.out.alloc (Obj.cells #[.complex .f32 g0 g1, .complex .f32 g2 g3, .complex .f32 g4 g5, .complex .f32 g6 g7] 45)).trans hNf)
          clear hNf Fe HNe
          have e0 : ∀ o, (wf.alloc o).cell? ⟨wc.heap.size, 0, none⟩ = some (.complex .f32 m0 m1) := fun o => (Ff.out.alloc o).c0
          have e1 : ∀ o, (wf.alloc o).cell? ⟨wc.heap.size, 1, none⟩ = some (.complex .f32 m2 m3) := fun o => (Ff.out.alloc o).c1
          have e2 : ∀ o, (wf.alloc o).cell? ⟨wc.heap.size, 2, none⟩ = some (.complex .f32 m4 m5) := fun o => (Ff.out.alloc o).c2
          have e3 : ∀ o, (wf.alloc o).cell? ⟨wc.heap.size, 3, none⟩ = some (.complex .f32 m6 m7) := fun o => (Ff.out.alloc o).c3
          go_wp2
          go_ret
          exact ⟨rfl, HN1.out.trans (HW5.out.trans (HNf.out.alloc _))⟩
end Go.Proofs.YtmbjomjpnfnbkaaGreat
