/-
  Walk of the program's product of tables.
-/
import Derived.Test.YtmbjomjpnfnbkaaGreatK0
import Derived.Test.YtmbjomjpnfnbkaaGreatP0
set_option linter.unusedSimpArgs false
set_option linter.unusedVariables false
namespace Go.Proofs.YtmbjomjpnfnbkaaGreat
open Go.RowKit Flt

/-- 'product'. -/
def productM (a b : C8) (c : Int) : C8 :=
  let r0 := inTableM a.a0 a.a1 b.a0 b.a1 a.b0 a.b1 b.c0 b.c1 c
  let r1 := inTableM a.a0 a.a1 b.b0 b.b1 a.b0 a.b1 b.d0 b.d1 r0.1
  let r2 := inTableM a.c0 a.c1 b.a0 b.a1 a.d0 a.d1 b.c0 b.c1 r1.1
  let r3 := inTableM a.c0 a.c1 b.b0 b.b1 a.d0 a.d1 b.d0 b.d1 r2.1
  ⟨r3.1, r0.2.1, r0.2.2, r1.2.1, r1.2.2, r2.2.1, r2.2.2, r3.2.1, r3.2.2⟩

/-- A part: a word of 32 bits, a number of at most 2^k. -/
def Lw (k : Int) (x : Nat) : Prop := x < 2 ^ 32 ∧ Le S k x
structure Lw8 (k : Int) (t : C8) : Prop where
  a0 : Lw k t.a0
  a1 : Lw k t.a1
  b0 : Lw k t.b0
  b1 : Lw k t.b1
  c0 : Lw k t.c0
  c1 : Lw k t.c1
  d0 : Lw k t.d0
  d1 : Lw k t.d1
theorem At.setNew {b : Nat} {c : Int} {w : World} (h : At b c w) {p : Addr} (hp : p.block ≠ b) (u : Value) : At b c (w.setCell p u) :=
  ⟨by rw [World.cell?_setCell_other _ _ _ _ (by intro hc; subst hc; exact hp rfl)]; exact h.1, by rw [World.frozen?_setCell]; exact h.2⟩
theorem Lw.FW {k : Int} {x : Nat} (h : Lw k x) : FW x := ⟨h.1, h.2.1⟩
theorem Le_ng {k : Int} {x : Nat} (h : Lw k x) : Le S k (Op.negFloat .f32 x) := by
  have := ng_fin h.1 h.2.1
  exact ⟨this.1, by rw [this.2, ab_neg]; exact h.2.2⟩
theorem NO_of {k j : Int} {a b p q : Nat} (ha : Lw k a) (hb : Lw k b) (hp : Lw j p) (hq : Lw j q) (h1 : -149 ≤ k + j) (h2 : k + j ≤ 126) : NO a b p q :=
  ⟨(bothS_le ha.2 (hp.2) (Le_ng hb) hq.2 (Int.le_refl _) (Int.le_refl _) h1 h2).1, (bothS_le ha.2 hq.2 hb.2 hp.2 (Int.le_refl _) (Int.le_refl _) h1 h2).1⟩

set_option maxHeartbeats 2000000 in
theorem product_c (b : Nat) (c : Int) (s t : C8) (k j : Int) (w : World) (hs : Lw8 k s) (ht : Lw8 j t) (h1 : -149 ≤ k + j) (h2 : k + j ≤ 126) (hA : At b c w) :
    Calls Tryz.prog 52 #[.pointer (some ⟨b, 0, none⟩), s.val, t.val] w fun e w' => e = .returned (productM s t c).val ∧ Ext b (productM s t c).c w w' := by
  have hlt := hA.lt
  have n0 := NO_of hs.a0 hs.a1 ht.a0 ht.a1 h1 h2
  have n1 := NO_of hs.b0 hs.b1 ht.c0 ht.c1 h1 h2
  have n2 := NO_of hs.a0 hs.a1 ht.b0 ht.b1 h1 h2
  have n3 := NO_of hs.b0 hs.b1 ht.d0 ht.d1 h1 h2
  have n4 := NO_of hs.c0 hs.c1 ht.a0 ht.a1 h1 h2
  have n5 := NO_of hs.d0 hs.d1 ht.c0 ht.c1 h1 h2
  have n6 := NO_of hs.c0 hs.c1 ht.b0 ht.b1 h1 h2
  have n7 := NO_of hs.d0 hs.d1 ht.d0 ht.d1 h1 h2
  have m0 : FC s.a0 s.a1 := ⟨hs.a0.FW, hs.a1.FW⟩
  have m1 : FC s.b0 s.b1 := ⟨hs.b0.FW, hs.b1.FW⟩
  have m2 : FC s.c0 s.c1 := ⟨hs.c0.FW, hs.c1.FW⟩
  have m3 : FC s.d0 s.d1 := ⟨hs.d0.FW, hs.d1.FW⟩
  have p0 : FC t.a0 t.a1 := ⟨ht.a0.FW, ht.a1.FW⟩
  have p1 : FC t.b0 t.b1 := ⟨ht.b0.FW, ht.b1.FW⟩
  have p2 : FC t.c0 t.c1 := ⟨ht.c0.FW, ht.c1.FW⟩
  have p3 : FC t.d0 t.d1 := ⟨ht.d0.FW, ht.d1.FW⟩
  clear hs ht h1 h2
  have H0 := fun c w hA => inTable_c b c s.a0 s.a1 t.a0 t.a1 s.b0 s.b1 t.c0 t.c1 w m0 p0 m1 p2 n0 n1 hA
  have H1 := fun c w hA => inTable_c b c s.a0 s.a1 t.b0 t.b1 s.b0 s.b1 t.d0 t.d1 w m0 p1 m1 p3 n2 n3 hA
  have H2 := fun c w hA => inTable_c b c s.c0 s.c1 t.a0 t.a1 s.d0 s.d1 t.c0 t.c1 w m2 p0 m3 p2 n4 n5 hA
  have H3 := fun c w hA => inTable_c b c s.c0 s.c1 t.b0 t.b1 s.d0 s.d1 t.d0 t.d1 w m2 p1 m3 p3 n6 n7 hA
  have hne3 : w.heap.size + 1 + 1 + 1 ≠ b := by omega
  clear n0 n1 n2 n3 n4 n5 n6 n7 m0 m1 m2 m3 p0 p1 p2 p3
  have e0 : productM s t c = productM s t c := rfl
  unfold productM at e0
  obtain ⟨sc, s0, s1, s2, s3, s4, s5, s6, s7⟩ := s
  obtain ⟨tc, t0, t1, t2, t3, t4, t5, t6, t7⟩ := t
  simp only at H0 H1 H2 H3
  go_enter Tryz.func52, Tryz.ntmps52
  go_wp2_with fail
  refine wp_loop_rounds 3 ?_; rw [rounds_succ]
  go_wp2_with fail
  refine wp_loop_rounds 3 ?_; rw [rounds_succ]
  go_wp2_with fail
  go_region_held3 (fun w' => w'.cell? ⟨w.heap.size, 0, none⟩ = some (.complex .f32 s0 s1) ∧ w'.cell? ⟨w.heap.size, 1, none⟩ = some (.complex .f32 s2 s3) ∧ w'.cell? ⟨w.heap.size + 1, 0, none⟩ = some (.complex .f32 t0 t1) ∧ w'.cell? ⟨w.heap.size + 1, 2, none⟩ = some (.complex .f32 t4 t5)) (((repeat' apply And.intro) <;> (first | (with_reducible assumption) | (go_simp; done))))
    (first | (go_at_call 55; refine (H0 _ _ (by repeat (with_reducible first | exact hA | apply At.set | apply At.alloc | apply At.drew | apply At.drewN | (apply At.setNew (hp := hne3))))).mono ?_; rintro e w' ⟨rfl, rfl⟩))
  rename_i hh; clear hh
  generalize hr0 : inTableM s0 s1 t0 t1 s2 s3 t4 t5 c = r0
  have Hr0 := hid hr0
  clear hr0
  go_wp2_with fail
  rw [rounds_succ]
  go_wp2_with fail
  go_region_held3 (fun w' => w'.cell? ⟨w.heap.size, 0, none⟩ = some (.complex .f32 s0 s1) ∧ w'.cell? ⟨w.heap.size, 1, none⟩ = some (.complex .f32 s2 s3) ∧ w'.cell? ⟨w.heap.size + 1, 1, none⟩ = some (.complex .f32 t2 t3) ∧ w'.cell? ⟨w.heap.size + 1, 3, none⟩ = some (.complex .f32 t6 t7)) (((repeat' apply And.intro) <;> (first | (with_reducible assumption) | (go_simp; done))))
    (first | (go_at_call 55; refine (H1 r0.1 _ (by repeat (with_reducible first | exact hA | apply At.set | apply At.alloc | apply At.drew | apply At.drewN | (apply At.setNew (hp := hne3))))).mono ?_; rintro e w' ⟨rfl, rfl⟩))
  rename_i hh; clear hh
  generalize hr1 : inTableM s0 s1 t2 t3 s2 s3 t6 t7 r0.1 = r1
  have Hr1 := hid hr1
  clear hr1
  go_wp2_with fail
  rw [rounds_succ]
  go_wp2_with fail
  rw [rounds_succ]
  go_wp2_with fail
  refine wp_loop_rounds 3 ?_; rw [rounds_succ]
  go_wp2_with fail
  go_region_held3 (fun w' => w'.cell? ⟨w.heap.size, 2, none⟩ = some (.complex .f32 s4 s5) ∧ w'.cell? ⟨w.heap.size, 3, none⟩ = some (.complex .f32 s6 s7) ∧ w'.cell? ⟨w.heap.size + 1, 0, none⟩ = some (.complex .f32 t0 t1) ∧ w'.cell? ⟨w.heap.size + 1, 2, none⟩ = some (.complex .f32 t4 t5)) (((repeat' apply And.intro) <;> (first | (with_reducible assumption) | (go_simp; done))))
    (first | (go_at_call 55; refine (H2 r1.1 _ (by repeat (with_reducible first | exact hA | apply At.set | apply At.alloc | apply At.drew | apply At.drewN | (apply At.setNew (hp := hne3))))).mono ?_; rintro e w' ⟨rfl, rfl⟩))
  rename_i hh; clear hh
  generalize hr2 : inTableM s4 s5 t0 t1 s6 s7 t4 t5 r1.1 = r2
  have Hr2 := hid hr2
  clear hr2
  go_wp2_with fail
  rw [rounds_succ]
  go_wp2_with fail
  go_region_held3 (fun w' => w'.cell? ⟨w.heap.size, 2, none⟩ = some (.complex .f32 s4 s5) ∧ w'.cell? ⟨w.heap.size, 3, none⟩ = some (.complex .f32 s6 s7) ∧ w'.cell? ⟨w.heap.size + 1, 1, none⟩ = some (.complex .f32 t2 t3) ∧ w'.cell? ⟨w.heap.size + 1, 3, none⟩ = some (.complex .f32 t6 t7)) (((repeat' apply And.intro) <;> (first | (with_reducible assumption) | (go_simp; done))))
    (first | (go_at_call 55; refine (H3 r2.1 _ (by repeat (with_reducible first | exact hA | apply At.set | apply At.alloc | apply At.drew | apply At.drewN | (apply At.setNew (hp := hne3))))).mono ?_; rintro e w' ⟨rfl, rfl⟩))
  rename_i hh; clear hh
  generalize hr3 : inTableM s4 s5 t2 t3 s6 s7 t6 t7 r2.1 = r3
  have Hr3 := hid hr3
  clear hr3
  go_wp2_with fail
  rw [rounds_succ]
  go_wp2_with fail
  rw [rounds_succ]
  go_wp2_with fail
  have e : productM ⟨sc, s0, s1, s2, s3, s4, s5, s6, s7⟩ ⟨tc, t0, t1, t2, t3, t4, t5, t6, t7⟩ c = ⟨r3.1, r0.2.1, r0.2.2, r1.2.1, r1.2.2, r2.2.1, r2.2.2, r3.2.1, r3.2.2⟩ := by
    unfold productM
    simp only [Hr0.out, Hr1.out, Hr2.out, Hr3.out]
  rw [e]
  refine bodyPost_ret (v := C8.val ⟨r3.1, r0.2.1, r0.2.2, r1.2.1, r1.2.2, r2.2.1, r2.2.2, r3.2.1, r3.2.2⟩) (by simp [results, Tryz.results52, go_sem]) rfl ⟨rfl, ?_⟩
  clear H0 H1 H2 H3 Hr0 Hr1 Hr2 Hr3 e
  have hne2 : w.heap.size + 1 + 1 ≠ b := by omega
  have ge2 : w.heap.size ≤ w.heap.size + 1 + 1 := by omega
  have ge3 : w.heap.size ≤ w.heap.size + 1 + 1 + 1 := by omega
  iterate 4 apply Ext.drew
  iterate 4 apply Ext.setNew (hp := ge2) (hb := hne2)
  iterate 4 (apply Ext.setNew (hp := ge3) (hb := hne3); apply Ext.set)
  iterate 4 apply Ext.alloc
  exact Ext.refl hA
end Go.Proofs.YtmbjomjpnfnbkaaGreat
