/-
  Walks of the program's tables of pulses.
-/
import Derived.Test.YtmbjomjpnfnbkaaGreatA23
import Derived.Test.YtmbjomjpnfnbkaaGreatP16
set_option linter.unusedSimpArgs false
set_option linter.unusedVariables false
namespace Go.Proofs.YtmbjomjpnfnbkaaGreat
open Go.RowKit Flt

theorem conj0_c (b : Nat) (p q : Nat) (w : World) (hp : FW p) (hq : FW q) (hA : At b 0 w) :
    Calls Tryz.prog 49 #[.pointer (some ⟨b, 0, none⟩), .complex .f32 p q] w fun e w' => e = .returned (.complex .f32 (zn p) (zn (ng q))) ∧ w = w' := by
  refine (conj_c b 0 p q w hp.2 ⟨hq.1, hq.2⟩ hA).mono ?_
  rintro e w' ⟨rfl, rfl⟩
  have e1 : zM p (Op.negFloat .f32 q) 0 = (0, zn p, zn (ng q)) := zM_g hp.2 hq.ng
  rw [e1]
  exact ⟨rfl, hA.self.symm⟩
theorem zn_ng_zn {x : Nat} (h : FW x) : zn (ng (zn x)) = zn (ng x) :=
  zn_eq (ng_lt (zn_lt h.1)) (ng_lt h.1) (ng_congr (zn_lt h.1) h.1 (Eqv.zn h.2))
theorem nz_adj {t : C8} (h : Fw8 t) : adjS (nz t) = ⟨t.c, zn t.a0, ng (zn t.a1), zn t.c0, ng (zn t.c1), zn t.b0, ng (zn t.b1), zn t.d0, ng (zn t.d1)⟩ := rfl

set_option maxHeartbeats 1000000 in
theorem adjoint_c (b : Nat) (t : C8) (w : World) (ht : Fw8 t) (hA : At b 0 w) :
    Calls Tryz.prog 25 #[.pointer (some ⟨b, 0, none⟩), t.val] w fun e w' => e = .returned (nz (adjS t)).val ∧ New w w' := by
  obtain ⟨c, a0, a1, b0, b1, c0, c1, d0, d1⟩ := t
  have C0 := hid (fun w hA => conj0_c b a0 a1 w ht.a0 ht.a1 hA)
  have C1 := hid (fun w hA => conj0_c b c0 c1 w ht.c0 ht.c1 hA)
  have C2 := hid (fun w hA => conj0_c b b0 b1 w ht.b0 ht.b1 hA)
  have C3 := hid (fun w hA => conj0_c b d0 d1 w ht.d0 ht.d1 hA)
  have hlt := hA.lt
  clear ht
  go_enter Tryz.func25, Tryz.ntmps25
  go_wp2_with fail
  have hA2 := hid ((hA.alloc (.cells #[.complex .f32 a0 a1, .complex .f32 b0 b1, .complex .f32 c0 c1, .complex .f32 d0 d1] 29)).alloc (.cells #[.complex .f32 0 0, .complex .f32 0 0, .complex .f32 0 0, .complex .f32 0 0] 29))
  go_region_held3 (fun w' => w'.cell? ⟨w.heap.size, 0, none⟩ = some (.complex .f32 a0 a1) ∧ w'.cell? ⟨w.heap.size, 1, none⟩ = some (.complex .f32 b0 b1) ∧ w'.cell? ⟨w.heap.size, 2, none⟩ = some (.complex .f32 c0 c1) ∧ w'.cell? ⟨w.heap.size, 3, none⟩ = some (.complex .f32 d0 d1)) ((refine ⟨?_, ?_, ?_, ?_⟩ <;> go_simp))
    (first | (go_at_call 49; (first | (with_reducible refine (C0.out _ hA2.out.drew).mono ?_) | (with_reducible refine (C1.out _ hA2.out.drew).mono ?_) | (with_reducible refine (C2.out _ hA2.out.drew).mono ?_) | (with_reducible refine (C3.out _ hA2.out.drew).mono ?_)); rintro e w' ⟨rfl, rfl⟩))
  all_goals
    rename_i hh; clear hh
    go_wp2
    refine bodyPost_ret (v := T4 (zn a0) (zn (ng a1)) (zn c0) (zn (ng c1)) (zn b0) (zn (ng b1)) (zn d0) (zn (ng d1))) (by simp [results, Tryz.results25, go_sem]) rfl ⟨rfl, ?_⟩
    repeat (with_reducible first | exact New.refl _ | apply New.drew | apply New.drewN | apply New.alloc)

theorem unit_c (w : World) :
    Calls Tryz.prog 60 #[] w fun e w' => e = .returned (T4 1065353216 0 0 0 0 0 1065353216 0) ∧ New w w' := by
  go_enter Tryz.func60, Tryz.ntmps60
  go_wp2
  refine bodyPost_ret (v := T4 1065353216 0 0 0 0 0 1065353216 0) (by simp [results, Tryz.results60, go_sem]) rfl ⟨rfl, ?_⟩
  repeat (with_reducible first | exact New.refl _ | apply New.drew | apply New.drewN | apply New.alloc)
end Go.Proofs.YtmbjomjpnfnbkaaGreat
