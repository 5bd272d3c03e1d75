/-
  Walks of the operations on complex numbers.
-/
import Derived.Test.YtmbjomjpnfnbkaaGreatA2
set_option linter.unusedSimpArgs false
set_option linter.unusedVariables false
namespace Go.Proofs.YtmbjomjpnfnbkaaGreat
open Go.RowKit Flt

/-- A complex number's parts are numbers. -/
def FC (a b : Nat) : Prop := (a < 2 ^ 32 ∧ fin S a = true) ∧ (b < 2 ^ 32 ∧ fin S b = true)

theorem addM_fin (x y : Nat) (c : Int) : fin S (addM x y c).2 = true := rnd_fin _ _
theorem bothM_fin (a b x y : Nat) (c : Int) : fin S (bothM a b x y c).2 = true := rnd_fin _ _

theorem plus_c (b : Nat) (c : Int) (p q x y : Nat) (w : World) (hp : fin S p = true) (hq : fin S q = true) (hx : fin S x = true) (hy : fin S y = true) (hA : At b c w) :
    Calls Tryz.prog 78 #[.pointer (some ⟨b, 0, none⟩), .complex .f32 p q, .complex .f32 x y] w fun e w' => e = .returned (.complex .f32 (plusM p q x y c).2.1 (plusM p q x y c).2.2) ∧ w' = w.setCell ⟨b, 0, none⟩ (.int .i64 (plusM p q x y c).1) := by
  go_enter Tryz.func78, Tryz.ntmps78
  go_wp2_with fail
  refine (add_c b c _ _ _ hp hx hA).mono ?_; rintro e w' ⟨rfl, rfl⟩
  go_wp2_with fail
  refine (add_c b _ _ _ _ hq hy (hA.set _)).mono ?_; rintro e w' ⟨rfl, rfl⟩
  go_wp2
  go_ret; exact ⟨rfl, rfl⟩




theorem times_c (b : Nat) (c : Int) (p q x y : Nat) (w : World) (hp : fin S p = true) (hq : q < 2 ^ 32 ∧ fin S q = true) (hx : fin S x = true) (hy : fin S y = true) (hn : NO p q x y) (hA : At b c w) :
    Calls Tryz.prog 77 #[.pointer (some ⟨b, 0, none⟩), .complex .f32 p q, .complex .f32 x y] w fun e w' => e = .returned (.complex .f32 (timesM p q x y c).2.1 (timesM p q x y c).2.2) ∧ w' = w.setCell ⟨b, 0, none⟩ (.int .i64 (timesM p q x y c).1) := by
  have k1 := (ng_fin hq.1 hq.2).1
  have k2 := hn.1
  have k3 := hn.2
  go_enter Tryz.func77, Tryz.ntmps77
  go_wp2_with fail
  refine (both_c b c _ _ _ _ _ hp hx k1 hy k2 hA).mono ?_; rintro e w' ⟨rfl, rfl⟩
  go_wp2_with fail
  refine (both_c b _ _ _ _ _ _ hp hy hq.2 hx k3 (hA.set _)).mono ?_; rintro e w' ⟨rfl, rfl⟩
  go_wp2
  go_ret; exact ⟨rfl, rfl⟩

theorem square_c (b : Nat) (c : Int) (p q : Nat) (w : World) (hp : fin S p = true) (hq : fin S q = true) (hn : fin S (bothS p p q q) = true) (hA : At b c w) :
    Calls Tryz.prog 116 #[.pointer (some ⟨b, 0, none⟩), .complex .f32 p q] w fun e w' => e = .returned (.float .f32 (squareM p q c).2) ∧ w' = w.setCell ⟨b, 0, none⟩ (.int .i64 (squareM p q c).1) := by
  go_enter Tryz.func116, Tryz.ntmps116
  go_wp2_with fail
  refine (both_c b c _ _ _ _ _ hp hp hq hq hn hA).mono ?_; rintro e w' ⟨rfl, rfl⟩
  go_wp2
  go_ret; exact ⟨rfl, rfl⟩

theorem conj_c (b : Nat) (c : Int) (p q : Nat) (w : World) (hp : fin S p = true) (hq : q < 2 ^ 32 ∧ fin S q = true) (hA : At b c w) :
    Calls Tryz.prog 49 #[.pointer (some ⟨b, 0, none⟩), .complex .f32 p q] w fun e w' => e = .returned (.complex .f32 (zM p (Op.negFloat .f32 q) c).2.1 (zM p (Op.negFloat .f32 q) c).2.2) ∧ w' = w.setCell ⟨b, 0, none⟩ (.int .i64 (zM p (Op.negFloat .f32 q) c).1) := by
  have k1 := (ng_fin hq.1 hq.2).1
  go_enter Tryz.func49, Tryz.ntmps49
  go_wp2_with fail
  refine (z_c b c _ _ _ hp k1 hA).mono ?_; rintro e w' ⟨rfl, rfl⟩
  go_wp2
  go_ret; exact ⟨rfl, rfl⟩

theorem parted_c (b : Nat) (c : Int) (p q r : Nat) (w : World) (hp : fin S p = true) (hq : fin S q = true) (hr : fin S r = true) (hA : At b c w) :
    Calls Tryz.prog 83 #[.pointer (some ⟨b, 0, none⟩), .complex .f32 p q, .float .f32 r] w fun e w' => e = .returned (.complex .f32 (partedM p q r c).2.1 (partedM p q r c).2.2) ∧ w' = w.setCell ⟨b, 0, none⟩ (.int .i64 (partedM p q r c).1) := by
  go_enter Tryz.func83, Tryz.ntmps83
  go_wp2_with fail
  refine (div_c b c _ _ _ hp hr hA).mono ?_; rintro e w' ⟨rfl, rfl⟩
  go_wp2_with fail
  refine (div_c b _ _ _ _ hq hr (hA.set _)).mono ?_; rintro e w' ⟨rfl, rfl⟩
  go_wp2
  go_ret; exact ⟨rfl, rfl⟩

theorem double_c (b : Nat) (c : Int) (x : Nat) (w : World) (hx : fin S x = true) (hA : At b c w) :
    Calls Tryz.prog 114 #[.pointer (some ⟨b, 0, none⟩), .float .f32 x] w fun e w' => e = .returned (.float .f32 (addM x x c).2) ∧ w' = w.setCell ⟨b, 0, none⟩ (.int .i64 (addM x x c).1) := by
  go_enter Tryz.func114, Tryz.ntmps114
  go_wp2_with fail
  refine (add_c b c _ _ _ hx hx hA).mono ?_; rintro e w' ⟨rfl, rfl⟩
  go_wp2
  go_ret; exact ⟨rfl, rfl⟩

theorem timesM_fin (a b p q : Nat) (c : Int) : fin S (timesM a b p q c).2.1 = true ∧ fin S (timesM a b p q c).2.2 = true := ⟨rnd_fin _ _, rnd_fin _ _⟩

theorem inTable_c (b : Nat) (c : Int) (a0 a1 b0 b1 x0 x1 y0 y1 : Nat) (w : World) (ha : FC a0 a1) (hb : FC b0 b1) (hx : FC x0 x1) (hy : FC y0 y1) (h1 : NO a0 a1 b0 b1) (h2 : NO x0 x1 y0 y1) (hA : At b c w) :
    Calls Tryz.prog 55 #[.pointer (some ⟨b, 0, none⟩), .complex .f32 a0 a1, .complex .f32 b0 b1, .complex .f32 x0 x1, .complex .f32 y0 y1] w fun e w' => e = .returned (.complex .f32 (inTableM a0 a1 b0 b1 x0 x1 y0 y1 c).2.1 (inTableM a0 a1 b0 b1 x0 x1 y0 y1 c).2.2) ∧ w' = w.setCell ⟨b, 0, none⟩ (.int .i64 (inTableM a0 a1 b0 b1 x0 x1 y0 y1 c).1) := by
  go_enter Tryz.func55, Tryz.ntmps55
  go_wp2_with fail
  refine (times_c b c _ _ _ _ _ ha.1.2 ha.2 hb.1.2 hb.2.2 h1 hA).mono ?_; rintro e w' ⟨rfl, rfl⟩
  go_wp2_with fail
  refine (times_c b _ _ _ _ _ _ hx.1.2 hx.2 hy.1.2 hy.2.2 h2 (hA.set _)).mono ?_; rintro e w' ⟨rfl, rfl⟩
  go_wp2_with fail
  refine (plus_c b _ _ _ _ _ _ (timesM_fin _ _ _ _ _).1 (timesM_fin _ _ _ _ _).2 (timesM_fin _ _ _ _ _).1 (timesM_fin _ _ _ _ _).2 (hA.set _)).mono ?_; rintro e w' ⟨rfl, rfl⟩
  go_wp2
  go_ret; exact ⟨rfl, rfl⟩
end Go.Proofs.YtmbjomjpnfnbkaaGreat
