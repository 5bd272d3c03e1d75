/-
  Walks of the program's smallest functions: whether a float is a number; rounding; sums, differences, products, quotients.
-/
import Derived.Test.YtmbjomjpnfnbkaaGreatRows
import Derived.Test.YtmbjomjpnfnbkaaGreatB
import Derived.Laws.Externs
set_option linter.unusedSimpArgs false
set_option linter.unusedVariables false
namespace Go.Proofs.YtmbjomjpnfnbkaaGreat
open Go.RowKit Flt

theorem hid {p : Prop} (h : p) : Hid p := h

theorem ret_bool {a b : Bool} (h : a = b) : Ending.returned (.bool a) = .returned (.bool b) := by rw [h]
theorem ret_f {k : FloatKind} {a b : Nat} (h : a = b) : Ending.returned (.float k a) = .returned (.float k b) := by rw [h]

def absBits (x : Nat) : Int := bits .andNot .u64 (x : Int) 9223372036854775808
@[go_sem] theorem f64bits_run (x : Nat) (w : World) : (callFunc 113 #[.float .f64 x]).run Tryz.prog w = .ok (.value (.int .u64 x)) w := by
  rw [run_callFunc_extern (e := Extern.MathFloatBits.float64bits) Tryz.func113 (by kernel_rfl) (by kernel_rfl) (by kernel_rfl) (by kernel_rfl)]; rfl
@[go_sem] theorem frombits_run (x : Int) (w : World) : (callFunc 112 #[.int .u64 x]).run Tryz.prog w = .ok (.value (.float .f64 x.toNat)) w := by
  rw [run_callFunc_extern (e := Extern.MathFloatBits.float64frombits) Tryz.func112 (by kernel_rfl) (by kernel_rfl) (by kernel_rfl) (by kernel_rfl)]; rfl
@[go_sem] theorem andNot_run (t : TypeId) (x : Nat) (w : World) : (binOp .andNot t (.int .u64 x) (.int .u64 9223372036854775808)).run Tryz.prog w = .ok (.int .u64 (absBits x)) w := by
  rw [binOp_andNot, intBits_andNot]; rfl

theorem abs_c (x : Nat) (w : World) :
    Calls Tryz.prog 101 #[.float .f64 x] w fun e w' => e = .returned (.float .f64 (absBits x).toNat) ∧ w = w' := by
  go_enter Tryz.func101, Tryz.ntmps101
  go_wp2
  go_ret; exact ⟨rfl, rfl⟩

theorem absBits_eq {x : Nat} (h : x < 2 ^ 64) : (absBits x).toNat = x % 2 ^ 63 := by
  unfold absBits
  rw [u64_andNot (x : Int) 9223372036854775808 (by omega) (by omega) (by decide) (by decide)]
  simp only [Int.toNat_natCast]
  have : (18446744073709551615 : Nat) - (9223372036854775808 : Int).toNat = 2 ^ 63 - 1 := by decide
  rw [this, Nat.and_two_pow_sub_one_eq_mod]

/-- Behind the absolute value an infinity alone is above the greatest float64. -/
theorem inf_gt {x : Nat} (h : nn x = true) : (FloatKind.f64.format.order (absBits (cv x)).toNat 9218868437227405311 == some .gt) = !fin S x := by
  have hlt : cv x < 2 ^ 64 := Ieee.Format.write_lt D (S.read x)
  rw [absBits_eq hlt]
  show (D.order _ _ == _) = _
  have hw : D.signWeight = 2 ^ 63 := by decide
  rcases read_cases h with hf | ⟨s, hs⟩
  · have hc := cv_fin hf
    have hr := (fin_iff D _ D_good).1 hc.1
    have e1 : rg D (cv x % 2 ^ 63) = rg D (cv x) := by unfold rg; rw [hw]; omega
    have hf2 : fin D (cv x % 2 ^ 63) = true := by rw [fin_iff D _ D_good, e1]; exact hr
    have hm : fin D 9218868437227405311 = true := by decide +kernel
    rw [order_fin D hf2 hm, hf]
    have b1 : val D (cv x % 2 ^ 63) ≤ 2 ^ (128 : Int) := by
      have e2 : sg D (cv x % 2 ^ 63) = false := by
        unfold sg; rw [hw, Nat.div_eq_of_lt (Nat.mod_lt _ (by decide))]; rfl
      rw [val_fin D _ D_good hf2, e2, e1]
      have e3 : rv D (rg D (cv x)) = rv S (rg S x) := by
        rw [← val_ab D D_good hc.1, hc.2, val_ab S S_good hf]
      rw [e3]; exact rv_S_lt _ ((fin_iff S x S_good).1 hf)
    have b2 : (2 : Rat) ^ (1023 : Int) ≤ val D 9218868437227405311 := by
      have e2 : sg D 9218868437227405311 = false := by decide +kernel
      rw [val_fin D _ D_good hm, e2]
      have e3 : rg D 9218868437227405311 = D.infRung - 1 := by decide +kernel
      rw [e3]
      have : (2 : Rat) ^ (rplace D (D.infRung - 1) + (rmag D (D.infRung - 1)).log2) ≤ mg (rmag D (D.infRung - 1)) (rplace D (D.infRung - 1)) := mg_log_le (by decide +kernel)
      have e4 : rplace D (D.infRung - 1) + (rmag D (D.infRung - 1)).log2 = 1023 := by decide +kernel
      rw [e4] at this; exact this
    have b3 : (2 : Rat) ^ (128 : Int) < 2 ^ (1023 : Int) := zp_lt (by decide)
    rw [if_pos (by grind)]; rfl
  · have hnf : fin S x = false := by unfold fin; rw [hs]; rfl
    rw [hnf]
    unfold cv; rw [hs]
    cases s <;> decide +kernel

theorem isNaN_c {x : Nat} (h : nn x = true) (w : World) :
    Calls Tryz.prog 74 #[.float .f64 (cv x)] w fun e w' => e = .returned (.bool false) ∧ w = w' := by
  have h1 : (FloatKind.f64.format.order (cv x) (cv x) != some .eq) = false := by
    show (D.order _ _ != _) = _
    rcases read_cases h with hf | ⟨s, hs⟩
    · have hc := cv_fin hf
      rw [order_fin D hc.1 hc.1, if_neg (by grind), if_pos rfl]; rfl
    · unfold cv; rw [hs]; cases s <;> decide +kernel
  go_enter Tryz.func74, Tryz.ntmps74
  go_wp2
  go_ret; exact ⟨rfl, rfl⟩

theorem isInf_c {x : Nat} (h : nn x = true) (w : World) :
    Calls Tryz.prog 75 #[.float .f64 (cv x), .int .i64 0] w fun e w' => e = .returned (.bool (!fin S x)) ∧ w = w' := by
  have h1 := inf_gt h
  have h2 := hid h1
  clear h1
  go_enter Tryz.func75, Tryz.ntmps75
  go_wp2_with (go_at_call 101; refine (abs_c _ _).mono ?_; rintro e w' ⟨rfl, rfl⟩)
  go_ret; exact ⟨ret_bool h2.out, rfl⟩

theorem conv_run {x : Nat} (h : nn x = true) (w : World) : (convert 38 103 (.float .f32 x)).run Tryz.prog w = .ok (.float .f64 (cv x)) w :=
  run_convert_float_float w 38 103 .f32 .f64 x (cv x) (by rw [Tryz.underlying38]; rfl) Tryz.underlying103 (conv32 h)

/-- 'isNumber' at what is no NaN. -/
theorem isNumber_nn {x : Nat} (h : nn x = true) (w : World) :
    Calls Tryz.prog 51 #[.float .f32 x] w fun e w' => e = .returned (.bool (fin S x)) ∧ w = w' := by
  have h1 := conv_run h
  go_enter Tryz.func51, Tryz.ntmps51
  go_wp2_with (first | (go_at_call 74; refine (isNaN_c h _).mono ?_; rintro e w' ⟨rfl, rfl⟩) | (go_at_call 75; refine (isInf_c h _).mono ?_; rintro e w' ⟨rfl, rfl⟩))
  go_ret; exact ⟨by simp, rfl⟩

/-- A NaN, made a float64: a NaN, drawn. -/
theorem conv_nan {x : Nat} (h : nn x = false) (w : World) : ∃ y, (D.read y).isNaN = true ∧ (convert 38 103 (.float .f32 x)).run Tryz.prog w = .ok (.float .f64 y) w.drew := by
  have hr : ∃ s t, S.read x = .nan s t := by
    unfold nn at h
    cases hr : S.read x with
    | nan s t => exact ⟨s, t, rfl⟩
    | number s m e => rw [hr] at h; simp [Ieee.Datum.isNaN] at h
    | infinity s => rw [hr] at h; simp [Ieee.Datum.isNaN] at h
  obtain ⟨s, t, hr⟩ := hr
  have hd : FloatKind.f32.decode x = .nan s t := hr
  refine ⟨(Question.nanConv .f64 x).cut (w.tape w.drawn (.nanConv .f64 x)), ?_, ?_⟩
  · show (D.read (_ + _ + _ + _)).isNaN = true
    generalize w.tape w.drawn (.nanConv .f64 x) = q
    have key : ∀ a b : Nat, a < 2 → b < 2 ^ 52 - 1 → (D.read (a * 2 ^ 63 + 0x7ff0000000000000 + 1 + b)).isNaN = true := by
      intro a b ha hb
      have hw : D.signWeight = 2 ^ 63 := by decide
      have hi : D.infRung = 0x7ff0000000000000 := by decide
      have hB : D.binade = 2 ^ 52 := by decide
      unfold Ieee.Format.read
      rw [hw, hi, hB]
      have e1 : (a * 2 ^ 63 + 0x7ff0000000000000 + 1 + b) % 2 ^ 63 = 0x7ff0000000000000 + 1 + b := by omega
      simp only [e1]
      rw [if_neg (by omega), if_neg (by omega), if_neg (by omega)]; rfl
    exact key _ _ (Nat.mod_lt _ (by decide)) (Nat.mod_lt _ (by decide))
  · have hu := Tryz.underlying38
    have hv := Tryz.underlying103
    simp only [convert, Sem.run_bind, run_underlying hu, run_underlying hv, Result.andThen, Conv.floatToFloat, hd]
    rfl

theorem setCell_self {w : World} {a : Addr} {v : Value} (h : w.cell? a = some v) : w.setCell a v = w := by
  have key : (w.setCell a v).heap = w.heap := by
    unfold World.cell? at h
    unfold World.setCell
    apply Array.ext_getElem?
    intro i
    rw [Array.getElem?_modify]
    by_cases hi : a.block = i
    · subst hi
      rw [if_pos rfl]
      cases hb : w.heap[a.block]? with
      | none => rfl
      | some o =>
        rw [hb] at h
        cases o <;> try rfl
        rename_i c e f
        simp only at h
        by_cases hs : a.spot.isSome = true
        · rw [if_pos hs] at h; cases h
        · rw [if_neg hs] at h
          simp only [Option.map_some, if_neg hs]
          congr 2
          apply Array.ext_getElem?
          intro j
          rw [Array.getElem?_setIfInBounds]
          by_cases hj : a.off = j
          · subst hj
            rw [if_pos rfl]
            obtain ⟨hlt, he⟩ := Array.getElem?_eq_some_iff.1 h
            rw [if_pos hlt, h]
          · rw [if_neg hj]
    · rw [if_neg hi]
  have e : w.setCell a v = { w with heap := (w.setCell a v).heap } := rfl
  rw [e, key]

@[go_sem] theorem setCell_twice (w : World) (a : Addr) (v v' : Value) : (w.setCell a v).setCell a v' = w.setCell a v' := by
  unfold World.setCell
  simp only
  congr 1
  apply Array.ext_getElem?
  intro i
  rw [Array.getElem?_modify, Array.getElem?_modify, Array.getElem?_modify]
  by_cases hi : a.block = i
  · rw [if_pos hi, if_pos hi, if_pos hi]
    cases w.heap[i]? with
    | none => rfl
    | some o =>
      cases o <;> try rfl
      simp only [Option.map_some]
      congr 2
      by_cases hs : a.spot.isSome = true
      · simp [hs]
      · simp [hs]
  · rw [if_neg hi, if_neg hi, if_neg hi]

@[go_sem] theorem cell?_setCell_eq (w : World) (a : Addr) (v : Value) : (w.setCell a v).cell? a = (w.cell? a).map fun _ => v := by
  cases h : w.cell? a with
  | some u => exact World.cell?_setCell_same _ _ _ h
  | none =>
    unfold World.cell? World.setCell at *
    simp only [Array.getElem?_modify, if_true, Option.map_none]
    cases hb : w.heap[a.block]? with
    | none => rfl
    | some o =>
      rw [hb] at h
      cases o <;> try rfl
      rename_i cs e f
      simp only [Option.map_some] at *
      by_cases hs : a.spot.isSome = true
      · simp [hs]
      · simp only [if_neg hs] at *
        rw [Array.getElem?_setIfInBounds, if_pos rfl]
        have : ¬ a.off < cs.size := by
          intro hc; rw [Array.getElem?_eq_getElem hc] at h; cases h
        rw [if_neg this]
@[go_sem] theorem setCell_drewN (w : World) (n : Nat) (a : Addr) (v : Value) : (w.drewN n).setCell a v = (w.setCell a v).drewN n := rfl
@[go_sem] theorem alloc_drewN (w : World) (n : Nat) (o : Obj) : (w.drewN n).alloc o = (w.alloc o).drewN n := rfl

/-- The code's cell: block b holds it, and may be written. -/
def At (b : Nat) (c : Int) (w : World) : Prop := w.cell? ⟨b, 0, none⟩ = some (.int .i64 c) ∧ w.frozen? ⟨b, 0, none⟩ = false
theorem At.set {b : Nat} {c : Int} {w : World} (h : At b c w) (c' : Int) : At b c' (w.setCell ⟨b, 0, none⟩ (.int .i64 c')) :=
  ⟨World.cell?_setCell_same _ _ _ h.1, by rw [World.frozen?_setCell]; exact h.2⟩
theorem At.self {b : Nat} {c : Int} {w : World} (h : At b c w) : w.setCell ⟨b, 0, none⟩ (.int .i64 c) = w := setCell_self h.1

/-- 'fail'. -/
theorem fail_c (b : Nat) (c k : Int) (w : World) (hA : At b c w) :
    Calls Tryz.prog 76 #[.pointer (some ⟨b, 0, none⟩), .int .i64 k] w fun e w' => e = .returned (.tuple #[]) ∧ w' = w.setCell ⟨b, 0, none⟩ (.int .i64 (failc k c)) := by
  have hc := hA.1
  have hf := hA.2
  by_cases h0 : c = 0
  · subst h0
    go_enter Tryz.func76, Tryz.ntmps76
    go_wp2
    go_end0; exact ⟨rfl, rfl⟩
  · have h1 : (c == 0) = false := by simpa using h0
    have h2 := hid (failc_ne k h0)
    have h3 := hid (setCell_self hc)
    clear h0
    go_enter Tryz.func76, Tryz.ntmps76
    go_wp2
    go_end0; exact ⟨rfl, by rw [h2.out, h3.out]⟩

/-- 'round'. -/
theorem round_c (b : Nat) (c : Int) (x : Nat) (w : World) (hx : nn x = true) (hA : At b c w) :
    Calls Tryz.prog 53 #[.pointer (some ⟨b, 0, none⟩), .float .f32 x] w fun e w' => e = .returned (.float .f32 (rnd x c).2) ∧ w' = w.setCell ⟨b, 0, none⟩ (.int .i64 (rnd x c).1) := by
  have hc := hA.1
  have hf := hA.2
  have hs := hid (setCell_self hc)
  cases h0 : fin S x with
  | false =>
    have hr := hid (rnd_no c h0)
    go_enter Tryz.func53, Tryz.ntmps53
    go_wp2_with (first | (go_at_call 51; refine (isNumber_nn hx _).mono ?_; rintro e w' ⟨rfl, rfl⟩) | (go_at_call 76; refine (fail_c b c 3 _ hA).mono ?_; rintro e w' ⟨rfl, rfl⟩))
    go_ret; exact ⟨ret_f (by rw [hr.out]), by rw [hr.out]⟩
  | true =>
    cases h1 : (FloatKind.f32.format.order x 0 == some .eq) with
    | true =>
      have hr := hid (rnd_zero c h0 h1)
      go_enter Tryz.func53, Tryz.ntmps53
      go_wp2_with (first | (go_at_call 51; refine (isNumber_nn hx _).mono ?_; rintro e w' ⟨rfl, rfl⟩))
      go_ret; exact ⟨ret_f (by rw [hr.out]), by rw [hr.out, hs.out]⟩
    | false =>
      by_cases h2 : c = 0
      · subst h2
        have hr := hid (rnd_yes h0 h1)
        go_enter Tryz.func53, Tryz.ntmps53
        go_wp2_with (first | (go_at_call 51; refine (isNumber_nn hx _).mono ?_; rintro e w' ⟨rfl, rfl⟩))
        go_ret; exact ⟨ret_f (by rw [hr.out]), by rw [hr.out, hs.out]⟩
      · have hr := hid (rnd_code x h0 h2)
        have h3 : (c != 0) = true := by simpa using h2
        clear h2
        go_enter Tryz.func53, Tryz.ntmps53
        go_wp2_with (first | (go_at_call 51; refine (isNumber_nn hx _).mono ?_; rintro e w' ⟨rfl, rfl⟩))
        go_ret; exact ⟨ret_f (by rw [hr.out]), by rw [hr.out, hs.out]⟩
end Go.Proofs.YtmbjomjpnfnbkaaGreat
