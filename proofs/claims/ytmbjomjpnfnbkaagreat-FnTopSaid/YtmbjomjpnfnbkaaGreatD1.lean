/-
  Walks of the reference's raw arithmetic.
-/
import Derived.Test.YtmbjomjpnfnbkaaGreatA8
set_option linter.unusedSimpArgs false
set_option linter.unusedVariables false
namespace Go.Proofs.YtmbjomjpnfnbkaaGreat
open Go.RowKit Flt

/-- What a bare operation may give, and how often it draws. -/
def RawR (op : BinOp) (x y r n : Nat) : Prop := (∃ v, floatBits op .f32 x y = some v ∧ r = v ∧ n = 0) ∨ (floatBits op .f32 x y = none ∧ nn r = false)

theorem nan_cut (q : Nat) : nn ((q % 2) * 2 ^ 31 + 0x7f800000 + 1 + (q / 2) % (2 ^ 23 - 1)) = false := by
  have key : ∀ a b : Nat, a < 2 → b < 2 ^ 23 - 1 → (S.read (a * 2 ^ 31 + 0x7f800000 + 1 + b)).isNaN = true := by
    intro a b ha hb
    have hw : S.signWeight = 2 ^ 31 := by decide
    have hi : S.infRung = 0x7f800000 := by decide
    have hB : S.binade = 2 ^ 23 := by decide
    unfold Ieee.Format.read
    rw [hw, hi, hB]
    have e1 : (a * 2 ^ 31 + 0x7f800000 + 1 + b) % 2 ^ 31 = 0x7f800000 + 1 + b := by omega
    simp only [e1]
    rw [if_neg (by omega), if_neg (by omega), if_neg (by omega)]; rfl
  unfold nn
  rw [key _ _ (Nat.mod_lt _ (by decide)) (Nat.mod_lt _ (by decide))]; rfl

theorem raw_run {P : Program} (op : BinOp) (hop : op = .add ∨ op = .sub ∨ op = .mul ∨ op = .quo) (t : TypeId) (x y : Nat) (w : World) :
    ∃ r n, (binOp op t (.float .f32 x) (.float .f32 y)).run P w = .ok (.float .f32 r) (w.drewN n) ∧ RawR op x y r n := by
  cases h : floatBits op .f32 x y with
  | some v => exact ⟨v, 0, run_float_arith w op t .f32 x y v h, .inl ⟨v, h, rfl, rfl⟩⟩
  | none =>
    refine ⟨(Question.nanBits .f32 x y).cut (w.tape w.drawn (.nanBits .f32 x y)), 1, ?_, .inr ⟨h, nan_cut _⟩⟩
    unfold floatBits at h
    rcases hop with rfl | rfl | rfl | rfl <;> simp only at h <;> simp [binOp, Op.floatArith, h] <;> rfl

theorem upon_raw {P : Program} {o : Oper} {a : Act} {K : Act → World → Prop} {Q : Exit → Act → World → Prop} {op : BinOp} {t : TypeId} {x y : Nat} {w : World} (hop : op = .add ∨ op = .sub ∨ op = .mul ∨ op = .quo)
    (h : ∀ r n, RawR op x y r n → Oper.upon P o a K Q (.ok (.value (.float .f32 r)) (w.drewN n))) :
    Oper.upon P o a K Q ((Sem.run P (binOp op t (.float .f32 x) (.float .f32 y)) w).andThen fun a w' => .ok (.value a) w') := by
  obtain ⟨r, n, hr, hR⟩ := raw_run (P := P) op hop t x y w
  rw [hr]; exact h r n hR

theorem order_nan {x y : Nat} (h : nn x = false) : FloatKind.f32.format.order x y = none := by
  show S.order x y = none
  unfold Ieee.Format.order
  unfold nn at h
  cases hr : S.read x with
  | nan s t => rfl
  | number s m e => rw [hr] at h; simp [Ieee.Datum.isNaN] at h
  | infinity s => rw [hr] at h; simp [Ieee.Datum.isNaN] at h

theorem fin_or {x : Nat} : fin S x = true ∨ (nn x = true ∧ fin S x = false ∧ ∃ s, S.read x = .infinity s) ∨ (nn x = false ∧ fin S x = false ∧ ∃ s t, S.read x = .nan s t) := by
  unfold nn fin
  cases hr : S.read x with
  | number s m e => left; rfl
  | infinity s => right; left; exact ⟨rfl, rfl, s, rfl⟩
  | nan s t => right; right; exact ⟨rfl, rfl, s, t, rfl⟩

theorem qn_fin : fin S qn = false := by decide
theorem RawR.mul {x y r n : Nat} (h : RawR .mul x y r n) : fin S r = fin S (muls x y) ∧ (fin S r = true → r = muls x y) := by
  rcases h with ⟨v, hv, rfl, _⟩ | ⟨hv, hn⟩
  · have : muls x y = r := by unfold muls; rw [show S.mul x y = some r from hv]; rfl
    rw [this]; exact ⟨rfl, fun _ => rfl⟩
  · have : muls x y = qn := by unfold muls; rw [show S.mul x y = none from hv]; rfl
    have hf : fin S r = false := by
      cases hf : fin S r with
      | false => rfl
      | true => rw [nn_of_fin hf] at hn; cases hn
    rw [this, hf, qn_fin]; exact ⟨rfl, fun h => by cases h⟩

/-- A difference of a float and itself is 0 just if it is a number. -/
theorem self_sub {x r n : Nat} (h : RawR .sub x x r n) : (FloatKind.f32.format.order r 0 == some .eq) = fin S x := by
  rcases fin_or (x := x) with hf | ⟨_, hf, s, hr⟩ | ⟨_, hf, s, t, hr⟩
  · rw [hf]
    have hs := subs_eq hf hf
    rcases h with ⟨v, hv, rfl, _⟩ | ⟨hv, _⟩
    · rw [hs.1] at hv; cases hv
      have h0 : val S x - val S x = val S 0 := by rw [val0]; grind
      have he := Rnd.exact S_good fin0 (h0 ▸ hs.2)
      exact (isZ_iff he.1).2 (by rw [he.2, val0])
    · rw [hs.1] at hv; cases hv
  · rw [hf]
    have hn : floatBits .sub .f32 x x = none := by
      show S.sub x x = none
      unfold Ieee.Format.sub
      rw [hr]; cases s <;> rfl
    rcases h with ⟨v, hv, _⟩ | ⟨_, hv⟩
    · rw [hn] at hv; cases hv
    · rw [order_nan hv]; rfl
  · rw [hf]
    have hn : floatBits .sub .f32 x x = none := by
      show S.sub x x = none
      unfold Ieee.Format.sub
      rw [hr]; rfl
    rcases h with ⟨v, hv, _⟩ | ⟨_, hv⟩
    · rw [hn] at hv; cases hv
    · rw [order_nan hv]; rfl

theorem fine_any (x : Nat) (w : World) :
    Calls Tryz.prog 93 #[.float .f32 x] w fun e w' => e = .returned (.bool (fin S x)) ∧ Drw w w' := by
  go_enter Tryz.func93, Tryz.ntmps93
  go_wp2_with fail
  refine upon_raw (by simp) ?_
  rintro r n hr
  have h := hid (self_sub hr)
  clear hr
  go_wp2_with fail
  go_ret
  exact ⟨ret_bool h.out, ⟨n, rfl⟩⟩
end Go.Proofs.YtmbjomjpnfnbkaaGreat
