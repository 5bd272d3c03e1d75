/-
  Tables, vectors and pairs of numbers are equal to themselves.
-/
import Derived.Test.YtmbjomjpnfnbkaaGreatA11
import Derived.ChangeKeysEq
set_option linter.unusedSimpArgs false
namespace Go.Proofs.YtmbjomjpnfnbkaaGreat
open Go.RowKit Flt
theorem fq {x : Nat} (h : fin S x = true) : (FloatKind.f32.format.order x x == some .eq) = true := by
  have e : FloatKind.f32.format.order x x = S.order x x := rfl
  rw [e, order_fin S h h]
  simp
theorem eq_cx (d : Nat) (a b : Nat) (ha : fin S a = true) (hb : fin S b = true) (w : World) : (Op.equalIn (d + 1) 26 (.complex .f32 a b) (.complex .f32 a b)).run Tryz.prog w = .ok true w := by
  have hu : Tryz.prog.underlying 26 = some (.complex .f32) := by kernel_rfl
  simp [Op.equalIn, run_underlying hu, Op.floatEq, fq ha, fq hb]

theorem part_cx (vs : Array Value) (i : Nat) (v : Value) (hv : vs[i]? = some v) (w : World) : (part 26 vs i).run Tryz.prog w = .ok v w := by
  have hs := run_sizeOf (P := Tryz.prog) (t := 26) (w := w) (i := (Tryz.prog.info? 26).get (by kernel_rfl)) (by kernel_rfl)
  simp [part, go_sem, hv]
theorem eq_pair (d : Nat) (t : C8) (h : Fw8 t) (w : World) : (Op.equalIn (d + 2) 45 t.val t.val).run Tryz.prog w = .ok true w := by
  have hu : Tryz.prog.underlying 45 = some (.array 4 26) := by kernel_rfl
  have hc : Tryz.prog.cellsOf 26 = 1 := by kernel_rfl
  have e0 := eq_cx d t.a0 t.a1 h.a0.2 h.a1.2 w
  have e1 := eq_cx d t.b0 t.b1 h.b0.2 h.b1.2 w
  have e2 := eq_cx d t.c0 t.c1 h.c0.2 h.c1.2 w
  have e3 := eq_cx d t.d0 t.d1 h.d0.2 h.d1.2 w
  have p0 := part_cx #[.complex .f32 t.a0 t.a1, .complex .f32 t.b0 t.b1, .complex .f32 t.c0 t.c1, .complex .f32 t.d0 t.d1] 0 (.complex .f32 t.a0 t.a1) rfl w
  have p1 := part_cx #[.complex .f32 t.a0 t.a1, .complex .f32 t.b0 t.b1, .complex .f32 t.c0 t.c1, .complex .f32 t.d0 t.d1] 1 (.complex .f32 t.b0 t.b1) rfl w
  have p2 := part_cx #[.complex .f32 t.a0 t.a1, .complex .f32 t.b0 t.b1, .complex .f32 t.c0 t.c1, .complex .f32 t.d0 t.d1] 2 (.complex .f32 t.c0 t.c1) rfl w
  have p3 := part_cx #[.complex .f32 t.a0 t.a1, .complex .f32 t.b0 t.b1, .complex .f32 t.c0 t.c1, .complex .f32 t.d0 t.d1] 3 (.complex .f32 t.d0 t.d1) rfl w
  rw [run_equalIn_array (P := Tryz.prog) (w := w) (d + 1) _ _ hu (i := (Tryz.prog.info? 26).get (by kernel_rfl)) (by kernel_rfl)]
  rw [hc, show List.range 4 = [0, 1, 2, 3] from rfl]
  simp only [Op.eqItems, Nat.zero_mul, Nat.mul_one, Sem.run_bind, p0, p1, p2, p3, Result.andThen_ok, e0, e1, e2, e3, Bool.not_true, Bool.false_eq_true, if_false, Nat.one_mul]
  simp
theorem eq_row (d : Nat) (a b c e : Nat) (ha : fin S a = true) (hb : fin S b = true) (hc' : fin S c = true) (he : fin S e = true) (w : World) : (Op.equalIn (d + 2) 27 (.agg #[.complex .f32 a b, .complex .f32 c e]) (.agg #[.complex .f32 a b, .complex .f32 c e])).run Tryz.prog w = .ok true w := by
  have hu : Tryz.prog.underlying 27 = some (.array 2 26) := by kernel_rfl
  have hc : Tryz.prog.cellsOf 26 = 1 := by kernel_rfl
  have e0 := eq_cx d a b ha hb w
  have e1 := eq_cx d c e hc' he w
  have p0 := part_cx #[.complex .f32 a b, .complex .f32 c e] 0 (.complex .f32 a b) rfl w
  have p1 := part_cx #[.complex .f32 a b, .complex .f32 c e] 1 (.complex .f32 c e) rfl w
  rw [run_equalIn_array (P := Tryz.prog) (w := w) (d + 1) _ _ hu (i := (Tryz.prog.info? 26).get (by kernel_rfl)) (by kernel_rfl)]
  rw [hc, show List.range 2 = [0, 1] from rfl]
  simp only [Op.eqItems, Nat.zero_mul, Nat.mul_one, Sem.run_bind, p0, p1, Result.andThen_ok, e0, e1, Bool.not_true, Bool.false_eq_true, if_false, Nat.one_mul]
  simp
theorem part_row (vs : Array Value) (i : Nat) (w : World) : (part 27 vs i).run Tryz.prog w = .ok (.agg (vs.extract i (i + 2))) w := by
  have hs := run_sizeOf (P := Tryz.prog) (t := 27) (w := w) (i := (Tryz.prog.info? 27).get (by kernel_rfl)) (by kernel_rfl)
  have hc : Tryz.prog.cellsOf 27 = 2 := by kernel_rfl
  rw [hc] at hs
  simp [part, go_sem, hs]
theorem eq_turn (d : Nat) (t : C8) (h : Fw8 t) (w : World) : (Op.equalIn (d + 3) 29 t.val t.val).run Tryz.prog w = .ok true w := by
  have hu : Tryz.prog.underlying 29 = some (.array 2 27) := by kernel_rfl
  have hc : Tryz.prog.cellsOf 27 = 2 := by kernel_rfl
  have e0 := eq_row d t.a0 t.a1 t.b0 t.b1 h.a0.2 h.a1.2 h.b0.2 h.b1.2 w
  have e1 := eq_row d t.c0 t.c1 t.d0 t.d1 h.c0.2 h.c1.2 h.d0.2 h.d1.2 w
  have p0 := part_row #[.complex .f32 t.a0 t.a1, .complex .f32 t.b0 t.b1, .complex .f32 t.c0 t.c1, .complex .f32 t.d0 t.d1] 0 w
  have p1 := part_row #[.complex .f32 t.a0 t.a1, .complex .f32 t.b0 t.b1, .complex .f32 t.c0 t.c1, .complex .f32 t.d0 t.d1] 2 w
  have x0 : (#[.complex .f32 t.a0 t.a1, .complex .f32 t.b0 t.b1, .complex .f32 t.c0 t.c1, .complex .f32 t.d0 t.d1] : Array Value).extract 0 (0 + 2) = #[.complex .f32 t.a0 t.a1, .complex .f32 t.b0 t.b1] := rfl
  have x1 : (#[.complex .f32 t.a0 t.a1, .complex .f32 t.b0 t.b1, .complex .f32 t.c0 t.c1, .complex .f32 t.d0 t.d1] : Array Value).extract 2 (2 + 2) = #[.complex .f32 t.c0 t.c1, .complex .f32 t.d0 t.d1] := rfl
  rw [x0] at p0
  rw [x1] at p1
  rw [run_equalIn_array (P := Tryz.prog) (w := w) (d + 2) _ _ hu (i := (Tryz.prog.info? 27).get (by kernel_rfl)) (by kernel_rfl)]
  rw [hc, show List.range 2 = [0, 1] from rfl]
  simp only [Op.eqItems, Nat.zero_mul, Sem.run_bind, p0, p1, Result.andThen_ok, e0, e1, Bool.not_true, Bool.false_eq_true, if_false, Nat.one_mul]
  simp
theorem eq_fl (d : Nat) (a : Nat) (ha : fin S a = true) (w : World) : (Op.equalIn (d + 1) 38 (.float .f32 a) (.float .f32 a)).run Tryz.prog w = .ok true w := by
  have hu : Tryz.prog.underlying 38 = some (.float .f32) := by kernel_rfl
  simp [Op.equalIn, run_underlying hu, Op.floatEq, fq ha]
theorem part_fl (vs : Array Value) (i : Nat) (v : Value) (hv : vs[i]? = some v) (w : World) : (part 38 vs i).run Tryz.prog w = .ok v w := by
  have hs := run_sizeOf (P := Tryz.prog) (t := 38) (w := w) (i := (Tryz.prog.info? 38).get (by kernel_rfl)) (by kernel_rfl)
  simp [part, go_sem, hv]
theorem eq_vec (d : Nat) (a b c : Nat) (ha : fin S a = true) (hb : fin S b = true) (hc' : fin S c = true) (w : World) : (Op.equalIn (d + 2) 41 (V3 a b c) (V3 a b c)).run Tryz.prog w = .ok true w := by
  have hu : Tryz.prog.underlying 41 = some (.array 3 38) := by kernel_rfl
  have hc : Tryz.prog.cellsOf 38 = 1 := by kernel_rfl
  have e0 := eq_fl d a ha w
  have e1 := eq_fl d b hb w
  have e2 := eq_fl d c hc' w
  have p0 := part_fl #[.float .f32 a, .float .f32 b, .float .f32 c] 0 (.float .f32 a) rfl w
  have p1 := part_fl #[.float .f32 a, .float .f32 b, .float .f32 c] 1 (.float .f32 b) rfl w
  have p2 := part_fl #[.float .f32 a, .float .f32 b, .float .f32 c] 2 (.float .f32 c) rfl w
  rw [run_equalIn_array (P := Tryz.prog) (w := w) (d + 1) _ _ hu (i := (Tryz.prog.info? 38).get (by kernel_rfl)) (by kernel_rfl)]
  rw [hc, show List.range 3 = [0, 1, 2] from rfl]
  simp only [Op.eqItems, Nat.zero_mul, Nat.mul_one, Sem.run_bind, p0, p1, p2, Result.andThen_ok, e0, e1, e2, Bool.not_true, Bool.false_eq_true, if_false, Nat.one_mul]
  simp
theorem run_neq_turn (t : C8) (h : Fw8 t) (w : World) : (binOp .neq 29 (T4 t.a0 t.a1 t.b0 t.b1 t.c0 t.c1 t.d0 t.d1) (T4 t.a0 t.a1 t.b0 t.b1 t.c0 t.c1 t.d0 t.d1)).run Tryz.prog w = .ok (.bool false) w := by
  rw [run_neq_struct, eq_turn 9997 t h w]; rfl
theorem run_neq_vec (a b c : Nat) (ha : fin S a = true) (hb : fin S b = true) (hc : fin S c = true) (w : World) : (binOp .neq 41 (V3 a b c) (V3 a b c)).run Tryz.prog w = .ok (.bool false) w := by
  rw [run_neq_struct, eq_vec 9998 a b c ha hb hc w]; rfl
theorem run_eql_pair (t : C8) (h : Fw8 t) (w : World) : (binOp .eql 45 (T4 t.a0 t.a1 t.b0 t.b1 t.c0 t.c1 t.d0 t.d1) (T4 t.a0 t.a1 t.b0 t.b1 t.c0 t.c1 t.d0 t.d1)).run Tryz.prog w = .ok (.bool true) w := by
  rw [run_eql_struct, eq_pair 9998 t h w]; rfl
theorem neg_cx (a b : Nat) (w : World) : (Op.unary UnOp.neg (.complex .f32 a b)).run Tryz.prog w = .ok (.complex .f32 (Op.negFloat .f32 a) (Op.negFloat .f32 b)) w := by
  simp [Op.unary, go_sem]
end Go.Proofs.YtmbjomjpnfnbkaaGreat
