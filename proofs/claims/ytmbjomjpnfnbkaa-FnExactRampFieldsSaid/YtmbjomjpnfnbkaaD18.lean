/-
  Walks of the reference's RampFields.
-/
import Derived.Test.YtmbjomjpnfnbkaaD17
set_option linter.unusedSimpArgs false
set_option linter.unusedVariables false
namespace Go.Proofs.Ytmbjomjpnfnbkaa
open Go.RowKit Flt

/-- The reference's answer, its zeros as they come. -/
def rampQ (a v : V3N) (n : Int) : Int × List V3N := if (a.fin && v.fin) = true then (if inB n 1 300 = true then rampT a v (times0 n.toNat) [] else (2, [])) else (1, [])
theorem l09Is3_c (a : V3N) (w : World) :
    Calls Try.prog 121 #[.agg #[.float .f32 a.x, .float .f32 a.y, .float .f32 a.z]] w fun e w' => e = .returned (.bool a.fin) ∧ New w w' := l09Is_c a.x a.y a.z w

set_option maxHeartbeats 2000000 in
theorem l00RampFields_c (a v : V3N) (n : Int) (w : World) (ha : a.lt) (hv : v.lt) :
    Calls Try.prog 80 #[V3 a.x a.y a.z, V3 v.x v.y v.z, .int .i64 n] w fun e w' => ∃ u, e = .returned (.tuple #[u, .int .i64 (rampQ a v n).1]) ∧ w'.ownsRow w.heap.size 38 3 u (rampQ a v n).2.length (flat (rampQ a v n).2) ∧ New w w' := by
  generalize hR : rampQ a v n = R
  have HR := hid hR
  clear hR
  cases hf : a.fin with
  | false =>
    have HS := hid (show R = (1, []) by rw [← HR.out]; unfold rampQ; rw [if_neg (by simp [hf])])
    have HF := hid hf
    clear hf
    go_enter Try.func80, Try.ntmps80
    go_wp2_with fail
    with_reducible refine (l09Is3_c a _).mono ?_; rintro e w1 ⟨rfl, hN⟩; rw [HF.out]
    obtain ⟨l1, l2, l3⟩ := hN.laws
    go_wp2
    refine bodyPost_ret (v := .tuple #[.slice none 0 0, .int .i64 1]) (by simp [results, Try.results80, go_sem]) rfl ⟨_, by rw [HS.out], by rw [HS.out]; exact World.ownsRow_nil _ _ _ _, ?_⟩
    exact (((New.refl w).alloc _).alloc _).trans hN
  | true =>
    cases hg : v.fin with
    | false =>
      have HS := hid (show R = (1, []) by rw [← HR.out]; unfold rampQ; rw [if_neg (by simp [hf, hg])])
      have HF := hid hf
      have HG := hid hg
      clear hf hg
      go_enter Try.func80, Try.ntmps80
      go_wp2_with fail
      with_reducible refine (l09Is3_c a _).mono ?_; rintro e w1 ⟨rfl, hN⟩; rw [HF.out]
      have v0 := hN.cell_at (k := w.heap.size + 1) (o := 0) (v := .float .f32 v.x) (by go_simp)
      have v1 := hN.cell_at (k := w.heap.size + 1) (o := 1) (v := .float .f32 v.y) (by go_simp)
      have v2 := hN.cell_at (k := w.heap.size + 1) (o := 2) (v := .float .f32 v.z) (by go_simp)
      go_wp2_with fail
      with_reducible refine (l09Is3_c v _).mono ?_; rintro e w2 ⟨rfl, hN2⟩; rw [HG.out]
      go_wp2
      refine bodyPost_ret (v := .tuple #[.slice none 0 0, .int .i64 1]) (by simp [results, Try.results80, go_sem]) rfl ⟨_, by rw [HS.out], by rw [HS.out]; exact World.ownsRow_nil _ _ _ _, ?_⟩
      exact ((((New.refl w).alloc _).alloc _).trans hN).trans hN2
    | true =>
      cases hi : inB n 1 300 with
      | false =>
        have HS := hid (show R = (2, []) by rw [← HR.out]; unfold rampQ; rw [if_pos (by simp [hf, hg]), if_neg (by simp [hi])])
        have HF := hid hf
        have HG := hid hg
        have HI := hid hi
        clear hf hg hi
        go_enter Try.func80, Try.ntmps80
        go_wp2_with fail
        with_reducible refine (l09Is3_c a _).mono ?_; rintro e w1 ⟨rfl, hN⟩; rw [HF.out]
        have v0 := hN.cell_at (k := w.heap.size + 1) (o := 0) (v := .float .f32 v.x) (by go_simp)
        have v1 := hN.cell_at (k := w.heap.size + 1) (o := 1) (v := .float .f32 v.y) (by go_simp)
        have v2 := hN.cell_at (k := w.heap.size + 1) (o := 2) (v := .float .f32 v.z) (by go_simp)
        go_wp2_with fail
        with_reducible refine (l09Is3_c v _).mono ?_; rintro e w2 ⟨rfl, hN2⟩; rw [HG.out]
        go_wp2_with fail
        with_reducible refine (l01In_c _ _ _ _).mono ?_; rintro e w3 ⟨rfl, rfl⟩; rw [HI.out]
        go_wp2
        refine bodyPost_ret (v := .tuple #[.slice none 0 0, .int .i64 2]) (by simp [results, Try.results80, go_sem]) rfl ⟨_, by rw [HS.out], by rw [HS.out]; exact World.ownsRow_nil _ _ _ _, ?_⟩
        exact ((((New.refl w).alloc _).alloc _).trans hN).trans hN2
      | true =>
        have HS := hid (show rampT a v (times0 n.toNat) [] = R by rw [← HR.out]; unfold rampQ; rw [if_pos (by simp [hf, hg]), if_pos hi])
        have HF := hid hf
        have HG := hid hg
        have HI := hid hi
        have fa := hid (V3N.fw_of ha hf)
        have fv := hid (V3N.fw_of hv hg)
        unfold inB at hi
        simp only [Bool.and_eq_true, decide_eq_true_eq] at hi
        obtain ⟨m, rfl⟩ : ∃ m : Nat, n = m := ⟨n.toNat, by omega⟩
        have hm : m ≤ 300 := by omega
        rw [Int.toNat_natCast] at HS
        have K := hid (fun w => l09Ramp_c a v m w fa.out fv.out hm)
        rw [HS.out] at K
        clear hf hg hi ha hv fa fv hm HR HS
        go_enter Try.func80, Try.ntmps80
        go_wp2_with fail
        with_reducible refine (l09Is3_c a _).mono ?_; rintro e w1 ⟨rfl, hN⟩; rw [HF.out]
        have a0 := hN.cell_at (k := w.heap.size) (o := 0) (v := .float .f32 a.x) (by go_simp)
        have a1 := hN.cell_at (k := w.heap.size) (o := 1) (v := .float .f32 a.y) (by go_simp)
        have a2 := hN.cell_at (k := w.heap.size) (o := 2) (v := .float .f32 a.z) (by go_simp)
        have v0 := hN.cell_at (k := w.heap.size + 1) (o := 0) (v := .float .f32 v.x) (by go_simp)
        have v1 := hN.cell_at (k := w.heap.size + 1) (o := 1) (v := .float .f32 v.y) (by go_simp)
        have v2 := hN.cell_at (k := w.heap.size + 1) (o := 2) (v := .float .f32 v.z) (by go_simp)
        have s1 := hN.size
        simp at s1
        go_wp2_with fail
        with_reducible refine (l09Is3_c v _).mono ?_; rintro e w2 ⟨rfl, hN2⟩; rw [HG.out]
        have a0' := hN2.cell_at a0
        have a1' := hN2.cell_at a1
        have a2' := hN2.cell_at a2
        have v0' := hN2.cell_at v0
        have v1' := hN2.cell_at v1
        have v2' := hN2.cell_at v2
        have s2 := hN2.size
        go_wp2_with fail
        with_reducible refine (l01In_c _ _ _ _).mono ?_; rintro e w3 ⟨rfl, rfl⟩; rw [HI.out]
        go_wp2_with fail
        with_reducible refine (K.out _).mono ?_; rintro e w3 ⟨u, rfl, hO, hN3⟩
        have HO := hid hO
        clear hO
        go_wp2
        refine bodyPost_ret (v := .tuple #[u, .int .i64 R.1]) (by simp [results, Try.results80, go_sem]) rfl ⟨_, rfl, own_le HO.out (by omega), ?_⟩
        exact (((((New.refl w).alloc _).alloc _).trans hN).trans hN2).trans hN3

theorem rampT_length (a v : V3N) : ∀ (ts : List Nat) (acc : List V3N), (rampT a v ts acc).2.length ≤ acc.length + ts.length
  | [], acc => by simp [rampT]
  | t :: ts, acc => by
    unfold rampT
    split
    · have := rampT_length a v ts (acc ++ [vecS a v t]); simp at this ⊢; omega
    · simp
theorem rampQ_length (a v : V3N) (n : Int) : (rampQ a v n).2.length ≤ 1000 := by
  unfold rampQ
  split
  · split
    · rename_i h
      unfold inB at h
      simp at h
      have := rampT_length a v (times0 n.toNat) []
      have e : (times0 n.toNat).length = n.toNat := by simp [times0]
      rw [e] at this
      simp only [List.length_nil] at this
      omega
    · simp
  · simp

set_option maxHeartbeats 1000000 in
theorem specRampFields_c (a v : V3N) (n : Int) (w : World) (ha : a.lt) (hv : v.lt) :
    Calls Try.prog 30 #[V3 a.x a.y a.z, V3 v.x v.y v.z, .int .i64 n] w fun e w' => ∃ u, e = .returned (.tuple #[u, .int .i64 (rampQ a v n).1]) ∧ w'.ownsRow w.heap.size 38 3 u (rampQ a v n).2.length (flat (znl (rampQ a v n).2)) ∧ New w w' := by
  have K := hid (fun w => l00RampFields_c a v n w ha hv)
  have hl := rampQ_length a v n
  generalize rampQ a v n = R at *
  obtain ⟨rc, rl⟩ := R
  have HL := hid hl
  clear hl
  go_enter Try.func30, Try.ntmps30
  go_wp2_with fail
  with_reducible refine (K.out _).mono ?_; rintro e w1 ⟨u, rfl, hO, hN⟩
  have HO := hid hO
  clear hO
  have s1 := hN.size
  simp at s1
  go_wp2_with fail
  with_reducible refine (l00Vectors_c u rl _ _ HO.out HL.out).mono ?_; rintro e w2 ⟨u', rfl, hO', hN2⟩
  have HO' := hid hO'
  clear hO'
  go_wp2
  refine bodyPost_ret (v := .tuple #[u', .int .i64 rc]) (by simp [results, Try.results30, go_sem]) rfl ⟨_, rfl, own_le HO'.out (by omega), ?_⟩
  exact ((((New.refl w).alloc _).alloc _).trans hN).trans hN2
end Go.Proofs.Ytmbjomjpnfnbkaa
