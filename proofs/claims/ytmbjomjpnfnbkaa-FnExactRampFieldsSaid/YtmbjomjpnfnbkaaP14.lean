/-
  The program's fields of a ramp are the reference's, their zeros without a sign.
-/
import Derived.Test.YtmbjomjpnfnbkaaD18
import Derived.Test.YtmbjomjpnfnbkaaA22
set_option linter.unusedSimpArgs false
set_option linter.unusedVariables false
namespace Go.Proofs.Ytmbjomjpnfnbkaa
open Go.RowKit Flt

theorem map_map_any {α β γ : Type} (f : α → β) (g : β → γ) (l : List α) : (l.map f).map g = l.map fun i => g (f i) := by rw [List.map_map]; rfl
theorem times_eq (n : Nat) : times n = (times0 n).map zn := (map_map_any (fun i => tq n i) zn (List.range n)).symm
theorem times0_fin {m : Nat} (hm : m ≤ 300) : ∀ t ∈ times0 m, fin S t = true := by
  intro t h
  unfold times0 at h
  obtain ⟨i, hi', rfl⟩ := List.mem_map.1 h
  exact tq_fin hm (List.mem_range.1 hi')
theorem fits {m s : Int × List V3N} (e1 : m.1 = s.1) (e2 : s.1 = 0 → m.2 = znl s.2) :
    (if m.1 = 0 then ((0 : Int), m.2) else (m.1, [])) = ((if s.1 = 0 then ((0 : Int), [] ++ s.2) else (s.1, ([] : List V3N))).1, znl (if s.1 = 0 then ((0 : Int), [] ++ s.2) else (s.1, ([] : List V3N))).2) := by
  by_cases h0 : s.1 = 0
  · rw [if_pos (by rw [e1]; exact h0), if_pos h0, e2 h0]; simp
  · rw [if_neg (by rw [e1]; exact h0), if_neg h0, e1]; simp [znl]
theorem rampM_eq {a v : V3N} {m : Nat} (ha : a.fw) (hv : v.fw) (hm : m ≤ 300) :
    (if (rampM a v (times m) 0).1 = 0 then ((0 : Int), (rampM a v (times m) 0).2) else ((rampM a v (times m) 0).1, [])) = ((rampT a v (times0 m) []).1, znl (rampT a v (times0 m) []).2) := by
  have l := ramp_law ha hv (times0 m) (times0_fin hm)
  rw [times_eq, rampT_eq]
  exact fits l.1 l.2
/-- The program's answer is the reference's, its zeros without a sign. -/
theorem rampR_eq {a v : V3N} {n : Int} (ha : a.lt) (hv : v.lt) : rampR a v n = ((rampQ a v n).1, znl (rampQ a v n).2) := by
  unfold rampQ
  cases hf : (a.fin && v.fin) with
  | false => rw [rampR_bad1 hf, if_neg (by simp)]; rfl
  | true =>
    rw [if_pos rfl]
    cases hi : inB n 1 300 with
    | false => rw [rampR_bad2 hf hi, if_neg (by simp)]; rfl
    | true =>
      rw [rampR_good hf hi, if_pos rfl]
      rw [Bool.and_eq_true] at hf
      unfold inB at hi
      simp only [Bool.and_eq_true, decide_eq_true_eq] at hi
      exact rampM_eq (V3N.fw_of ha hf.1) (V3N.fw_of hv hf.2) (by omega)
theorem compS_lt {x y t : Nat} (h : fin S (compS x y t) = true) : compS x y t < 2 ^ 32 := by
  unfold compS at h ⊢
  exact adds_lt (adds_fin h).1 (adds_fin h).2
theorem rampT_fw {a v : V3N} : ∀ (ts : List Nat) (acc : List V3N), (∀ q ∈ acc, V3N.fw q) → ∀ q ∈ (rampT a v ts acc).2, V3N.fw q
  | [], acc, h => h
  | t :: ts, acc, h => by
    unfold rampT
    split
    · rename_i hf
      refine rampT_fw ts _ (fun q hq => ?_)
      rw [List.mem_append] at hq
      rcases hq with hq | hq
      · exact h q hq
      · simp at hq
        subst hq
        unfold V3N.fin vecS at hf
        simp only [Bool.and_eq_true] at hf
        exact ⟨⟨compS_lt hf.1.1, hf.1.1⟩, ⟨compS_lt hf.1.2, hf.1.2⟩, ⟨compS_lt hf.2, hf.2⟩⟩
    · exact fun q hq => nomatch hq
theorem rampQ_fw {a v : V3N} {n : Int} : ∀ q ∈ (rampQ a v n).2, V3N.fw q := by
  unfold rampQ
  split
  · split
    · exact rampT_fw _ _ (fun q hq => nomatch hq)
    · exact fun q hq => nomatch hq
  · exact fun q hq => nomatch hq
theorem rampQ_length3 (a v : V3N) (n : Int) : (rampQ a v n).2.length ≤ 300 := by
  unfold rampQ
  split
  · split
    · rename_i h
      unfold inB at h
      simp at h
      have := rampT_length a v (times0 n.toNat) []
      have e : (times0 n.toNat).length = n.toNat := by simp [times0]
      rw [e] at this
      simp only [List.length_nil] at this
      omega
    · simp
  · simp
theorem znl_fw {l : List V3N} (h : ∀ q ∈ l, V3N.fw q) : ∀ q ∈ znl l, V3N.fw q := by
  intro q hq
  obtain ⟨r, hr, rfl⟩ := List.mem_map.1 hq
  obtain ⟨⟨a, b⟩, ⟨c, d⟩, ⟨e, f⟩⟩ := h r hr
  exact ⟨⟨zn_lt a, zn_fin b⟩, ⟨zn_lt c, zn_fin d⟩, ⟨zn_lt e, zn_fin f⟩⟩
theorem znl_length (l : List V3N) : (znl l).length = l.length := by simp [znl]

end Go.Proofs.Ytmbjomjpnfnbkaa
