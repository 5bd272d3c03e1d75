/-
  A region that draws its order and holds a row of calls beside one operation that may come up at any time.
-/
import Derived.Test.YtmbjomjpnfnbkaaR0
set_option linter.unusedSimpArgs false
set_option linter.unusedVariables false
namespace Go.Proofs.Ytmbjomjpnfnbkaa
open Go

section
variable {P : Program} {ops : Array Oper} {Q : Exit → Act → World → Prop} {md : Region.Mode} {S : World → Prop}

def rdyC (i : Nat → Nat) (j m k : Nat) (d : Bool) : List Nat := (if k < m then [i k] else []) ++ (bif d then [] else [j])
theorem mem_rdyC {i : Nat → Nat} {j m k x : Nat} {d : Bool} (h : x ∈ rdyC i j m k d) : (x = i k ∧ k < m) ∨ (x = j ∧ d = false) := by
  unfold rdyC at h
  simp only [List.mem_append] at h
  rcases h with h | h
  · split at h
    · rename_i hk; simp at h; exact .inl ⟨h, hk⟩
    · simp at h
  · cases d
    · simp at h; exact .inr ⟨h, rfl⟩
    · simp at h

theorem chain_one {n m : Nat} (i : Nat → Nat) (j : Nat) (o : Nat → Oper) (p : Oper) (L : Nat → Bool → Array Bool) (I : Nat → Bool → Act → World → Prop)
    (hr : ∀ k d, k ≤ m → (k = m → d = false) → Region.ready md ops (L k d) = rdyC i j m k d)
    (l : ∀ k d, k < m → (L k d).setIfInBounds (i k) true = L (k + 1) d)
    (lj : ∀ k, k ≤ m → (L k false).setIfInBounds j true = L k true)
    (ho : ∀ k, k < m → ops[i k]? = some (o k)) (hp : ops[j]? = some p)
    (s : ∀ k d a w, k < m → I k d a w → Does P ops Q S (o k) a w (I (k + 1) d))
    (t : ∀ k a w, k ≤ m → I k false a w → Does P ops Q S p a w (I k true))
    (e : ∀ a w, I m true a w → wpAnyH P md ops Q S n (L m true) a w) :
    ∀ (c k : Nat) (d : Bool) (a : Act) (w : World), (m - k) + (!d).toNat = c → k ≤ m → I k d a w → wpAnyH P md ops Q S (n + c) (L k d) a w
  | 0, k, d, a, w, hc, hk, hI => by
    have h1 : k = m := by omega
    have h2 : d = true := by cases d <;> simp at hc ⊢
    subst h1 h2
    exact e a w hI
  | c + 1, k, d, a, w, hc, hk, hI => by
    have ih := chain_one (n := n) i j o p L I hr l lj ho hp s t e c
    refine wpAnyH_ready (hr k d hk ?_) ?_ (AllReadyH.of fun x hx => ?_)
    · intro h; cases d
      · rfl
      · subst h; simp at hc
    · intro h
      unfold rdyC at h
      simp only [List.append_eq_nil_iff] at h
      have h1 : ¬ k < m := fun hlt => by rw [if_pos hlt] at h; exact absurd h.1 (by simp)
      have h2 : d = true := by cases d <;> simp at h ⊢
      subst h2
      simp at hc; omega
    · rcases mem_rdyC hx with ⟨rfl, hlt⟩ | ⟨rfl, rfl⟩
      · exact ⟨o k, ho k hlt, fun K hK => s k d _ _ hlt hI K fun a' w' hS hJ => hK.out a' w' hS fun _ => by rw [l k d hlt]; exact ih _ _ _ _ (by omega) (by omega) hJ⟩
      · exact ⟨p, hp, fun K hK => t k _ _ hk hI K fun a' w' hS hJ => hK.out a' w' hS fun _ => by rw [lj k hk]; exact ih _ _ _ _ (by simp at hc ⊢; omega) hk hJ⟩

theorem chain_one' {n m : Nat} (i : Nat → Nat) (j : Nat) (o : Nat → Oper) (p : Oper) (L : Nat → Bool → Array Bool) (I : Nat → Bool → Act → World → Prop)
    {fuel : Nat} {listed : Array Bool} {a : Act} {w : World} (hfuel : fuel = n + (m + 1)) (hl : listed = L 0 false)
    (hr : ∀ k d, k ≤ m → (k = m → d = false) → Region.ready md ops (L k d) = rdyC i j m k d)
    (l : ∀ k d, k < m → (L k d).setIfInBounds (i k) true = L (k + 1) d)
    (lj : ∀ k, k ≤ m → (L k false).setIfInBounds j true = L k true)
    (ho : ∀ k, k < m → ops[i k]? = some (o k)) (hp : ops[j]? = some p)
    (s : ∀ k d a w, k < m → I k d a w → Does P ops Q S (o k) a w (I (k + 1) d))
    (t : ∀ k a w, k ≤ m → I k false a w → Does P ops Q S p a w (I k true))
    (e : ∀ a w, I m true a w → wpAnyH P md ops Q S n (L m true) a w)
    (hI : I 0 false a w) : wpAnyH P md ops Q S fuel listed a w := by
  subst hfuel hl
  exact chain_one i j o p L I hr l lj ho hp s t e (m + 1) 0 false a w (by simp) (Nat.zero_le _) hI
end
end Go.Proofs.Ytmbjomjpnfnbkaa
