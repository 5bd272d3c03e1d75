/-
  A region that draws its order and holds three calls in a row beside three operations that may come up at any time: walked by what holds at each of its states, not by each of its orders.
-/
import Derived.Deep.RegionHeld3
set_option linter.unusedSimpArgs false
set_option linter.unusedVariables false
namespace Go.Proofs.YtmbjomjpnfnbkaaGreat
open Go

section
variable {P : Program} {ops : Array Oper} {Q : Exit → Act → World → Prop} {md : Region.Mode} {S : World → Prop}

theorem AllReadyH.of {fuel : Nat} {listed : Array Bool} {a : Act} {w : World} : ∀ {rs : List Nat}, (∀ i ∈ rs, ∃ o, ops[i]? = some o ∧ ∀ K' : Act → World → Prop, Shut (∀ a w, S w → (S w → wpAnyH P md ops Q S fuel (listed.setIfInBounds i true) a w) → K' a w) → if Region.wanted o (yielded ops a.tmps) = true then Oper.wp P o a w K' Q else K' (a.put o.dst undef) w) →
    AllReadyH P md ops Q S fuel listed a w rs
  | [], _ => AllReadyH.nil
  | i :: rs, h => by
    obtain ⟨o, ho, hs⟩ := h i (List.mem_cons_self ..)
    exact AllReadyH.cons ho hs (AllReadyH.of fun j hj => h j (List.mem_cons_of_mem _ hj))

/-- What an operation does at a frame and a world. -/
def Does (P : Program) (ops : Array Oper) (Q : Exit → Act → World → Prop) (S : World → Prop) (o : Oper) (a : Act) (w : World) (J : Act → World → Prop) : Prop :=
  ∀ K : Act → World → Prop, Shut (∀ a' w', S w' → J a' w' → K a' w') → if Region.wanted o (yielded ops a.tmps) = true then Oper.wp P o a w K Q else K (a.put o.dst undef) w

def rdy (i1 i2 i3 j1 j2 j3 : Nat) (c1 c2 c3 d1 d2 d3 : Bool) : List Nat :=
  (bif !c1 then [i1] else bif !c2 then [i2] else bif !c3 then [i3] else []) ++ ((bif d1 then [] else [j1]) ++ ((bif d2 then [] else [j2]) ++ (bif d3 then [] else [j3])))

theorem mem_rdy {i i1 i2 i3 j1 j2 j3 : Nat} {c1 c2 c3 d1 d2 d3 : Bool} (h : i ∈ rdy i1 i2 i3 j1 j2 j3 c1 c2 c3 d1 d2 d3) :
    (i = i1 ∧ c1 = false) ∨ (i = i2 ∧ c1 = true ∧ c2 = false) ∨ (i = i3 ∧ c1 = true ∧ c2 = true ∧ c3 = false) ∨ (i = j1 ∧ d1 = false) ∨ (i = j2 ∧ d2 = false) ∨ (i = j3 ∧ d3 = false) := by
  unfold rdy at h
  simp only [List.mem_append] at h
  rcases h with h | h | h | h
  · cases c1
    · simp at h; exact .inl ⟨h, rfl⟩
    · cases c2
      · simp at h; exact .inr (.inl ⟨h, rfl, rfl⟩)
      · cases c3
        · simp at h; exact .inr (.inr (.inl ⟨h, rfl, rfl, rfl⟩))
        · simp at h
  · cases d1
    · simp at h; exact .inr (.inr (.inr (.inl ⟨h, rfl⟩)))
    · simp at h
  · cases d2
    · simp at h; exact .inr (.inr (.inr (.inr (.inl ⟨h, rfl⟩))))
    · simp at h
  · cases d3
    · simp at h; exact .inr (.inr (.inr (.inr (.inr ⟨h, rfl⟩))))
    · simp at h

def rem (c1 c2 c3 d1 d2 d3 : Bool) : Nat := (!c1).toNat + (!c2).toNat + (!c3).toNat + (!d1).toNat + (!d2).toNat + (!d3).toNat

theorem rem_zero {c1 c2 c3 d1 d2 d3 : Bool} (h : rem c1 c2 c3 d1 d2 d3 = 0) : c1 = true ∧ c2 = true ∧ c3 = true ∧ d1 = true ∧ d2 = true ∧ d3 = true := by
  revert h; cases c1 <;> cases c2 <;> cases c3 <;> cases d1 <;> cases d2 <;> cases d3 <;> decide
theorem rdy_ne {i1 i2 i3 j1 j2 j3 : Nat} {c1 c2 c3 d1 d2 d3 : Bool} (h : rem c1 c2 c3 d1 d2 d3 ≠ 0) : rdy i1 i2 i3 j1 j2 j3 c1 c2 c3 d1 d2 d3 ≠ [] := by
  intro hc
  unfold rdy at hc; unfold rem at h
  cases c1 <;> cases c2 <;> cases c3 <;> cases d1 <;> cases d2 <;> cases d3 <;> simp at hc h
theorem no_of {c d : Bool} (h : d = true → c = true) (hc : c = false) : d = false := by cases d <;> simp_all
theorem rem1 {c2 c3 d1 d2 d3 : Bool} {k : Nat} (h : rem false c2 c3 d1 d2 d3 = k + 1) : rem true c2 c3 d1 d2 d3 = k := by unfold rem at *; simp only [Bool.not_true, Bool.not_false, Bool.toNat_true, Bool.toNat_false] at *; omega
theorem rem2 {c1 c3 d1 d2 d3 : Bool} {k : Nat} (h : rem c1 false c3 d1 d2 d3 = k + 1) : rem c1 true c3 d1 d2 d3 = k := by unfold rem at *; simp only [Bool.not_true, Bool.not_false, Bool.toNat_true, Bool.toNat_false] at *; omega
theorem rem3 {c1 c2 d1 d2 d3 : Bool} {k : Nat} (h : rem c1 c2 false d1 d2 d3 = k + 1) : rem c1 c2 true d1 d2 d3 = k := by unfold rem at *; simp only [Bool.not_true, Bool.not_false, Bool.toNat_true, Bool.toNat_false] at *; omega
theorem rem4 {c1 c2 c3 d2 d3 : Bool} {k : Nat} (h : rem c1 c2 c3 false d2 d3 = k + 1) : rem c1 c2 c3 true d2 d3 = k := by unfold rem at *; simp only [Bool.not_true, Bool.not_false, Bool.toNat_true, Bool.toNat_false] at *; omega
theorem rem5 {c1 c2 c3 d1 d3 : Bool} {k : Nat} (h : rem c1 c2 c3 d1 false d3 = k + 1) : rem c1 c2 c3 d1 true d3 = k := by unfold rem at *; simp only [Bool.not_true, Bool.not_false, Bool.toNat_true, Bool.toNat_false] at *; omega
theorem rem6 {c1 c2 c3 d1 d2 : Bool} {k : Nat} (h : rem c1 c2 c3 d1 d2 false = k + 1) : rem c1 c2 c3 d1 d2 true = k := by unfold rem at *; simp only [Bool.not_true, Bool.not_false, Bool.toNat_true, Bool.toNat_false] at *; omega

theorem three_three {n : Nat} (i1 i2 i3 j1 j2 j3 : Nat) (o1 o2 o3 p1 p2 p3 : Oper) (L : Bool → Bool → Bool → Bool → Bool → Bool → Array Bool) (I : Bool → Bool → Bool → Bool → Bool → Bool → Act → World → Prop)
    (hr : ∀ c1 c2 c3 d1 d2 d3, (c2 = true → c1 = true) → (c3 = true → c2 = true) → rem c1 c2 c3 d1 d2 d3 ≠ 0 → Region.ready md ops (L c1 c2 c3 d1 d2 d3) = rdy i1 i2 i3 j1 j2 j3 c1 c2 c3 d1 d2 d3)
    (l1 : ∀ c2 c3 d1 d2 d3, (L false c2 c3 d1 d2 d3).setIfInBounds i1 true = L true c2 c3 d1 d2 d3)
    (l2 : ∀ c1 c3 d1 d2 d3, (L c1 false c3 d1 d2 d3).setIfInBounds i2 true = L c1 true c3 d1 d2 d3)
    (l3 : ∀ c1 c2 d1 d2 d3, (L c1 c2 false d1 d2 d3).setIfInBounds i3 true = L c1 c2 true d1 d2 d3)
    (m1 : ∀ c1 c2 c3 d2 d3, (L c1 c2 c3 false d2 d3).setIfInBounds j1 true = L c1 c2 c3 true d2 d3)
    (m2 : ∀ c1 c2 c3 d1 d3, (L c1 c2 c3 d1 false d3).setIfInBounds j2 true = L c1 c2 c3 d1 true d3)
    (m3 : ∀ c1 c2 c3 d1 d2, (L c1 c2 c3 d1 d2 false).setIfInBounds j3 true = L c1 c2 c3 d1 d2 true)
    (h1 : ops[i1]? = some o1) (h2 : ops[i2]? = some o2) (h3 : ops[i3]? = some o3) (g1 : ops[j1]? = some p1) (g2 : ops[j2]? = some p2) (g3 : ops[j3]? = some p3)
    (s1 : ∀ d1 d2 d3 a w, I false false false d1 d2 d3 a w → Does P ops Q S o1 a w (I true false false d1 d2 d3))
    (s2 : ∀ d1 d2 d3 a w, I true false false d1 d2 d3 a w → Does P ops Q S o2 a w (I true true false d1 d2 d3))
    (s3 : ∀ d1 d2 d3 a w, I true true false d1 d2 d3 a w → Does P ops Q S o3 a w (I true true true d1 d2 d3))
    (t1 : ∀ c1 c2 c3 d2 d3 a w, I c1 c2 c3 false d2 d3 a w → Does P ops Q S p1 a w (I c1 c2 c3 true d2 d3))
    (t2 : ∀ c1 c2 c3 d1 d3 a w, I c1 c2 c3 d1 false d3 a w → Does P ops Q S p2 a w (I c1 c2 c3 d1 true d3))
    (t3 : ∀ c1 c2 c3 d1 d2 a w, I c1 c2 c3 d1 d2 false a w → Does P ops Q S p3 a w (I c1 c2 c3 d1 d2 true))
    (e : ∀ a w, I true true true true true true a w → wpAnyH P md ops Q S n (L true true true true true true) a w) :
    ∀ (k : Nat) (c1 c2 c3 d1 d2 d3 : Bool) (a : Act) (w : World), rem c1 c2 c3 d1 d2 d3 = k → (c2 = true → c1 = true) → (c3 = true → c2 = true) → I c1 c2 c3 d1 d2 d3 a w → wpAnyH P md ops Q S (n + k) (L c1 c2 c3 d1 d2 d3) a w
  | 0, c1, c2, c3, d1, d2, d3, a, w, hk, _, _, hI => by
    obtain ⟨rfl, rfl, rfl, rfl, rfl, rfl⟩ := rem_zero hk
    exact e a w hI
  | k + 1, c1, c2, c3, d1, d2, d3, a, w, hk, v1, v2, hI => by
    have ih := three_three (n := n) i1 i2 i3 j1 j2 j3 o1 o2 o3 p1 p2 p3 L I hr l1 l2 l3 m1 m2 m3 h1 h2 h3 g1 g2 g3 s1 s2 s3 t1 t2 t3 e k
    refine wpAnyH_ready (hr c1 c2 c3 d1 d2 d3 v1 v2 (by omega)) (rdy_ne (by omega)) (AllReadyH.of fun i hi => ?_)
    rcases mem_rdy hi with ⟨rfl, rfl⟩ | ⟨rfl, rfl, rfl⟩ | ⟨rfl, rfl, rfl, rfl⟩ | ⟨rfl, rfl⟩ | ⟨rfl, rfl⟩ | ⟨rfl, rfl⟩
    · have x2 : c2 = false := no_of v1 rfl
      subst x2
      have x3 : c3 = false := no_of v2 rfl
      subst x3
      exact ⟨o1, h1, fun K hK => s1 _ _ _ _ _ hI K fun a' w' hS hJ => hK.out a' w' hS fun _ => by rw [l1]; exact ih _ _ _ _ _ _ _ _ (rem1 hk) (fun h => nomatch h) (fun h => nomatch h) hJ⟩
    · have x3 : c3 = false := no_of v2 rfl
      subst x3
      exact ⟨o2, h2, fun K hK => s2 _ _ _ _ _ hI K fun a' w' hS hJ => hK.out a' w' hS fun _ => by rw [l2]; exact ih _ _ _ _ _ _ _ _ (rem2 hk) (fun _ => rfl) (fun h => nomatch h) hJ⟩
    · exact ⟨o3, h3, fun K hK => s3 _ _ _ _ _ hI K fun a' w' hS hJ => hK.out a' w' hS fun _ => by rw [l3]; exact ih _ _ _ _ _ _ _ _ (rem3 hk) (fun _ => rfl) (fun _ => rfl) hJ⟩
    · exact ⟨p1, g1, fun K hK => t1 _ _ _ _ _ _ _ hI K fun a' w' hS hJ => hK.out a' w' hS fun _ => by rw [m1]; exact ih _ _ _ _ _ _ _ _ (rem4 hk) v1 v2 hJ⟩
    · exact ⟨p2, g2, fun K hK => t2 _ _ _ _ _ _ _ hI K fun a' w' hS hJ => hK.out a' w' hS fun _ => by rw [m2]; exact ih _ _ _ _ _ _ _ _ (rem5 hk) v1 v2 hJ⟩
    · exact ⟨p3, g3, fun K hK => t3 _ _ _ _ _ _ _ hI K fun a' w' hS hJ => hK.out a' w' hS fun _ => by rw [m3]; exact ih _ _ _ _ _ _ _ _ (rem6 hk) v1 v2 hJ⟩
theorem three_three' {n : Nat} (i1 i2 i3 j1 j2 j3 : Nat) (o1 o2 o3 p1 p2 p3 : Oper) (L : Bool → Bool → Bool → Bool → Bool → Bool → Array Bool) (I : Bool → Bool → Bool → Bool → Bool → Bool → Act → World → Prop)
    {fuel : Nat} {listed : Array Bool} {a : Act} {w : World} (hfuel : fuel = n + 6) (hl : listed = L false false false false false false)
    (hr : ∀ c1 c2 c3 d1 d2 d3, (c2 = true → c1 = true) → (c3 = true → c2 = true) → rem c1 c2 c3 d1 d2 d3 ≠ 0 → Region.ready md ops (L c1 c2 c3 d1 d2 d3) = rdy i1 i2 i3 j1 j2 j3 c1 c2 c3 d1 d2 d3)
    (l1 : ∀ c2 c3 d1 d2 d3, (L false c2 c3 d1 d2 d3).setIfInBounds i1 true = L true c2 c3 d1 d2 d3)
    (l2 : ∀ c1 c3 d1 d2 d3, (L c1 false c3 d1 d2 d3).setIfInBounds i2 true = L c1 true c3 d1 d2 d3)
    (l3 : ∀ c1 c2 d1 d2 d3, (L c1 c2 false d1 d2 d3).setIfInBounds i3 true = L c1 c2 true d1 d2 d3)
    (m1 : ∀ c1 c2 c3 d2 d3, (L c1 c2 c3 false d2 d3).setIfInBounds j1 true = L c1 c2 c3 true d2 d3)
    (m2 : ∀ c1 c2 c3 d1 d3, (L c1 c2 c3 d1 false d3).setIfInBounds j2 true = L c1 c2 c3 d1 true d3)
    (m3 : ∀ c1 c2 c3 d1 d2, (L c1 c2 c3 d1 d2 false).setIfInBounds j3 true = L c1 c2 c3 d1 d2 true)
    (h1 : ops[i1]? = some o1) (h2 : ops[i2]? = some o2) (h3 : ops[i3]? = some o3) (g1 : ops[j1]? = some p1) (g2 : ops[j2]? = some p2) (g3 : ops[j3]? = some p3)
    (s1 : ∀ d1 d2 d3 a w, I false false false d1 d2 d3 a w → Does P ops Q S o1 a w (I true false false d1 d2 d3))
    (s2 : ∀ d1 d2 d3 a w, I true false false d1 d2 d3 a w → Does P ops Q S o2 a w (I true true false d1 d2 d3))
    (s3 : ∀ d1 d2 d3 a w, I true true false d1 d2 d3 a w → Does P ops Q S o3 a w (I true true true d1 d2 d3))
    (t1 : ∀ c1 c2 c3 d2 d3 a w, I c1 c2 c3 false d2 d3 a w → Does P ops Q S p1 a w (I c1 c2 c3 true d2 d3))
    (t2 : ∀ c1 c2 c3 d1 d3 a w, I c1 c2 c3 d1 false d3 a w → Does P ops Q S p2 a w (I c1 c2 c3 d1 true d3))
    (t3 : ∀ c1 c2 c3 d1 d2 a w, I c1 c2 c3 d1 d2 false a w → Does P ops Q S p3 a w (I c1 c2 c3 d1 d2 true))
    (e : ∀ a w, I true true true true true true a w → wpAnyH P md ops Q S n (L true true true true true true) a w)
    (hI : I false false false false false false a w) : wpAnyH P md ops Q S fuel listed a w := by
  subst hfuel hl
  exact three_three i1 i2 i3 j1 j2 j3 o1 o2 o3 p1 p2 p3 L I hr l1 l2 l3 m1 m2 m3 h1 h2 h3 g1 g2 g3 s1 s2 s3 t1 t2 t3 e 6 false false false false false false a w rfl (fun h => nomatch h) (fun h => nomatch h) hI

def rdy2 (i1 i2 j1 : Nat) (c1 c2 d1 : Bool) : List Nat := (bif !c1 then [i1] else bif !c2 then [i2] else []) ++ (bif d1 then [] else [j1])
theorem mem_rdy2 {i i1 i2 j1 : Nat} {c1 c2 d1 : Bool} (h : i ∈ rdy2 i1 i2 j1 c1 c2 d1) : (i = i1 ∧ c1 = false) ∨ (i = i2 ∧ c1 = true ∧ c2 = false) ∨ (i = j1 ∧ d1 = false) := by
  unfold rdy2 at h
  simp only [List.mem_append] at h
  rcases h with h | h
  · cases c1
    · simp at h; exact .inl ⟨h, rfl⟩
    · cases c2
      · simp at h; exact .inr (.inl ⟨h, rfl, rfl⟩)
      · simp at h
  · cases d1
    · simp at h; exact .inr (.inr ⟨h, rfl⟩)
    · simp at h
/-- Two calls in a row beside one operation that may come up at any time. -/
theorem two_one {n : Nat} (i1 i2 j1 : Nat) (o1 o2 p1 : Oper) (L : Bool → Bool → Bool → Array Bool) (I : Bool → Bool → Bool → Act → World → Prop)
    (hr : ∀ c1 c2 d1, (c2 = true → c1 = true) → rem c1 c2 true d1 true true ≠ 0 → Region.ready md ops (L c1 c2 d1) = rdy2 i1 i2 j1 c1 c2 d1)
    (l1 : ∀ c2 d1, (L false c2 d1).setIfInBounds i1 true = L true c2 d1)
    (l2 : ∀ c1 d1, (L c1 false d1).setIfInBounds i2 true = L c1 true d1)
    (m1 : ∀ c1 c2, (L c1 c2 false).setIfInBounds j1 true = L c1 c2 true)
    (h1 : ops[i1]? = some o1) (h2 : ops[i2]? = some o2) (g1 : ops[j1]? = some p1)
    (s1 : ∀ d1 a w, I false false d1 a w → Does P ops Q S o1 a w (I true false d1))
    (s2 : ∀ d1 a w, I true false d1 a w → Does P ops Q S o2 a w (I true true d1))
    (t1 : ∀ c1 c2 a w, I c1 c2 false a w → Does P ops Q S p1 a w (I c1 c2 true))
    (e : ∀ a w, I true true true a w → wpAnyH P md ops Q S n (L true true true) a w) :
    ∀ (k : Nat) (c1 c2 d1 : Bool) (a : Act) (w : World), rem c1 c2 true d1 true true = k → (c2 = true → c1 = true) → I c1 c2 d1 a w → wpAnyH P md ops Q S (n + k) (L c1 c2 d1) a w
  | 0, c1, c2, d1, a, w, hk, _, hI => by
    obtain ⟨rfl, rfl, _, rfl, _, _⟩ := rem_zero hk
    exact e a w hI
  | k + 1, c1, c2, d1, a, w, hk, v1, hI => by
    have ih := two_one (n := n) i1 i2 j1 o1 o2 p1 L I hr l1 l2 m1 h1 h2 g1 s1 s2 t1 e k
    refine wpAnyH_ready (hr c1 c2 d1 v1 (by omega)) (fun hc => ?_) (AllReadyH.of fun i hi => ?_)
    · have h0 : rem c1 c2 true d1 true true ≠ 0 := by omega
      unfold rdy2 at hc; unfold rem at h0
      cases c1 <;> cases c2 <;> cases d1 <;> simp at hc h0
    rcases mem_rdy2 hi with ⟨rfl, rfl⟩ | ⟨rfl, rfl, rfl⟩ | ⟨rfl, rfl⟩
    · have x2 : c2 = false := no_of v1 rfl
      subst x2
      exact ⟨o1, h1, fun K hK => s1 _ _ _ hI K fun a' w' hS hJ => hK.out a' w' hS fun _ => by rw [l1]; exact ih _ _ _ _ _ (rem1 hk) (fun h => nomatch h) hJ⟩
    · exact ⟨o2, h2, fun K hK => s2 _ _ _ hI K fun a' w' hS hJ => hK.out a' w' hS fun _ => by rw [l2]; exact ih _ _ _ _ _ (rem2 hk) (fun _ => rfl) hJ⟩
    · exact ⟨p1, g1, fun K hK => t1 _ _ _ _ hI K fun a' w' hS hJ => hK.out a' w' hS fun _ => by rw [m1]; exact ih _ _ _ _ _ (rem4 hk) v1 hJ⟩

theorem two_one' {n : Nat} (i1 i2 j1 : Nat) (o1 o2 p1 : Oper) (L : Bool → Bool → Bool → Array Bool) (I : Bool → Bool → Bool → Act → World → Prop)
    {fuel : Nat} {listed : Array Bool} {a : Act} {w : World} (hfuel : fuel = n + 3) (hl : listed = L false false false)
    (hr : ∀ c1 c2 d1, (c2 = true → c1 = true) → rem c1 c2 true d1 true true ≠ 0 → Region.ready md ops (L c1 c2 d1) = rdy2 i1 i2 j1 c1 c2 d1)
    (l1 : ∀ c2 d1, (L false c2 d1).setIfInBounds i1 true = L true c2 d1)
    (l2 : ∀ c1 d1, (L c1 false d1).setIfInBounds i2 true = L c1 true d1)
    (m1 : ∀ c1 c2, (L c1 c2 false).setIfInBounds j1 true = L c1 c2 true)
    (h1 : ops[i1]? = some o1) (h2 : ops[i2]? = some o2) (g1 : ops[j1]? = some p1)
    (s1 : ∀ d1 a w, I false false d1 a w → Does P ops Q S o1 a w (I true false d1))
    (s2 : ∀ d1 a w, I true false d1 a w → Does P ops Q S o2 a w (I true true d1))
    (t1 : ∀ c1 c2 a w, I c1 c2 false a w → Does P ops Q S p1 a w (I c1 c2 true))
    (e : ∀ a w, I true true true a w → wpAnyH P md ops Q S n (L true true true) a w)
    (hI : I false false false a w) : wpAnyH P md ops Q S fuel listed a w := by
  subst hfuel hl
  exact two_one i1 i2 j1 o1 o2 p1 L I hr l1 l2 m1 h1 h2 g1 s1 s2 t1 e 3 false false false a w rfl (fun h => nomatch h) hI
end
end Go.Proofs.YtmbjomjpnfnbkaaGreat
