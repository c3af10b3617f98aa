/-
  Rows that are combed, plain; how many pairs are out of order.
-/
import Derived.Test.YtjfickfgpkejpaaXGaps
set_option linter.unusedSimpArgs false
set_option linter.unusedVariables false
namespace Go.X
/-- The row when it was combed up to 'i', and the number of exchanges. -/
def combS (k : Nat) (xs : List Int) : Nat → List Int × Nat
  | 0 => (xs, 0)
  | i + 1 => (exch (combS k xs i).1 i (i + k), (combS k xs i).2 + if gt (combS k xs i).1 (i + k) < gt (combS k xs i).1 i then 1 else 0)
theorem combS_length (k : Nat) (xs : List Int) : ∀ i, (combS k xs i).1.length = xs.length
  | 0 => rfl
  | i + 1 => by unfold combS; rw [exch_length]; exact combS_length k xs i
theorem combS_le (k : Nat) (xs : List Int) : ∀ i, (combS k xs i).2 ≤ i
  | 0 => Nat.le_refl _
  | i + 1 => by have := combS_le k xs i; unfold combS; dsimp only; split <;> omega
theorem combS_GS {k : Nat} {xs : List Int} : ∀ {i : Nat}, i = 0 ∨ i + k ≤ xs.length → GS k (combS k xs i).2 xs (combS k xs i).1
  | 0, _ => rfl
  | i + 1, h => by
    have ih := combS_GS (k := k) (xs := xs) (i := i) (by omega)
    have hl := combS_length k xs i
    unfold combS exch
    dsimp only
    by_cases c : gt (combS k xs i).1 (i + k) < gt (combS k xs i).1 i
    · rw [if_pos c, if_pos c]; exact GS_snoc ih (by omega) c
    · rw [if_neg c, if_neg c]; exact ih
theorem combS_none {k : Nat} {xs : List Int} : ∀ {i : Nat}, (combS k xs i).2 = 0 → (combS k xs i).1 = xs ∧ ∀ p, p < i → gt xs p ≤ gt xs (p + k)
  | 0, _ => ⟨rfl, fun p hp => by omega⟩
  | i + 1, h => by
    unfold combS at h ⊢
    dsimp only at h ⊢
    obtain ⟨e, hs⟩ := combS_none (k := k) (xs := xs) (i := i) (by omega)
    rw [e] at h ⊢
    by_cases c : gt xs (i + k) < gt xs i
    · rw [if_pos c] at h; omega
    · refine ⟨by unfold exch; rw [if_neg c], fun p hp => ?_⟩
      by_cases e2 : p = i
      · subst e2; omega
      · exact hs p (by omega)
theorem combS_ex {k i : Nat} {xs ys : List Int} (h : ys = (combS k xs i).1) : exch ys i (i + k) = (combS k xs (i + 1)).1 := by rw [h]; rfl
theorem combS_yes {k i n : Nat} {xs ys : List Int} (h : ys = (combS k xs i).1) (hn : n = (combS k xs i).2) (c : gt ys (i + k) < gt ys i) : n + 1 = (combS k xs (i + 1)).2 := by
  show n + 1 = (combS k xs i).2 + if gt (combS k xs i).1 (i + k) < gt (combS k xs i).1 i then 1 else 0
  rw [← h, if_pos c, hn]
theorem combS_no {k i n : Nat} {xs ys : List Int} (h : ys = (combS k xs i).1) (hn : n = (combS k xs i).2) (c : ¬ gt ys (i + k) < gt ys i) : n = (combS k xs (i + 1)).2 := by
  show n = (combS k xs i).2 + if gt (combS k xs i).1 (i + k) < gt (combS k xs i).1 i then 1 else 0
  rw [← h, if_neg c, hn]; rfl
/-- The whole row combed. -/
def combF (k : Nat) (xs : List Int) : List Int × Nat := combS k xs (xs.length - k)
theorem combF_length (k : Nat) (xs : List Int) : (combF k xs).1.length = xs.length := combS_length _ _ _
theorem combF_GS (k : Nat) (xs : List Int) : GS k (combF k xs).2 xs (combF k xs).1 := combS_GS (by omega)
theorem combF_none {k : Nat} {xs : List Int} (h : (combF k xs).2 = 0) : (combF k xs).1 = xs ∧ SortedBy k xs := by
  obtain ⟨h1, h2⟩ := combS_none h
  exact ⟨h1, fun i hi => h2 i (by omega)⟩
/-- Where a row is not sorted by a gap. -/
def sortedR (k : Nat) (xs : List Int) (p : Nat) (ok : Bool) : Prop :=
  (ok = true ∧ p = 0 ∧ SortedBy k xs) ∨ (ok = false ∧ p + k < xs.length ∧ gt xs (p + k) < gt xs p ∧ ∀ q, q < p → gt xs q ≤ gt xs (q + k))
theorem sortedR_uniq {k : Nat} {xs : List Int} {p q : Nat} {a b : Bool} (h1 : sortedR k xs p a) (h2 : sortedR k xs q b) : p = q ∧ a = b := by
  rcases h1 with ⟨rfl, rfl, h1⟩ | ⟨rfl, h1, h3, h5⟩ <;> rcases h2 with ⟨rfl, rfl, h2⟩ | ⟨rfl, h2, h4, h6⟩
  · exact ⟨rfl, rfl⟩
  · have := h1 q h2; omega
  · have := h2 p h1; omega
  · refine ⟨?_, rfl⟩
    rcases Nat.lt_trichotomy p q with c | c | c
    · have := h6 p c; omega
    · exact c
    · have := h5 q c; omega
theorem sortedR_true {k : Nat} {xs : List Int} {p : Nat} {ok : Bool} (h : sortedR k xs p ok) (hs : SortedBy k xs) : ok = true := by
  rcases h with ⟨h, _⟩ | ⟨_, h1, h2, _⟩
  · exact h
  · have := hs p h1; omega
/-- Pairs of a row, an element against all behind it. -/
theorem wp_iff {k a b : Nat} {xs : List Int} (hab : a < b) : wp k xs a b = if (b - a) % k = 0 ∧ gt xs b < gt xs a then 1 else 0 := by
  unfold wp
  have e : a % k = b % k ↔ (b - a) % k = 0 := by
    constructor
    · intro h; exact Nat.sub_mod_eq_zero_of_mod_eq h.symm
    · intro h
      have h2 := Nat.div_add_mod (b - a) k
      rw [h] at h2
      have h3 : b = a + k * ((b - a) / k) := by omega
      rw [h3, Nat.add_mul_mod_self_left]
  simp only [hab, true_and, e]
theorem wp_skip {k a b : Nat} {xs : List Int} (hab : ¬ a < b) : wp k xs a b = 0 := if_neg fun h => hab h.1
theorem wp_le (k a b : Nat) (xs : List Int) : wp k xs a b ≤ 1 := by unfold wp; split <;> omega
theorem wp_row {k a : Nat} {xs : List Int} : S (fun b => wp k xs a b) (a + 1) = 0 := S_zero fun b hb => wp_skip (by omega)
theorem S_bound {f : Nat → Nat} {c : Nat} : ∀ {n : Nat}, (∀ i, i < n → f i ≤ c) → S f n ≤ c * n
  | 0, _ => Nat.zero_le _
  | n + 1, h => by unfold S; have := S_bound (f := f) (c := c) (n := n) fun i hi => h i (by omega); have := h n (by omega); rw [Nat.mul_succ]; omega
theorem pairs_le (k : Nat) (xs : List Int) : pairs k xs ≤ xs.length * xs.length :=
  S_bound fun a _ => Nat.le_trans (S_bound fun b _ => wp_le k a b xs) (by omega)
end Go.X
