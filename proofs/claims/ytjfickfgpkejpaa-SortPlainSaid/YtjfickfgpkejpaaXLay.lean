/-
  The layers of a network, plain.
-/
import Derived.Test.YtjfickfgpkejpaaXRef
set_option linter.unusedSimpArgs false
set_option linter.unusedVariables false
namespace Go.X
/-- In which layer a wire is free, behind 'k' comparators. -/
def laF (ls : List (Int × Int)) : Nat → Nat → Nat
  | 0, _ => 0
  | k + 1, i => if i = (gt ls k).1.toNat ∨ i = (gt ls k).2.toNat then max (laF ls k (gt ls k).1.toNat) (laF ls k (gt ls k).2.toNat) + 1 else laF ls k i
def atF (ls : List (Int × Int)) (k : Nat) : Nat := max (laF ls k (gt ls k).1.toNat) (laF ls k (gt ls k).2.toNat)
/-- The layers of the first 'k' comparators. -/
def padY (o : List (List (Int × Int))) (a : Nat) : List (List (Int × Int)) := if a = o.length then o ++ [[]] else o
def outY (ls : List (Int × Int)) : Nat → List (List (Int × Int))
  | 0 => []
  | k + 1 => (padY (outY ls k) (atF ls k)).set (atF ls k) (gt (padY (outY ls k) (atF ls k)) (atF ls k) ++ [gt ls k])
theorem laF_succ (ls : List (Int × Int)) (k i : Nat) : laF ls (k + 1) i = if i = (gt ls k).1.toNat ∨ i = (gt ls k).2.toNat then atF ls k + 1 else laF ls k i := rfl
theorem padY_length (o : List (List (Int × Int))) (a : Nat) (h : a ≤ o.length) : a < (padY o a).length ∧ o.length ≤ (padY o a).length ∧ (padY o a).length ≤ o.length + 1 ∧ (padY o a).length ≤ max o.length (a + 1) := by
  unfold padY; split <;> simp <;> omega
theorem lay_len (ls : List (Int × Int)) : ∀ k, (∀ i, laF ls k i ≤ (outY ls k).length) ∧ (outY ls k).length ≤ k
  | 0 => ⟨fun i => Nat.le_refl _, Nat.le_refl _⟩
  | k + 1 => by
    obtain ⟨h1, h2⟩ := lay_len ls k
    have ha : atF ls k ≤ (outY ls k).length := by unfold atF; exact Nat.max_le.2 ⟨h1 _, h1 _⟩
    have hp := padY_length _ _ ha
    have hl : (outY ls (k + 1)).length = (padY (outY ls k) (atF ls k)).length := List.length_set ..
    refine ⟨fun i => ?_, by omega⟩
    rw [laF_succ, hl]
    split
    · omega
    · have := h1 i; omega
theorem atF_le (ls : List (Int × Int)) (k : Nat) : atF ls k ≤ (outY ls k).length := by unfold atF; exact Nat.max_le.2 ⟨(lay_len ls k).1 _, (lay_len ls k).1 _⟩
theorem outY_le (ls : List (Int × Int)) (k : Nat) : (outY ls k).length ≤ k := (lay_len ls k).2
theorem outY_yes {ls : List (Int × Int)} {k : Nat} (h : atF ls k = (outY ls k).length) : outY ls (k + 1) = (outY ls k ++ [[]]).set (atF ls k) (gt (outY ls k ++ [[]]) (atF ls k) ++ [gt ls k]) := by
  show (padY _ _).set _ _ = _
  unfold padY; rw [if_pos h]
theorem outY_no {ls : List (Int × Int)} {k : Nat} (h : atF ls k ≠ (outY ls k).length) : outY ls (k + 1) = (outY ls k).set (atF ls k) (gt (outY ls k) (atF ls k) ++ [gt ls k]) := by
  show (padY _ _).set _ _ = _
  unfold padY; rw [if_neg h]
theorem rowY_len (ls : List (Int × Int)) : ∀ k i, (gt (outY ls k) i).length ≤ k
  | 0, i => by simp [outY, gt]; rfl
  | k + 1, i => by
    have ha := atF_le ls k
    have hp := padY_length _ _ ha
    have hpad : ∀ j, (gt (padY (outY ls k) (atF ls k)) j).length ≤ k := fun j => by
      have := rowY_len ls k j
      unfold padY
      split
      · by_cases c : j < (outY ls k).length
        · rw [gt_append_left c]; exact this
        · by_cases c2 : j = (outY ls k).length
          · subst c2; rw [gt_append_right]; simp
          · simp [gt, List.getD_eq_getElem?_getD, List.getElem?_append, c]
            rw [List.getElem?_eq_none (by simp; omega)]; exact Nat.zero_le _
      · exact this
    show (gt ((padY (outY ls k) (atF ls k)).set _ _) i).length ≤ k + 1
    rw [gt_set hp.1]
    split
    · rw [List.length_append]; have := hpad (atF ls k); simp; omega
    · have := hpad i; omega
theorem padY_row (ls : List (Int × Int)) (k i : Nat) : (gt (outY ls k ++ [[]]) i).length ≤ k := by
  by_cases c : i < (outY ls k).length
  · rw [gt_append_left c]; exact rowY_len ls k i
  · by_cases c2 : i = (outY ls k).length
    · subst c2; rw [gt_append_right]; exact Nat.zero_le _
    · simp [gt, List.getD_eq_getElem?_getD, List.getElem?_append, c]
      rw [List.getElem?_eq_none (by simp; omega)]; exact Nat.zero_le _
/-- A list of all wires keeps what 'laF' says. -/
theorem la_step {ls : List (Int × Int)} {us : List Int} {k a b N : Nat} (hl : us.length = N) (hc : gt ls k = ((a : Int), (b : Int))) (ha : a < N) (hb : b < N) (hu : ∀ i, i < N → gt us i = ((laF ls k i : Nat) : Int)) :
    ∀ i, i < N → gt ((us.set a (((atF ls k + 1 : Nat)) : Int)).set b (((atF ls k + 1 : Nat)) : Int)) i = ((laF ls (k + 1) i : Nat) : Int) := fun i hi => by
  rw [gt_set (by simp; omega), gt_set (by omega), laF_succ, hc]
  simp only [Int.toNat_natCast]
  by_cases c1 : i = b
  · rw [if_pos c1, if_pos (.inr c1)]
  · rw [if_neg c1]
    by_cases c2 : i = a
    · rw [if_pos c2, if_pos (.inl c2)]
    · rw [if_neg c2, if_neg (by omega)]; exact hu i hi
theorem laF_le (ls : List (Int × Int)) (k i : Nat) : laF ls k i ≤ k := Nat.le_trans ((lay_len ls k).1 i) (lay_len ls k).2
theorem atF_ab {ls : List (Int × Int)} {k a b : Nat} (hc : gt ls k = ((a : Int), (b : Int))) : atF ls k = max (laF ls k a) (laF ls k b) := by unfold atF; rw [hc]; rfl
end Go.X
