/-
  Plain lemmas on lists: rows that are put in order by exchanges.
-/
import Derived.Test.YtdokijbdnajhgaaXHeap
set_option linter.unusedSimpArgs false
set_option linter.unusedVariables false
namespace Go.X
theorem gt_ext {α : Type} [Inhabited α] {xs ys : List α} (hl : xs.length = ys.length) (h : ∀ j, j < xs.length → gt xs j = gt ys j) : xs = ys := by
  apply List.ext_getElem hl
  intro i h1 h2
  have := h i h1
  rwa [gt_eq h1, gt_eq h2] at this
theorem gt_set {α : Type} [Inhabited α] {xs : List α} {i j : Nat} {x : α} (hi : i < xs.length) : gt (xs.set i x) j = if j = i then x else gt xs j := by
  unfold gt
  simp only [List.getD_eq_getElem?_getD, List.getElem?_set]
  by_cases h : i = j
  · subst h; simp [hi]
  · rw [if_neg h, if_neg (fun e => h e.symm)]
theorem gt_append_left {α : Type} [Inhabited α] {xs ys : List α} {i : Nat} (hi : i < xs.length) : gt (xs ++ ys) i = gt xs i := by
  simp [gt, List.getElem?_append_left hi]
theorem gt_append_right {α : Type} [Inhabited α] {xs : List α} {y : α} : gt (xs ++ [y]) xs.length = y := by
  simp [gt]
theorem gt_replicate {α : Type} [Inhabited α] {n i : Nat} {a : α} (hi : i < n) : gt (List.replicate n a) i = a := by
  rw [gt_eq (by simpa using hi)]; simp
theorem gt_mem {α : Type} [Inhabited α] {xs : List α} {i : Nat} (hi : i < xs.length) : gt xs i ∈ xs := by rw [gt_eq hi]; exact List.getElem_mem hi
theorem mem_gt {α : Type} [Inhabited α] {xs : List α} {x : α} (h : x ∈ xs) : ∃ i, i < xs.length ∧ gt xs i = x := by
  obtain ⟨i, hi, he⟩ := List.getElem_of_mem h
  exact ⟨i, hi, by rw [gt_eq hi, he]⟩

theorem gt_single_le {x b : Int} (h : x ≤ b) : ∀ i, i < [x].length → gt [x] i ≤ b := by
  intro i hi
  have h0 : i = 0 := by simpa using hi
  subst h0; exact h

/-- The elements 'i' and 'j' exchanged. -/
def swp (xs : List Int) (i j : Nat) : List Int := (xs.set i (gt xs j)).set j (gt xs i)
theorem swp_length (xs : List Int) (i j : Nat) : (swp xs i j).length = xs.length := by simp [swp]
theorem gt_swp {xs : List Int} {i j : Nat} (hi : i < xs.length) (hj : j < xs.length) (k : Nat) : gt (swp xs i j) k = if k = j then gt xs i else if k = i then gt xs j else gt xs k := by
  unfold swp
  rw [gt_set (by simpa using hj), gt_set hi]
/-- The elements 'i' and 'j' put in order. -/
def exch (xs : List Int) (i j : Nat) : List Int := if gt xs j < gt xs i then swp xs i j else xs
theorem exch_length (xs : List Int) (i j : Nat) : (exch xs i j).length = xs.length := by unfold exch; split <;> simp [swp_length]

/-- 'ys' comes of 'xs' by 'n' exchanges of elements at the distance 'k' that were out of order. -/
def GS (k : Nat) : Nat → List Int → List Int → Prop
  | 0, xs, ys => xs = ys
  | n + 1, xs, ys => ∃ i, i + k < xs.length ∧ gt xs (i + k) < gt xs i ∧ GS k n (swp xs i (i + k)) ys

theorem GS_snoc {k : Nat} : ∀ {n : Nat} {xs ys : List Int} {i : Nat}, GS k n xs ys → i + k < ys.length → gt ys (i + k) < gt ys i → GS k (n + 1) xs (swp ys i (i + k))
  | 0, _, _, i, h, h1, h2 => by subst h; exact ⟨i, h1, h2, rfl⟩
  | _ + 1, _, _, _, ⟨j, hj1, hj2, h⟩, h1, h2 => ⟨j, hj1, hj2, GS_snoc h h1 h2⟩
theorem GS_length {k : Nat} : ∀ {n : Nat} {xs ys : List Int}, GS k n xs ys → ys.length = xs.length
  | 0, _, _, h => by rw [h]
  | _ + 1, _, _, ⟨_, _, _, h⟩ => by rw [GS_length h, swp_length]
theorem GS_trans {k : Nat} : ∀ {n m : Nat} {xs ys zs : List Int}, GS k n xs ys → GS k m ys zs → GS k (n + m) xs zs
  | 0, m, _, _, _, h, h' => by subst h; rwa [Nat.zero_add]
  | n + 1, m, _, _, _, ⟨i, h1, h2, h⟩, h' => by rw [show n + 1 + m = (n + m) + 1 from by omega]; exact ⟨i, h1, h2, GS_trans h h'⟩

/-- Sorted by 'k'. -/
def SortedBy (k : Nat) (xs : List Int) : Prop := ∀ i, i + k < xs.length → gt xs i ≤ gt xs (i + k)

/-- No value is greater than the next one. -/
def inOrd (xs : List Int) : Bool := (List.range (xs.length - 1)).all fun i => decide (gt xs i ≤ gt xs (i + 1))
theorem inOrd_iff (xs : List Int) : inOrd xs = true ↔ ∀ i, i + 1 < xs.length → gt xs i ≤ gt xs (i + 1) := by
  unfold inOrd
  rw [List.all_eq_true]
  constructor
  · intro h i hi
    simpa using h i (List.mem_range.2 (by omega))
  · intro h i hi
    have := List.mem_range.1 hi
    simpa using h i (by omega)

/-- Sorted by 'k' up to 'i', but for the element at 'q' against the one before it. -/
def InsAt (k i q : Nat) (zs : List Int) : Prop :=
  (∀ p, p + k ≤ i → p + k ≠ q → gt zs p ≤ gt zs (p + k)) ∧ (q + k ≤ i → k ≤ q → gt zs (q - k) ≤ gt zs (q + k))
theorem InsAt_start {k i : Nat} {zs : List Int} (h : ∀ p, p + k < i → gt zs p ≤ gt zs (p + k)) (hk : 1 ≤ k) : InsAt k i i zs :=
  ⟨fun p h1 h2 => h p (by omega), fun h1 _ => by omega⟩
theorem InsAt_step {k i q : Nat} {zs : List Int} (h : InsAt k i q zs) (hk : 1 ≤ k) (hq : k ≤ q) (hi : q ≤ i) (hl : i < zs.length) (hlt : gt zs q < gt zs (q - k)) : InsAt k i (q - k) (swp zs (q - k) q) := by
  obtain ⟨hA, hB⟩ := h
  have hg := fun j => gt_swp (xs := zs) (i := q - k) (j := q) (by omega) (by omega) j
  refine ⟨fun p h1 h2 => ?_, fun h1 h2 => ?_⟩
  · rw [hg p, hg (p + k)]
    by_cases c1 : p = q
    · subst c1
      rw [if_pos rfl, if_neg (by omega), if_neg (by omega)]
      exact hB h1 hq
    · by_cases c2 : p = q - k
      · subst c2
        rw [if_neg c1, if_pos rfl, if_pos (by omega)]
        omega
      · rw [if_neg c1, if_neg c2, if_neg (by omega), if_neg (by omega)]
        exact hA p h1 (by omega)
  · rw [hg (q - k - k), hg (q - k + k), if_neg (by omega), if_neg (by omega), if_pos (by omega)]
    have := hA (q - k - k) (by omega) (by omega)
    rwa [show q - k - k + k = q - k from by omega] at this
theorem InsAt_done {k i q : Nat} {zs : List Int} (h : InsAt k i q zs) (hd : k ≤ q → gt zs (q - k) ≤ gt zs q) : ∀ p, p + k < i + 1 → gt zs p ≤ gt zs (p + k) := by
  intro p hp
  by_cases c : p + k = q
  · subst c
    have := hd (by omega)
    rwa [Nat.add_sub_cancel] at this
  · exact h.1 p (by omega) c

/-- How many pairs at distances divisible by 'k' are out of order. -/
def inv1 (k : Nat) (xs : List Int) (i : Nat) : Nat := ((List.range xs.length).filter fun j => decide (i < j) && (j - i) % k == 0 && decide (gt xs j < gt xs i)).length
def invs (k : Nat) (xs : List Int) : Nat := ((List.range xs.length).map (inv1 k xs)).sum

end Go.X
