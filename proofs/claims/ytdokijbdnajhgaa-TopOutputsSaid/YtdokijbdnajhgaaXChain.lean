/-
  The patterns that come out of a comparator, and of the merge exchange, are ideals: plain.
-/
import Derived.Test.YtdokijbdnajhgaaXSet
import Derived.Test.YtdokijbdnajhgaaXMerge
set_option linter.unusedSimpArgs false
set_option linter.unusedVariables false
namespace Go.X
/-- Ideals of what follows of pairs are the sets that the pairs respect. -/
theorem idl_clos {n s : Nat} {ls : List (Int × Int)} (h : ∀ d, d ∈ ls → ∃ a b : Nat, d = ((a : Int), (b : Int)) ∧ a < n ∧ b < n) :
    idlB n (closW n ls) s = true ↔ ∀ x y : Nat, ((x : Int), (y : Int)) ∈ ls → s.testBit y = true → s.testBit x = true := by
  rw [idlB_iff]
  constructor
  · intro hi x y hm hy
    obtain ⟨a, b, e, ha, hb⟩ := h _ hm
    obtain ⟨e1, e2⟩ := Prod.mk.inj e
    exact hi y x (by omega) (by omega) hy (clos_pair hm)
  · intro hi x y hx hy hb hf
    exact clos_in (R := fun a b => s.testBit b = true → s.testBit a = true) (fun _ h => h) (fun _ _ _ h1 h2 h3 => h1 (h2 h3)) hi hf hb
theorem one_law {k a b : Nat} (hab : a < b) (hb : b < k) : outsF k [((a : Int), (b : Int))] = idealsF k (closW k [((b : Int), (a : Int))]) := by
  refine filtF_congr fun q hq => ?_
  rw [Bool.eq_iff_iff, idl_clos (fun d hd => ⟨b, a, by simpa using hd, hb, by omega⟩), outB_iff]
  have hrun : ∀ p i, runF [((a : Int), (b : Int))] (patF k) i p = exF (patF k) a b i p := fun p i => by
    show exF (patF k) (a : Int).toNat (b : Int).toNat i p = _
    rw [Int.toNat_natCast, Int.toNat_natCast]
  constructor
  · rintro ⟨p, hp, rfl⟩ x y hm hy
    obtain ⟨e1, e2⟩ := Prod.mk.inj (by simpa using hm : ((x : Int), (y : Int)) = ((b : Int), (a : Int)))
    obtain rfl : x = b := by omega
    obtain rfl : y = a := by omega
    unfold colP at hy ⊢
    rw [colN_bit, hrun] at hy ⊢
    unfold exF at hy ⊢
    rw [if_pos rfl] at hy
    rw [if_neg (by omega), if_pos rfl]
    rw [Bool.and_eq_true, Bool.and_eq_true] at hy
    rw [hy.2.1, decide_eq_true hb]; rfl
  · intro h
    refine ⟨q, hq, Nat.eq_of_testBit_eq fun i => ?_⟩
    have hab2 : q.testBit a = true → q.testBit b = true := h b a (by simp)
    unfold colP
    rw [colN_bit, hrun]
    by_cases hi : i < k
    · have hpat : ∀ j, j < k → patF k j q = q.testBit j := fun j hj => by unfold patF; rw [decide_eq_true hj, decide_eq_true hq]; rfl
      rw [decide_eq_true hi, Bool.true_and]
      unfold exF
      by_cases c1 : i = a
      · subst c1
        rw [if_pos rfl, hpat i hi, hpat b hb]
        cases c : q.testBit i
        · rfl
        · rw [hab2 c]; rfl
      · rw [if_neg c1]
        by_cases c2 : i = b
        · subst c2
          rw [if_pos rfl, hpat a (by omega), hpat i hi]
          cases c : q.testBit a
          · rfl
          · rw [hab2 c]; rfl
        · rw [if_neg c2, hpat i hi]
    · rw [decide_eq_false hi, Bool.false_and, Nat.testBit_lt_two_pow (Nat.lt_of_lt_of_le hq (Nat.pow_le_pow_right (by omega) (by omega)))]
/-- The chain, falling. -/
def chainL (k : Nat) : List (Int × Int) := (List.range k).map fun j => (((j + 1 : Nat) : Int), ((j : Nat) : Int))
theorem chainL_succ (k : Nat) : chainL (k + 1) = chainL k ++ [(((k + 1 : Nat) : Int), ((k : Nat) : Int))] := by simp [chainL, List.range_succ]
theorem chainL_len (k : Nat) : (chainL k).length = k := by simp [chainL]
theorem chainL_mem {k : Nat} {d : Int × Int} : d ∈ chainL k ↔ ∃ j, j < k ∧ d = (((j + 1 : Nat) : Int), ((j : Nat) : Int)) := by
  unfold chainL
  rw [List.mem_map]
  exact ⟨fun ⟨j, hj, e⟩ => ⟨j, List.mem_range.1 hj, e.symm⟩, fun ⟨j, hj, e⟩ => ⟨j, List.mem_range.2 hj, e.symm⟩⟩
theorem merge_law {k : Nat} (h1 : 1 ≤ k) (h2 : k ≤ 10) : outsF k (mergeF k) = idealsF k (closW k (chainL (k - 1))) := by
  rw [outs_sorts (merge_lt h1 h2) (merge_sorts h1 h2)]
  refine filtF_congr fun q hq => ?_
  rw [Bool.eq_iff_iff, idl_clos (fun d hd => by obtain ⟨j, hj, e⟩ := chainL_mem.1 hd; exact ⟨j + 1, j, e, by omega, by omega⟩), Bool.not_eq_true', badC_false]
  constructor
  · intro h x y hm hy
    obtain ⟨j, hj, e⟩ := chainL_mem.1 hm
    obtain ⟨e1, e2⟩ := Prod.mk.inj e
    obtain rfl : x = j + 1 := by omega
    obtain rfl : y = j := by omega
    exact h y (by omega) hy
  · intro h i hi hb
    exact h (i + 1) i (chainL_mem.2 ⟨i, by omega, rfl⟩) hb
/-- A closure of pairs that fall is an order. -/
theorem down_closE {n : Nat} (h1 : 1 ≤ n) (h2 : n ≤ 12) {ls : List (Int × Int)} (h : ∀ d, d ∈ ls → ∃ a b : Nat, d = ((a : Int), (b : Int)) ∧ b < a ∧ a < n) : closE n ls = 0 ∧ IsO n (closW n ls) := by
  have ho : IsO n (closW n ls) := clos_order (fun x => n - x) (fun x y hx hy e => by omega) fun x y hm => by
    obtain ⟨a, b, e, h3, h4⟩ := h _ hm
    obtain ⟨e1, e2⟩ := Prod.mk.inj e
    omega
  refine ⟨?_, ho⟩
  rw [closE_ok h1 h2 fun i hi => by
    obtain ⟨a, b, e, h3, h4⟩ := h _ (gt_mem hi)
    rw [e]; exact inR_iff.2 ⟨by show (0 : Int) ≤ (a : Int); omega, by show (0 : Int) ≤ (b : Int); omega, by show (a : Int) < n; omega, by show (b : Int) < n; omega⟩, if_pos (ordB_iff.2 ho)]
theorem pb_closW {k : Nat} {f : Nat → Nat → Bool} : idealsF (tabF k f).length (pb (tabF k f)) = idealsF k f := by
  rw [tabF_length]
  refine filtF_congr fun q hq => ?_
  rw [Bool.eq_iff_iff, idlB_iff, idlB_iff]
  exact ⟨fun h x y hx hy hb hf => h x y hx hy hb (by rw [pb_tabF hy hx]; exact hf), fun h x y hx hy hb hf => h x y hx hy hb (by rw [pb_tabF hy hx] at hf; exact hf)⟩
end Go.X
