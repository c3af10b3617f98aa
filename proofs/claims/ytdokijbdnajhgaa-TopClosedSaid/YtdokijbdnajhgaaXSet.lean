/-
  Sets of elements as numbers, plain: what is below, what is above, ideals, sets within sets.
-/
import Derived.Test.YtdokijbdnajhgaaXOrd
import Derived.Test.YtdokijbdnajhgaaXOut
set_option linter.unusedSimpArgs false
set_option linter.unusedVariables false
namespace Go.X
theorem colN_set {n : Nat} {g : Nat → Bool} (h : g n = true) : colN n g ||| 1 * 2 ^ n = colN (n + 1) g := by rw [colN_or]; simp [colN, h]
theorem colN_skip {n : Nat} {g : Nat → Bool} (h : g n = false) : colN n g = colN (n + 1) g := by simp [colN, h]
theorem pow12 {n : Nat} (h : n ≤ 12) : 2 ^ n ≤ 4096 := Nat.pow_le_pow_right (by omega : 0 < 2) h
theorem bit_zero {s x : Nat} : (s / 2 ^ x &&& 1) = 0 ↔ s.testBit x = false := by rw [bit_and_one]; cases s.testBit x <;> simp
theorem bit_nz {s x : Nat} (h : ¬ (s / 2 ^ x &&& 1) = 0) : s.testBit x = true := by
  cases c : s.testBit x
  · exact absurd (bit_zero.2 c) h
  · rfl
theorem bit_mod {s x : Nat} : s / 2 ^ x % 2 = 1 ↔ s.testBit x = true := by
  rw [← Nat.and_one_is_mod, bit_and_one]; cases s.testBit x <;> simp
theorem bit_modD {s x : Nat} : decide (((s / 2 ^ x % 2 : Nat) : Int) = 1) = s.testBit x := by
  have := @bit_mod s x
  cases h : s.testBit x
  · rw [h] at this; exact decide_eq_false fun e => absurd (this.1 (by omega)) (by simp)
  · rw [h] at this; exact decide_eq_true (by have := this.2 rfl; omega)
theorem bit_zeroD {s x : Nat} : decide (((s / 2 ^ x &&& 1 : Nat) : Int) = 0) = !s.testBit x := by
  rw [bit_and_one]; cases s.testBit x <;> simp
theorem bit_oneD {s x : Nat} : decide (((s / 2 ^ x &&& 1 : Nat) : Int) = 1) = s.testBit x := by
  rw [bit_and_one]; cases s.testBit x <;> simp
theorem bit_lt {n s x : Nat} (h : s < 2 ^ n) (hb : s.testBit x = true) : x < n := by
  refine Nat.lt_of_not_le fun hc => ?_
  rw [Nat.testBit_lt_two_pow (Nat.lt_of_lt_of_le h (Nat.pow_le_pow_right (by omega) hc))] at hb
  cases hb
def incl (a b : Nat) : Bool := decide (andNot a b = 0)
theorem incl_iff {a b : Nat} : incl a b = true ↔ ∀ q, a.testBit q = true → b.testBit q = true := by unfold incl; rw [decide_eq_true_iff]; exact andNot_zero
theorem incl_and {a b : Nat} : incl a b = decide (a &&& b = a) := by
  rw [Bool.eq_iff_iff, incl_iff, decide_eq_true_iff]
  constructor
  · intro h
    apply Nat.eq_of_testBit_eq
    intro i
    rw [Nat.testBit_and]
    cases c : a.testBit i
    · rfl
    · rw [h i c]; rfl
  · intro h q hq
    rw [← h, Nat.testBit_and, Bool.and_eq_true] at hq
    exact hq.2
theorem andNot_le (a b : Nat) : andNot a b ≤ a := by
  rw [show andNot a b = a &&& andNot a b from Nat.eq_of_testBit_eq fun i => by rw [Nat.testBit_and, testBit_andNot]; cases a.testBit i <;> simp]
  exact Nat.and_le_left
theorem incl_D {a b : Nat} : decide (((andNot a b : Nat) : Int) = 0) = incl a b := by
  unfold incl
  rw [decide_eq_decide]
  omega
theorem and_D {a b : Nat} : decide (((a &&& b : Nat) : Int) = ((a : Nat) : Int)) = incl a b := by
  rw [incl_and, decide_eq_decide]
  omega
def dnF (n : Nat) (f : Nat → Nat → Bool) (x : Nat) : Nat := colN n fun y => f y x
def upF (n : Nat) (f : Nat → Nat → Bool) (x : Nat) : Nat := colN n fun y => f x y
theorem dnF_lt (n : Nat) (f : Nat → Nat → Bool) (x : Nat) : dnF n f x < 2 ^ n := colN_lt n _
theorem upF_lt (n : Nat) (f : Nat → Nat → Bool) (x : Nat) : upF n f x < 2 ^ n := colN_lt n _
theorem dnF_bit {n : Nat} {f : Nat → Nat → Bool} {x y : Nat} : (dnF n f x).testBit y = (decide (y < n) && f y x) := colN_bit n _ y
theorem upF_bit {n : Nat} {f : Nat → Nat → Bool} {x y : Nat} : (upF n f x).testBit y = (decide (y < n) && f x y) := colN_bit n _ y
theorem rall_succ (k : Nat) (g : Nat → Bool) : (List.range (k + 1)).all g = ((List.range k).all g && g k) := by rw [List.range_succ, List.all_append]; simp
theorem rall_zero (g : Nat → Bool) : (List.range 0).all g = true := rfl
theorem rall_iff {k : Nat} {g : Nat → Bool} : (List.range k).all g = true ↔ ∀ i, i < k → g i = true := by rw [List.all_eq_true]; exact ⟨fun h i hi => h i (List.mem_range.2 hi), fun h i hi => h i (List.mem_range.1 hi)⟩
/-- Ideals: with each element all below it. -/
def idlB (n : Nat) (f : Nat → Nat → Bool) (s : Nat) : Bool := (List.range n).all fun x => !s.testBit x || incl (dnF n f x) s
theorem idlB_iff {n s : Nat} {f : Nat → Nat → Bool} : idlB n f s = true ↔ ∀ x y, x < n → y < n → s.testBit x = true → f y x = true → s.testBit y = true := by
  unfold idlB
  rw [rall_iff]
  constructor
  · intro h x y hx hy hb hf
    have h1 := h x hx
    rw [hb, Bool.not_true, Bool.false_or, incl_iff] at h1
    exact h1 y (by rw [dnF_bit, hf, decide_eq_true hy]; rfl)
  · intro h x hx
    cases hb : s.testBit x
    · rfl
    · rw [Bool.not_true, Bool.false_or, incl_iff]
      intro y hy
      rw [dnF_bit, Bool.and_eq_true, decide_eq_true_iff] at hy
      exact h x y hx hy.1 hb hy.2
/-- The same, as the reference goes through the pairs. -/
def idlR (n : Nat) (f : Nat → Nat → Bool) (s x : Nat) : Bool := (List.range n).all fun y => !s.testBit y || !f x y || s.testBit x
theorem idlR_all {n s : Nat} {f : Nat → Nat → Bool} : ((List.range n).all fun x => idlR n f s x) = idlB n f s := by
  rw [Bool.eq_iff_iff, idlB_iff, rall_iff]
  constructor
  · intro h x y hx hy hb hf
    have := rall_iff.1 (h y hy) x hx
    rw [hb, hf] at this; simpa using this
  · intro h x hx
    refine rall_iff.2 fun y hy => ?_
    cases hb : s.testBit y
    · rfl
    · cases hf : f x y
      · rfl
      · rw [h y x hy hx hb hf]; rfl
def idealsF (n : Nat) (f : Nat → Nat → Bool) : List Int := filtF (2 ^ n) (idlB n f)
theorem filtF_yes {N : Nat} {f : Nat → Bool} (h : f N = true) : filtF N f ++ [(N : Int)] = filtF (N + 1) f := by rw [filtF_succ, h]; rfl
theorem filtF_no {N : Nat} {f : Nat → Bool} (h : f N = false) : filtF N f = filtF (N + 1) f := by rw [filtF_succ, h]; simp
theorem filtF_gt {N : Nat} {f : Nat → Bool} {i : Nat} (h : i < (filtF N f).length) : ∃ a : Nat, gt (filtF N f) i = (a : Int) ∧ a < N ∧ f a = true := by
  obtain ⟨q, h1, h2, h3⟩ := filtF_mem.1 (gt_mem h)
  exact ⟨q, h3.symm, h1, h2⟩
/-- Sets, by their being within each other. -/
def incF (xs : List Int) (i j : Nat) : Bool := incl (gt xs i).toNat (gt xs j).toNat
/-- The pairs of 'relation'. -/
def relC (n : Nat) (c : Int × Int) : List (Int × Int) := if ur c.1 % n ≠ ur c.2 % n then [(((min (ur c.1 % n) (ur c.2 % n) : Nat) : Int), ((max (ur c.1 % n) (ur c.2 % n) : Nat) : Int))] else []
def relL (n : Nat) (ls : List (Int × Int)) (k : Nat) : List (Int × Int) := (ls.take k).flatMap (relC n)
theorem relL_succ {n k : Nat} {ls : List (Int × Int)} (hk : k < ls.length) : relL n ls (k + 1) = relL n ls k ++ relC n (gt ls k) := by
  unfold relL
  rw [List.take_add_one, gt_some hk, List.flatMap_append]; simp
theorem relC_len (n : Nat) (c : Int × Int) : (relC n c).length ≤ 1 := by unfold relC; split <;> simp
theorem relL_len {n : Nat} {ls : List (Int × Int)} : ∀ {k : Nat}, k ≤ ls.length → (relL n ls k).length ≤ k
  | 0, _ => by simp [relL]
  | k + 1, h => by
    rw [relL_succ (by omega), List.length_append]
    have := relC_len n (gt ls k); have := relL_len (n := n) (ls := ls) (k := k) (by omega); omega
theorem relC_ok {n : Nat} (hn : 1 ≤ n) {c d : Int × Int} (h : d ∈ relC n c) : ∃ a b : Nat, d = ((a : Int), (b : Int)) ∧ a < b ∧ b < n := by
  unfold relC at h
  split at h
  · rename_i hne
    simp only [List.mem_singleton] at h
    have h1 := Nat.mod_lt (ur c.1) (show 0 < n by omega); have h2 := Nat.mod_lt (ur c.2) (show 0 < n by omega)
    exact ⟨_, _, h, by omega, by omega⟩
  · simp at h
theorem relL_ok {n : Nat} (hn : 1 ≤ n) {ls : List (Int × Int)} {k : Nat} {d : Int × Int} (h : d ∈ relL n ls k) : ∃ a b : Nat, d = ((a : Int), (b : Int)) ∧ a < b ∧ b < n := by
  obtain ⟨c, _, hc⟩ := List.mem_flatMap.1 h
  exact relC_ok hn hc
theorem up_order {n : Nat} {ls : List (Int × Int)} (h : ∀ d, d ∈ ls → ∃ a b : Nat, d = ((a : Int), (b : Int)) ∧ a < b ∧ b < n) : IsO n (closW n ls) :=
  clos_order (fun x => x) (fun _ _ _ _ e => e) fun x y hm => by
    obtain ⟨a, b, e, h1, h2⟩ := h _ hm
    obtain ⟨e1, e2⟩ := Prod.mk.inj e
    omega
theorem up_closE {n : Nat} (h1 : 1 ≤ n) (h2 : n ≤ 12) {ls : List (Int × Int)} (h : ∀ d, d ∈ ls → ∃ a b : Nat, d = ((a : Int), (b : Int)) ∧ a < b ∧ b < n) : closE n ls = 0 := by
  rw [closE_ok h1 h2 fun i hi => by
    obtain ⟨a, b, e, h3, h4⟩ := h _ (gt_mem hi)
    rw [e]; exact inR_iff.2 ⟨by show (0 : Int) ≤ (a : Int); omega, by show (0 : Int) ≤ (b : Int); omega, by show (a : Int) < n; omega, by show (b : Int) < n; omega⟩, if_pos (ordB_iff.2 (up_order h))]
end Go.X
