/-
  The merge exchange, plain.
-/
import Derived.Test.YtdokijbdnajhgaaXNet
set_option linter.unusedSimpArgs false
set_option linter.unusedVariables false
namespace Go.X
/-- The comparators of a pass, from 'i' on, 'f' of them looked at. -/
def innerF (p r d : Nat) : Nat → Nat → List (Int × Int)
  | 0, _ => []
  | f + 1, i => (if i &&& p = r then [((i : Int), (i : Int) + (d : Int))] else []) ++ innerF p r d f (i + 1)
/-- The passes of a distance. -/
def passM (n p : Nat) : Nat → Nat → Nat → Nat → List (Int × Int)
  | 0, _, r, d => innerF p r d (n - d) 0
  | k + 1, q, r, d => innerF p r d (n - d) 0 ++ passM n p k (q / 2) p (q - p)
def outM (n T : Nat) : Nat → List (Int × Int)
  | 0 => []
  | e + 1 => passM n (2 ^ e) (T - e) (2 ^ T) 0 (2 ^ e) ++ outM n T e
def topT (n : Nat) : Nat := if n ≤ 2 then 0 else if n ≤ 4 then 1 else if n ≤ 8 then 2 else 3
def mergeF (n : Nat) : List (Int × Int) := if n ≤ 1 then [] else outM n (topT n) (topT n + 1)
theorem mergeF_short : ∀ n, n ≤ 10 → (mergeF n).length ≤ 31 := by decide
theorem topT_eq {n T : Nat} (hn : n ≤ 10) (h1 : T = 0 ∨ 2 ^ T < n) (h2 : ¬ 2 * 2 ^ T < n) : T = topT n := by
  have hT : T < 4 := by
    refine Nat.lt_of_not_le fun h => ?_
    have : 2 ^ 4 ≤ 2 ^ T := Nat.pow_le_pow_right (by omega) h
    omega
  unfold topT
  have : T = 0 ∨ T = 1 ∨ T = 2 ∨ T = 3 := by omega
  rcases this with rfl | rfl | rfl | rfl <;> (simp at h1 h2 ⊢; (repeat' split) <;> omega)
theorem topT_le (n : Nat) : topT n ≤ 3 := by unfold topT; (repeat' split) <;> omega
theorem app_len {α : Type} {xs ys zs : List α} (h : xs ++ ys = zs) : xs.length ≤ zs.length := by rw [← h]; simp
def passR (n p k q : Nat) : List (Int × Int) := match k with
  | 0 => []
  | k + 1 => passM n p k (q / 2) p (q - p)
theorem passM_eq (n p k q r d : Nat) : passM n p k q r d = innerF p r d (n - d) 0 ++ passR n p k q := by
  cases k <;> simp [passM, passR]
theorem passR_pos {n p k q : Nat} (hk : 0 < k) : passR n p k q = passM n p (k - 1) (q / 2) p (q - p) := by
  obtain ⟨j, rfl⟩ : ∃ j, k = j + 1 := ⟨k - 1, by omega⟩
  rfl
theorem outM_pos {n T e : Nat} (he : 0 < e) : outM n T e = passM n (2 ^ (e - 1)) (T - (e - 1)) (2 ^ T) 0 (2 ^ (e - 1)) ++ outM n T (e - 1) := by
  obtain ⟨j, rfl⟩ : ∃ j, e = j + 1 := ⟨e - 1, by omega⟩
  rfl
theorem half_pos {p e : Nat} (h : p = 2 ^ e / 2) (hp : 0 < p) : 0 < e ∧ p = 2 ^ (e - 1) := by
  cases e with
  | zero => simp at h; omega
  | succ e => refine ⟨by omega, ?_⟩; rw [h, Nat.pow_succ]; simp
theorem half_zero {p e : Nat} (h : p = 2 ^ e / 2) (hp : ¬ 0 < p) : e = 0 := by
  cases e with
  | zero => rfl
  | succ e => have := Nat.two_pow_pos e; rw [Nat.pow_succ] at h; omega
theorem pass_q {p e T : Nat} (hp : p = 2 ^ (e - 1)) (he : e ≤ T + 1) : 2 ^ T = p * 2 ^ (T - (e - 1)) := by
  rw [hp, ← Nat.pow_add]; congr 1; omega
theorem pass_k {p q k : Nat} (hp : 0 < p) (h : q = p * 2 ^ k) : (q = p → k = 0) ∧ (q ≠ p → 0 < k ∧ q / 2 = p * 2 ^ (k - 1) ∧ 2 * p ≤ q) := by
  cases k with
  | zero => simp at h; exact ⟨fun _ => rfl, fun hn => absurd h hn⟩
  | succ k =>
    have h1 := Nat.two_pow_pos k
    have h2 : q = 2 * (p * 2 ^ k) := by rw [h, Nat.pow_succ]; simp only [Nat.mul_comm, Nat.mul_left_comm]
    have h3 : p ≤ p * 2 ^ k := Nat.le_mul_of_pos_right _ h1
    refine ⟨fun e => by omega, fun _ => ⟨by omega, ?_, by omega⟩⟩
    rw [h2]; simp
theorem innerF_step {p r d n i : Nat} (h : i < n - d) {ms rest tot : List (Int × Int)} (ht : ms ++ (innerF p r d (n - d - i) i ++ rest) = tot) :
    (i &&& p = r → (ms ++ [((i : Int), ((i + d : Nat) : Int))]) ++ (innerF p r d (n - d - (i + 1)) (i + 1) ++ rest) = tot) ∧ (¬ i &&& p = r → ms ++ (innerF p r d (n - d - (i + 1)) (i + 1) ++ rest) = tot) := by
  have e : n - d - i = (n - d - (i + 1)) + 1 := by omega
  rw [e] at ht
  simp only [innerF] at ht
  constructor
  · intro hc; rw [if_pos hc] at ht; rw [← ht]; simp
  · intro hc; rw [if_neg hc] at ht; rw [← ht]; simp
theorem innerF_end {p r d n i : Nat} (h : n - d ≤ i) {ms rest tot : List (Int × Int)} (ht : ms ++ (innerF p r d (n - d - i) i ++ rest) = tot) : ms ++ rest = tot := by
  rw [show n - d - i = 0 from by omega] at ht
  simpa [innerF] using ht
theorem outM_short {n : Nat} (h1 : 1 < n) (h2 : n ≤ 10) : (outM n (topT n) (topT n + 1)).length ≤ 31 := by
  have := mergeF_short n h2
  unfold mergeF at this
  rwa [if_neg (by omega)] at this
theorem pow_topT {n : Nat} : 2 ^ topT n ≤ 8 := Nat.pow_le_pow_right (n := 2) (by omega) (topT_le n)
theorem and_le_l {a b : Nat} : a &&& b ≤ a := Nat.and_le_left
end Go.X
