/-
  The reference of networks, plain: patterns that are run as values.
-/
import Derived.Test.YtjfickfgpkejpaaXOut
set_option linter.unusedSimpArgs false
set_option linter.unusedVariables false
namespace Go.X
theorem netLt_at {m : Nat} {ls : List (Int × Int)} (h : NetLt m ls) {i : Nat} (hi : i < ls.length) : ∃ a b : Nat, gt ls i = ((a : Int), (b : Int)) ∧ a < b ∧ b < m := h _ (gt_mem hi)
theorem netLt_take {m i : Nat} {ls : List (Int × Int)} (h : NetLt m ls) : NetLt m (ls.take i) := fun c hc => h c (List.mem_of_mem_take hc)
/-- The number of a list of bits. -/
def numB (xs : List Int) (k : Nat) : Nat := colN k fun i => decide ((1 : Int) ≤ gt xs i)
theorem numB_succ {xs : List Int} {k : Nat} (h : 0 ≤ gt xs k ∧ gt xs k ≤ 1) : numB xs (k + 1) = numB xs k + (gt xs k).toNat * 2 ^ k := by
  unfold numB
  show colN k _ + _ = _
  congr 1
  dsimp only
  by_cases c : (1 : Int) ≤ gt xs k
  · rw [show (gt xs k).toNat = 1 from by omega]; simp [c]
  · rw [show (gt xs k).toNat = 0 from by omega]; simp [c]
theorem numB_lt (xs : List Int) (k : Nat) : numB xs k < 2 ^ k := colN_lt k _
theorem num_run {n p : Nat} {ls : List (Int × Int)} (hok : NetLt n ls) (hp : p < 2 ^ n) : numB (runV ls (bitsV n p)) (runV ls (bitsV n p)).length = colP n ls p := by
  rw [runV_length, bitsV_length]
  exact colN_congr fun i hi => (colF_bits hok.ok hp hi).symm
theorem bits_runV {n p : Nat} {ls : List (Int × Int)} (hok : NetLt n ls) : ∀ i, i < (runV ls (bitsV n p)).length → 0 ≤ gt (runV ls (bitsV n p)) i ∧ gt (runV ls (bitsV n p)) i ≤ 1 := fun i hi =>
  bitsV_range hok.ok i (by rw [runV_length, bitsV_length] at hi; exact hi)
def outBk (n : Nat) (ls : List (Int × Int)) (k q : Nat) : Bool := (List.range k).any fun p => colP n ls p == q
theorem outBk_succ (n : Nat) (ls : List (Int × Int)) (k q : Nat) : outBk n ls (k + 1) q = (outBk n ls k q || colP n ls k == q) := by
  unfold outBk; rw [List.range_succ, List.any_append]; simp
theorem seen_step {n k : Nat} {ls : List (Int × Int)} {us : List Bool} (hl : us.length = 2 ^ n) (hu : ∀ q, q < 2 ^ n → gt us q = outBk n ls k q) : ∀ q, q < 2 ^ n → gt (us.set (colP n ls k) true) q = outBk n ls (k + 1) q := fun q hq => by
  rw [gt_set (by rw [hl]; exact colP_lt n ls k), outBk_succ]
  by_cases h : q = colP n ls k
  · rw [if_pos h, h]; simp
  · rw [if_neg h, hu q hq, show (colP n ls k == q) = false from by simp; exact fun e => h e.symm]; simp
theorem runF_false {p : Nat} : ∀ {ls : List (Int × Int)} {f : WF}, (∀ k, f k p = false) → ∀ k, runF ls f k p = false
  | [], _, h => h
  | c :: cs, f, h => by unfold runF; exact runF_false (exF_pat f _ _ h)
theorem idle_bits {n i a b : Nat} {ls : List (Int × Int)} (hok : NetLt n ls) (hc : gt ls i = ((a : Int), (b : Int))) (ha : a < n) (hb : b < n) (hn : n ≤ 10) :
    idleB n ls i = true ↔ ∀ p, p < 2 ^ n → gt (runV (ls.take i) (bitsV n p)) a ≤ gt (runV (ls.take i) (bitsV n p)) b := by
  have hpw := pow10 hn
  rw [idleB_iff, hc]
  simp only [Int.toNat_natCast]
  constructor
  · intro h p hp
    rw [gt_runV_bits (netLt_take hok).ok hp ha, gt_runV_bits (netLt_take hok).ok hp hb]
    have := h p (by omega)
    unfold colF
    cases h1 : runF (ls.take i) (patF n) a p
    · simp; split <;> omega
    · rw [this h1]; simp
  · intro h p hp h1
    by_cases hp' : p < 2 ^ n
    · have := h p hp'
      rw [gt_runV_bits (netLt_take hok).ok hp' ha, gt_runV_bits (netLt_take hok).ok hp' hb] at this
      unfold colF at this
      rw [h1] at this
      cases h2 : runF (ls.take i) (patF n) b p
      · rw [h2] at this; simp at this
      · rfl
    · rw [runF_false (fun k => by unfold patF; rw [decide_eq_false hp']; simp) a] at h1; cases h1
theorem failsR_uniq {n p q : Nat} {col : Nat → Nat → Bool} {b c : Bool} (h : failsR n col p b) (k : failsR n col q c) : p = q ∧ b = c := by
  rcases h with ⟨rfl, h1, h2, h3⟩ | ⟨rfl, h1, h2⟩ <;> rcases k with ⟨rfl, k1, k2, k3⟩ | ⟨rfl, k1, k2⟩
  · refine ⟨?_, rfl⟩
    rcases Nat.lt_trichotomy p q with c | c | c
    · rw [k3 p c] at h2; cases h2
    · exact c
    · rw [h3 q c] at k2; cases k2
  · rw [k2 p h1] at h2; cases h2
  · rw [h2 q k1] at k2; cases k2
  · exact ⟨by omega, rfl⟩
end Go.X
