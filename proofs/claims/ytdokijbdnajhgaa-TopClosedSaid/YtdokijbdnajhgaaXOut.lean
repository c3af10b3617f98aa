/-
  What comes out of networks: a list that is sorted and compacted is what a filter says; noughts and ones; idle comparators in their list.
-/
import Derived.Test.YtdokijbdnajhgaaXZero
import Derived.Test.YtdokijbdnajhgaaXLoose
import Derived.Test.YtdokijbdnajhgaaXMake
import Derived.Lib.SlicesCompact
set_option linter.unusedSimpArgs false
set_option linter.unusedVariables false
namespace Go.X
theorem asc_ext : ∀ {xs ys : List Int}, xs.Pairwise (· < ·) → ys.Pairwise (· < ·) → (∀ x, x ∈ xs ↔ x ∈ ys) → xs = ys
  | [], [], _, _, _ => rfl
  | [], y :: ys, _, _, h => by have := (h y).2 (List.mem_cons_self ..); cases this
  | x :: xs, [], _, _, h => by have := (h x).1 (List.mem_cons_self ..); cases this
  | x :: xs, y :: ys, hx, hy, h => by
    rw [List.pairwise_cons] at hx hy
    have e : x = y := by
      have h1 := (h x).1 (List.mem_cons_self ..)
      have h2 := (h y).2 (List.mem_cons_self ..)
      rw [List.mem_cons] at h1 h2
      rcases h1 with h1 | h1
      · exact h1
      · rcases h2 with h2 | h2
        · exact h2.symm
        · have := hx.1 _ h2; have := hy.1 _ h1; omega
    subst e
    rw [asc_ext hx.2 hy.2 fun z => ?_]
    have := h z
    rw [List.mem_cons, List.mem_cons] at this
    constructor
    · intro hz
      rcases this.1 (.inr hz) with h1 | h1
      · subst h1; have := hx.1 _ hz; omega
      · exact h1
    · intro hz
      rcases this.2 (.inr hz) with h1 | h1
      · subst h1; have := hy.1 _ hz; omega
      · exact h1
theorem compact_asc_aux {zs : List Int} (hs : zs.Pairwise (· ≤ ·)) : ∀ m, m ≤ zs.length → (Lib.compactUpTo zs.toArray m).Pairwise (· < ·) ∧ (∀ x, x ∈ Lib.compactUpTo zs.toArray m ↔ ∃ j, j < m ∧ zs.toArray[j]! = x)
  | 0, _ => ⟨by simp [Lib.compactUpTo], fun x => by simp [Lib.compactUpTo]⟩
  | m + 1, hm => by
    obtain ⟨h1, h2⟩ := compact_asc_aux hs m (by omega)
    have ge : ∀ (i : Nat), i < zs.length → zs.toArray[i]! = zs[i]! := fun i hi => by simp
    have le : ∀ i j : Nat, i ≤ j → j < zs.length → zs.toArray[i]! ≤ zs.toArray[j]! := fun i j hij hj => by
      rw [ge i (by omega), ge j hj, getElem!_pos zs i (by omega), getElem!_pos zs j hj]
      rcases Nat.lt_or_eq_of_le hij with h | h
      · exact List.pairwise_iff_getElem.1 hs i j (by omega) hj h
      · subst h; exact Int.le_refl _
    rw [Lib.compactUpTo_succ]
    cases hk : Lib.keeps zs.toArray m
    · simp only [Bool.false_eq_true, if_false, List.append_nil]
      refine ⟨h1, fun x => ⟨fun hx => ?_, fun hx => ?_⟩⟩
      · obtain ⟨j, hj, e⟩ := (h2 x).1 hx; exact ⟨j, by omega, e⟩
      · obtain ⟨j, hj, e⟩ := hx
        by_cases hjm : j = m
        · subst hjm
          have hj0 : j ≠ 0 := fun h0 => by subst h0; simp [Lib.keeps] at hk
          have he : zs.toArray[j]! = zs.toArray[j - 1]! := Classical.byContradiction fun hne => by rw [Lib.keeps_pos hne] at hk; cases hk
          exact (h2 x).2 ⟨j - 1, by omega, he ▸ e⟩
        · exact (h2 x).2 ⟨j, by omega, e⟩
    · simp only [if_true]
      constructor
      · rw [List.pairwise_append]
        refine ⟨h1, by simp, fun a ha b hb => ?_⟩
        rw [List.mem_singleton] at hb
        subst hb
        obtain ⟨j, hj, rfl⟩ := (h2 a).1 ha
        have h3 := le j (m - 1) (by omega) (by omega)
        have h4 := le (m - 1) m (by omega) (by omega)
        have h5 : zs.toArray[m]! ≠ zs.toArray[m - 1]! := fun e => by rw [Lib.keeps_neg (by omega) e] at hk; cases hk
        omega
      · intro x
        rw [List.mem_append, h2 x, List.mem_singleton]
        constructor
        · rintro (⟨j, hj, e⟩ | e)
          · exact ⟨j, by omega, e⟩
          · exact ⟨m, by omega, e.symm⟩
        · rintro ⟨j, hj, e⟩
          by_cases hjm : j = m
          · subst hjm; exact .inr e.symm
          · exact .inl ⟨j, by omega, e⟩
theorem compact_asc {zs : List Int} (hs : zs.Pairwise (· ≤ ·)) : (Lib.compact zs).Pairwise (· < ·) ∧ (∀ x, x ∈ Lib.compact zs ↔ x ∈ zs) := by
  obtain ⟨h1, h2⟩ := compact_asc_aux hs zs.length (Nat.le_refl _)
  refine ⟨h1, fun x => ?_⟩
  unfold Lib.compact
  rw [h2, List.mem_iff_getElem]
  constructor
  · rintro ⟨j, hj, e⟩; exact ⟨j, hj, by rw [← e, getElem!_pos zs.toArray j (by simpa using hj)]; simp⟩
  · rintro ⟨j, hj, e⟩; exact ⟨j, hj, by rw [← e, getElem!_pos zs.toArray j (by simpa using hj)]; simp⟩
theorem sort_asc (xs : List Int) : (xs.mergeSort fun x y => decide (x ≤ y)).Pairwise (· ≤ ·) ∧ ∀ x, x ∈ xs.mergeSort (fun x y => decide (x ≤ y)) ↔ x ∈ xs := by
  refine ⟨?_, fun x => List.mem_mergeSort⟩
  have := List.pairwise_mergeSort (le := fun x y : Int => decide (x ≤ y)) (by intro a b c h1 h2; simp at *; omega) (by intro a b; simp; omega) xs
  exact this.imp (by intro a b h; simpa using h)
/-- A list of numbers, rising: what a test takes among the first ones. -/
def filtF (N : Nat) (f : Nat → Bool) : List Int := ((List.range N).filter f).map fun q : Nat => (q : Int)
theorem filtF_asc (N : Nat) (f : Nat → Bool) : (filtF N f).Pairwise (· < ·) := by
  unfold filtF
  rw [List.pairwise_map]
  exact (List.pairwise_lt_range.filter _).imp (by intro a b h; omega)
theorem filtF_mem {N : Nat} {f : Nat → Bool} {x : Int} : x ∈ filtF N f ↔ ∃ q : Nat, q < N ∧ f q = true ∧ (q : Int) = x := by
  unfold filtF
  rw [List.mem_map]
  constructor
  · rintro ⟨q, hq, e⟩; rw [List.mem_filter, List.mem_range] at hq; exact ⟨q, hq.1, hq.2, e⟩
  · rintro ⟨q, h1, h2, e⟩; exact ⟨q, by rw [List.mem_filter, List.mem_range]; exact ⟨h1, h2⟩, e⟩
theorem filtF_congr {N : Nat} {f g : Nat → Bool} (h : ∀ q, q < N → f q = g q) : filtF N f = filtF N g := by
  unfold filtF
  rw [List.filter_congr fun q hq => h q (List.mem_range.1 hq)]
theorem filtF_succ (N : Nat) (f : Nat → Bool) : filtF (N + 1) f = filtF N f ++ if f N then [(N : Int)] else [] := by
  unfold filtF
  have e : List.filter f [N] = if f N then [N] else [] := by simp only [List.filter_cons, List.filter_nil]
  rw [List.range_succ, List.filter_append, List.map_append, e]
  cases f N <;> rfl
theorem filtF_length (N : Nat) (f : Nat → Bool) : (filtF N f).length ≤ N := by
  unfold filtF
  rw [List.length_map]
  exact Nat.le_trans (List.length_filter_le ..) (by simp)
/-- Sorted and compacted. -/
theorem compact_sort_eq {N : Nat} {f : Nat → Bool} {xs : List Int} (h : ∀ x, x ∈ xs ↔ ∃ q : Nat, q < N ∧ f q = true ∧ (q : Int) = x) : Lib.compact (xs.mergeSort fun x y => decide (x ≤ y)) = filtF N f := by
  obtain ⟨h1, h2⟩ := sort_asc xs
  obtain ⟨h3, h4⟩ := compact_asc h1
  refine asc_ext h3 (filtF_asc N f) fun x => ?_
  rw [h4, h2, h, filtF_mem]
/-- The patterns that come out. -/
def colP (n : Nat) (ls : List (Int × Int)) (p : Nat) : Nat := colN n fun i => runF ls (patF n) i p
theorem colP_lt (n : Nat) (ls : List (Int × Int)) (p : Nat) : colP n ls p < 2 ^ n := colN_lt n _
def outB (n : Nat) (ls : List (Int × Int)) (q : Nat) : Bool := (List.range (2 ^ n)).any fun p => colP n ls p == q
theorem outB_iff {n : Nat} {ls : List (Int × Int)} {q : Nat} : outB n ls q = true ↔ ∃ p, p < 2 ^ n ∧ colP n ls p = q := by
  unfold outB
  rw [List.any_eq_true]
  constructor
  · rintro ⟨p, hp, e⟩; exact ⟨p, List.mem_range.1 hp, by simpa using e⟩
  · rintro ⟨p, hp, e⟩; exact ⟨p, List.mem_range.2 hp, by simpa using e⟩
def outsF (n : Nat) (ls : List (Int × Int)) : List Int := filtF (2 ^ n) (outB n ls)
def outL (n : Nat) (ls : List (Int × Int)) (k : Nat) : List Int := (List.range k).map fun p => ((colP n ls p : Nat) : Int)
theorem outL_succ (n : Nat) (ls : List (Int × Int)) (k : Nat) : outL n ls (k + 1) = outL n ls k ++ [((colP n ls k : Nat) : Int)] := by simp [outL, List.range_succ]
theorem outL_length (n : Nat) (ls : List (Int × Int)) (k : Nat) : (outL n ls k).length = k := by simp [outL]
theorem outL_ne {n : Nat} {ls : List (Int × Int)} : outL n ls (2 ^ n) ≠ [] := fun e => by
  have := congrArg List.length e
  rw [outL_length] at this
  have := Nat.two_pow_pos n
  simp at *
theorem outs_eq (n : Nat) (ls : List (Int × Int)) : Lib.compact ((outL n ls (2 ^ n)).mergeSort fun x y => decide (x ≤ y)) = outsF n ls := by
  refine compact_sort_eq fun x => ?_
  unfold outL
  rw [List.mem_map]
  constructor
  · rintro ⟨p, hp, rfl⟩; exact ⟨_, colP_lt n ls p, outB_iff.2 ⟨p, List.mem_range.1 hp, rfl⟩, rfl⟩
  · rintro ⟨q, hq, h1, rfl⟩
    obtain ⟨p, hp, e⟩ := outB_iff.1 h1
    exact ⟨p, List.mem_range.2 hp, by rw [e]⟩
theorem sort_ne {xs : List Int} (h : xs ≠ []) : (xs.mergeSort fun x y => decide (x ≤ y)) ≠ [] := fun e => h (List.eq_nil_of_length_eq_zero (by have := congrArg List.length e; rw [List.length_mergeSort] at this; simpa using this))
theorem sort_len (xs : List Int) : (xs.mergeSort fun x y => decide (x ≤ y)).length = xs.length := List.length_mergeSort _
/-- Patterns in order come out as they are. -/
theorem col_self {n q : Nat} {ls : List (Int × Int)} (hok : NetLt n ls) (hq : q < 2 ^ n) (hb : badC n (fun i => q.testBit i) = false) : colP n ls q = q := by
  have hs : SortedBy 1 (bitsV n q) := by
    intro i hi
    rw [bitsV_length] at hi
    rw [gt_bitsV (by omega), gt_bitsV hi]
    have h1 := (badC_false n _).1 hb i hi
    have a1 := @bit_thr q i
    have a2 := @bit_thr q (i + 1)
    rw [a1, a2] at h1
    have h2 : q / 2 ^ i % 2 < 2 := Nat.mod_lt _ (by omega)
    by_cases c : (1 : Int) ≤ ((q / 2 ^ i % 2 : Nat) : Int)
    · have := of_decide_eq_true (h1 (decide_eq_true c)); omega
    · omega
  have hr := runV_sorted hok (bitsV_length n q) hs
  unfold colP
  refine Nat.eq_of_testBit_eq fun i => ?_
  rw [colN_bit]
  by_cases hi : i < n
  · rw [decide_eq_true hi, Bool.true_and]
    have := colF_bits hok.ok hq hi
    unfold colF at this
    rw [this, hr, gt_bitsV hi, ← bit_thr]
  · rw [decide_eq_false hi, Bool.false_and]
    symm
    exact Nat.testBit_lt_two_pow (Nat.lt_of_lt_of_le hq (Nat.pow_le_pow_right (by omega) (by omega)))
theorem outs_sorts {n : Nat} {ls : List (Int × Int)} (hok : NetLt n ls) (hno : ∀ q, q < 2 ^ n → badC n (colF ls n q) = false) : outsF n ls = filtF (2 ^ n) fun q => !badC n fun i => q.testBit i := by
  refine filtF_congr fun q hq => ?_
  cases hb : badC n (fun i => q.testBit i)
  · exact outB_iff.2 ⟨q, hq, col_self hok hq hb⟩
  · show outB n ls q = false
    rw [Bool.eq_false_iff]
    intro h
    obtain ⟨p, hp, rfl⟩ := outB_iff.1 h
    have h1 := hno p hp
    rw [badC_iff] at hb
    obtain ⟨i, hi, h2, h3⟩ := hb

    unfold colP at h2 h3
    rw [colN_bit, decide_eq_true (by omega : i < n), Bool.true_and] at h2
    rw [colN_bit, decide_eq_true hi, Bool.true_and] at h3
    have h4 := (badC_false n _).1 h1 i hi h2
    unfold colF at h4
    rw [h3] at h4; cases h4
theorem count_sorted : ∀ n, n ≤ 10 → (filtF (2 ^ n) fun q => !badC n fun i => q.testBit i).length = n + 1 := by
  intro n hn
  have : n = 0 ∨ n = 1 ∨ n = 2 ∨ n = 3 ∨ n = 4 ∨ n = 5 ∨ n = 6 ∨ n = 7 ∨ n = 8 ∨ n = 9 ∨ n = 10 := by omega
  rcases this with rfl | rfl | rfl | rfl | rfl | rfl | rfl | rfl | rfl | rfl | rfl <;> decide +kernel
theorem outs_count {n : Nat} {ls : List (Int × Int)} (hn : n ≤ 10) (hok : NetLt n ls) (hno : ∀ q, q < 2 ^ n → badC n (colF ls n q) = false) : (outsF n ls).length = n + 1 := by
  rw [outs_sorts hok hno]; exact count_sorted n hn
/-! ### Idle comparators, in their list -/
theorem idleF_tail (n : Nat) (ls : List (Int × Int)) (k : Nat) : ∀ d, ∃ tl, idleF n ls (k + d) = idleF n ls k ++ tl ∧ ∀ x ∈ tl, (k : Int) ≤ x
  | 0 => ⟨[], by simp, fun x hx => by cases hx⟩
  | d + 1 => by
    obtain ⟨tl, h1, h2⟩ := idleF_tail n ls k d
    refine ⟨tl ++ if idleB n ls (k + d) then [((k + d : Nat) : Int)] else [], by rw [← Nat.add_assoc, idleF_succ, h1, List.append_assoc], fun x hx => ?_⟩
    rw [List.mem_append] at hx
    rcases hx with hx | hx
    · exact h2 x hx
    · split at hx
      · rw [List.mem_singleton] at hx; subst hx; omega
      · cases hx
theorem idle_yes {n : Nat} {ls : List (Int × Int)} {k L : Nat} (hk : k < L) (hb : idleB n ls k = true) : (idleF n ls k).length < (idleF n ls L).length ∧ gt (idleF n ls L) (idleF n ls k).length = (k : Int) ∧ (idleF n ls (k + 1)).length = (idleF n ls k).length + 1 := by
  obtain ⟨tl, h1, _⟩ := idleF_tail n ls (k + 1) (L - (k + 1))
  rw [show k + 1 + (L - (k + 1)) = L from by omega, idleF_succ, hb, if_pos rfl] at h1
  have h2 : (idleF n ls (k + 1)).length = (idleF n ls k).length + 1 := by rw [idleF_succ, hb, if_pos rfl]; simp
  refine ⟨by rw [h1]; simp, ?_, h2⟩
  rw [h1]
  unfold gt
  rw [List.getD_eq_getElem?_getD, List.append_assoc, List.getElem?_append_right (Nat.le_refl _)]
  simp
theorem idle_no {n : Nat} {ls : List (Int × Int)} {k L : Nat} (hk : k < L) (hb : idleB n ls k = false) : ((idleF n ls k).length < (idleF n ls L).length → gt (idleF n ls L) (idleF n ls k).length ≠ (k : Int)) ∧ (idleF n ls (k + 1)).length = (idleF n ls k).length := by
  obtain ⟨tl, h1, h2⟩ := idleF_tail n ls (k + 1) (L - (k + 1))
  have h3 : idleF n ls (k + 1) = idleF n ls k := by rw [idleF_succ, hb]; simp
  rw [show k + 1 + (L - (k + 1)) = L from by omega, h3] at h1
  refine ⟨fun hlt => ?_, by rw [h3]⟩
  rw [h1] at hlt ⊢
  rw [List.length_append] at hlt
  unfold gt
  rw [List.getD_eq_getElem?_getD, List.getElem?_append_right (Nat.le_refl _), Nat.sub_self]
  cases tl with
  | nil => simp at hlt
  | cons x tl =>
    have := h2 x (List.mem_cons_self ..)
    simp only [List.getElem?_cons_zero, Option.getD_some]
    omega
/-- Whether exchange says that something turned. -/
theorem idle_exC {n i a b : Nat} {ls : List (Int × Int)} {ws : List Nat} (hw : Wi (runF (ls.take i) (patF n)) ws) (ha : (gt ls i).1.toNat = a) (hb : (gt ls i).2.toNat = b) (ha' : a < 10) (hb' : b < 10) : (!exC ws a b 16) = idleB n ls i := by
  cases h : exC ws a b 16
  · symm
    refine idleB_iff.2 fun p hp h1 => ?_
    rw [ha] at h1; rw [hb]
    refine Classical.byContradiction fun h2 => ?_
    have := (exC_iff hw ha' hb').2 ⟨p, hp, h1, (Bool.not_eq_true _).mp h2⟩
    rw [h] at this; cases this
  · obtain ⟨p, hp, h1, h2⟩ := (exC_iff hw ha' hb').1 h
    symm
    show idleB n ls i = false
    rw [Bool.eq_false_iff]
    intro hi
    have := idleB_iff.1 hi p hp (by rw [ha]; exact h1)
    rw [hb, h2] at this; cases this
theorem idle_is {n : Nat} {ls : List (Int × Int)} {k L : Nat} (hk : k < L) (h1 : (idleF n ls k).length < (idleF n ls L).length) (h2 : gt (idleF n ls L) (idleF n ls k).length = (k : Int)) : idleB n ls k = true := by
  cases hb : idleB n ls k
  · exact absurd h2 ((idle_no hk hb).1 h1)
  · rfl
theorem idle_not {n : Nat} {ls : List (Int × Int)} {k L : Nat} (hk : k < L) (h : ¬ ((idleF n ls k).length < (idleF n ls L).length ∧ gt (idleF n ls L) (idleF n ls k).length = (k : Int))) : idleB n ls k = false := by
  cases hb : idleB n ls k
  · rfl
  · exact absurd ⟨(idle_yes hk hb).1, (idle_yes hk hb).2.1⟩ h
theorem merge_chk : ∀ m : Nat, 1 ≤ m → m ≤ 10 → chkNet validC (m : Int) (mergeF m) = 0 := by
  intro m h1 h2
  have : m = 1 ∨ m = 2 ∨ m = 3 ∨ m = 4 ∨ m = 5 ∨ m = 6 ∨ m = 7 ∨ m = 8 ∨ m = 9 ∨ m = 10 := by omega
  rcases this with rfl | rfl | rfl | rfl | rfl | rfl | rfl | rfl | rfl | rfl <;> decide +kernel
theorem merge_lt {m : Nat} (h1 : 1 ≤ m) (h2 : m ≤ 10) : NetLt m (mergeF m) := chk_netLt (merge_chk m h1 h2)
theorem tame_lt {m most : Nat} {ls : List (Int × Int)} (h1 : 1 ≤ m) (h2 : m ≤ 10) (h3 : most ≤ 200) : NetLt m (tameF m most false ls) := chk_netLt (tameF_validC h1 h2 h3)
theorem rest_lt {n k : Nat} {ls : List (Int × Int)} (h : NetLt n ls) (hk : k ≤ ls.length) : NetLt n (restF n ls k) := fun c hc => h c (restF_mem hk c hc)
theorem nt {b : Bool} (h : b = false) : ¬ (b = true) := by rw [h]; simp
theorem failsAt {n p : Nat} {col : Nat → Nat → Bool} {b c : Bool} (h : failsR n col p b) (e : b = c) : failsR n col p c := e ▸ h
end Go.X
