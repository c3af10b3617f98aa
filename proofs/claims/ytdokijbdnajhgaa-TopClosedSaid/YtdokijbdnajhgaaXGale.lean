/-
  Gaps, plain: what is sorted by a gap stays so when it is sorted by another one (Gale and Karp); rows that are sorted by two gaps.
-/
import Derived.Test.YtdokijbdnajhgaaXGaps
set_option linter.unusedSimpArgs false
set_option linter.unusedVariables false
namespace Go.X
theorem mod_cancel {k h a p : Nat} : (h + a) % k = (p + h) % k ↔ a % k = p % k := by
  constructor
  · intro e
    rcases Nat.le_total a p with hl | hl
    · have h1 := Nat.sub_mod_eq_zero_of_mod_eq e.symm
      rw [show p + h - (h + a) = p - a from by omega] at h1
      have h2 := Nat.div_add_mod (p - a) k
      rw [h1] at h2
      have h3 : p = a + k * ((p - a) / k) := by omega
      rw [h3, Nat.add_mul_mod_self_left]
    · have h1 := Nat.sub_mod_eq_zero_of_mod_eq e
      rw [show h + a - (p + h) = a - p from by omega] at h1
      have h2 := Nat.div_add_mod (a - p) k
      rw [h1] at h2
      have h3 : a = p + k * ((a - p) / k) := by omega
      rw [h3, Nat.add_mul_mod_self_left]
  · intro e
    rw [Nat.add_comm p h, Nat.add_mod h a, Nat.add_mod h p, e]
theorem gale_karp {h k n : Nat} {xs ys : List Int} (hx : SortedBy h xs) (hg : GS k n xs ys) (hy : SortedBy k ys) : SortedBy h ys := by
  intro p hp
  refine Int.not_lt.1 fun hlt => ?_
  have hl := GS_length hg
  have e1 := GS_cnt (r := p % k) (v := gt ys (p + h)) hg
  have e2 := GS_cnt (r := (p + h) % k) (v := gt ys (p + h)) hg
  -- the class of p in ys: all its small elements lie ahead of p
  have u1 : cnt k (p % k) (gt ys (p + h)) ys ≤ S (fun a => if a % k = p % k then 1 else 0) p := by
    unfold cnt
    rw [show ys.length = p + (ys.length - p) from by omega, S_split]
    rw [S_zero (f := fun i => if (p + i) % k = p % k ∧ gt ys (p + i) ≤ gt ys (p + h) then 1 else 0) fun i hi => if_neg fun ⟨h1, h2⟩ => by
      have := sorted_le hy (a := p) (p := p + i) (by omega) (by omega) h1.symm
      omega]
    refine S_le fun i hi => ?_
    by_cases c : i % k = p % k
    · rw [if_pos c]; split <;> omega
    · rw [if_neg c, if_neg fun e => c e.1]; omega
  -- the class of p + h in ys: all up to p + h are small
  have u2 : S (fun a => if a % k = (p + h) % k then 1 else 0) (h + (p + 1)) ≤ cnt k ((p + h) % k) (gt ys (p + h)) ys := by
    unfold cnt
    refine Nat.le_trans ?_ (S_mono _ (show h + (p + 1) ≤ ys.length by omega))
    refine S_le fun i hi => ?_
    by_cases c : i % k = (p + h) % k
    · rw [if_pos c, if_pos ⟨c, sorted_le hy (by omega) hp c⟩]; omega
    · rw [if_neg c]; omega
  rw [S_split] at u2
  rw [S_congr (f := fun i => if (h + i) % k = (p + h) % k then 1 else 0) (g := fun a => if a % k = p % k then 1 else 0) fun i _ => by simp only [mod_cancel]] at u2
  -- in xs the elements of the second class, h before, are small ones of the first
  have u3 : cnt k ((p + h) % k) (gt ys (p + h)) xs ≤ S (fun a => if a % k = (p + h) % k then 1 else 0) h + cnt k (p % k) (gt ys (p + h)) xs := by
    unfold cnt
    have h3 : S (fun a => if a % k = (p + h) % k ∧ gt xs a ≤ gt ys (p + h) then 1 else 0) xs.length = S (fun a => if a % k = (p + h) % k ∧ gt xs a ≤ gt ys (p + h) then 1 else 0) (h + (xs.length - h)) := by
      rw [show h + (xs.length - h) = xs.length from by omega]
    rw [h3, S_split]
    refine Nat.add_le_add (S_le fun i _ => ?_) (Nat.le_trans (S_le (g := fun a => if a % k = p % k ∧ gt xs a ≤ gt ys (p + h) then 1 else 0) fun i hi => ?_) (S_mono _ (Nat.sub_le _ _)))
    · by_cases c : i % k = (p + h) % k
      · rw [if_pos c]; split <;> omega
      · rw [if_neg c, if_neg fun e => c e.1]; omega
    · by_cases c : (h + i) % k = (p + h) % k ∧ gt xs (h + i) ≤ gt ys (p + h)
      · rw [if_pos c, if_pos]; · omega
        refine ⟨mod_cancel.1 c.1, ?_⟩
        have := hx i (by omega)
        rw [Nat.add_comm i h] at this
        omega
      · rw [if_neg c]; omega
  have u4 : S (fun a => if a % k = p % k then 1 else 0) (p + 1) = S (fun a => if a % k = p % k then 1 else 0) p + 1 := by
    show S _ p + (if p % k = p % k then 1 else 0) = _
    rw [if_pos rfl]
  omega
theorem sorted_steps {a : Nat} {ys : List Int} (hs : SortedBy a ys) : ∀ (x p : Nat), p + x * a < ys.length → gt ys p ≤ gt ys (p + x * a)
  | 0, p, _ => by simp
  | x + 1, p, h => by
    rw [Nat.add_mul, Nat.one_mul] at h ⊢
    have h1 := sorted_steps hs x p (by omega)
    have h2 := hs (p + x * a) (by omega)
    rw [← Nat.add_assoc]
    omega
theorem sorted_rep {a b p q : Nat} {ys : List Int} (ha : SortedBy a ys) (hb : SortedBy b ys) (hpq : p ≤ q) (hr : Rep a b (q - p)) (hq : q < ys.length) : gt ys p ≤ gt ys q := by
  obtain ⟨x, y, e⟩ := hr
  have h1 := sorted_steps ha x p (by omega)
  have h2 := sorted_steps hb y (p + x * a) (by omega)
  rw [show p + x * a + y * b = q from by omega] at h2
  omega
theorem sorted_far {a b p q : Nat} {far : Int} {ys : List Int} (h1 : 1 ≤ a) (hg : Nat.gcd a b = 1) (ha : SortedBy a ys) (hb : SortedBy b ys) (hf : far = ((a * b : Nat) : Int) - a - b) (hpq : p ≤ q) (hd : (p : Int) + far < q) (hq : q < ys.length) : gt ys p ≤ gt ys q :=
  sorted_rep ha hb hpq (rep_big h1 hg (by omega)) hq
theorem sorted_one {ys : List Int} (h : SortedBy 1 ys) : inOrd ys = true := (inOrd_iff ys).2 h
end Go.X
