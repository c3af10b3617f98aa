/-
  Loose networks, plain: what 'tame' makes, and the straight network.
-/
import Derived.Test.YtdokijbdnajhgaaXNet
import Derived.Test.YtdokijbdnajhgaaXDisj
set_option linter.unusedSimpArgs false
set_option linter.unusedVariables false
namespace Go.X
/-- One tamed comparator. -/
def tame1 (n : Nat) (loose : Bool) (c : Int × Int) : Int × Int :=
  if ur c.1 % n = ur c.2 % n then
    (if (ur c.1 % n + 1) % n < ur c.1 % n ∧ loose = false then ((((ur c.1 % n + 1) % n : Nat) : Int), ((ur c.1 % n : Nat) : Int)) else (((ur c.1 % n : Nat) : Int), (((ur c.1 % n + 1) % n : Nat) : Int)))
  else if ur c.2 % n < ur c.1 % n ∧ loose = false then (((ur c.2 % n : Nat) : Int), ((ur c.1 % n : Nat) : Int)) else (((ur c.1 % n : Nat) : Int), ((ur c.2 % n : Nat) : Int))
def tameF (n most : Nat) (loose : Bool) (ls : List (Int × Int)) : List (Int × Int) := if n ≤ 1 then [] else (ls.take most).map (tame1 n loose)
theorem take_step {α β : Type} [Inhabited α] {f : α → β} {ls : List α} {ms : List β} {i : Nat} {q : β} (hi : i < ls.length) (hms : ms = (ls.take i).map f) (hp : f (gt ls i) = q) : ms ++ [q] = (ls.take (i + 1)).map f := by
  rw [List.take_add_one, List.map_append, ← hms, ← hp, gt_eq hi]
  simp [hi]
theorem tame1_ok {n : Nat} {loose : Bool} {c : Int × Int} (hn : 1 < n) : ∃ a b : Nat, tame1 n loose c = ((a : Int), (b : Int)) ∧ a < n ∧ b < n ∧ a ≠ b ∧ (loose = false → a < b) := by
  have h1 : ur c.1 % n < n := Nat.mod_lt _ (by omega)
  have h2 : ur c.2 % n < n := Nat.mod_lt _ (by omega)
  have h3 : (ur c.1 % n + 1) % n < n := Nat.mod_lt _ (by omega)
  have h4 : (ur c.1 % n + 1) % n ≠ ur c.1 % n := by
    by_cases e : ur c.1 % n + 1 = n
    · rw [e, Nat.mod_self]; omega
    · rw [Nat.mod_eq_of_lt (by omega)]; omega
  unfold tame1
  split
  · split
    · exact ⟨_, _, rfl, h3, h1, h4, fun _ => by omega⟩
    · rename_i h5
      exact ⟨_, _, rfl, h1, h3, Ne.symm h4, fun hl => by
        have : ¬ (ur c.1 % n + 1) % n < ur c.1 % n := fun h => h5 ⟨h, hl⟩
        omega⟩
  · rename_i h6
    split
    · exact ⟨_, _, rfl, h2, h1, Ne.symm h6, fun _ => by omega⟩
    · rename_i h5
      exact ⟨_, _, rfl, h1, h2, h6, fun hl => by
        have : ¬ ur c.2 % n < ur c.1 % n := fun h => h5 ⟨h, hl⟩
        omega⟩
theorem tameF_length {n most : Nat} {loose : Bool} {ls : List (Int × Int)} : (tameF n most loose ls).length ≤ most := by
  unfold tameF; split <;> simp; omega
theorem tameF_ok {n most : Nat} {loose : Bool} {ls : List (Int × Int)} {i : Nat} (hi : i < (tameF n most loose ls).length) :
    ∃ a b : Nat, gt (tameF n most loose ls) i = ((a : Int), (b : Int)) ∧ a < n ∧ b < n ∧ a ≠ b ∧ (loose = false → a < b) := by
  by_cases hn : n ≤ 1
  · unfold tameF at hi; rw [if_pos hn] at hi; simp at hi
  · have e : gt (tameF n most loose ls) i = tame1 n loose (gt (ls.take most) i) := by
      unfold tameF at hi ⊢
      rw [if_neg hn] at hi ⊢
      simp only [List.length_map] at hi
      rw [gt_eq hi, gt_eq (by simpa using hi)]
      simp
    rw [e]
    exact tame1_ok (by omega)
theorem tameF_validL {n most : Nat} {ls : List (Int × Int)} (loose : Bool) (h1 : 1 ≤ n) (h2 : n ≤ 10) (h3 : most ≤ 200) : chkNet validL (n : Int) (tameF n most loose ls) = 0 := by
  refine chkNet_all (by omega) (by omega) (by have := tameF_length (n := n) (most := most) (loose := loose) (ls := ls); omega) fun i hi => ?_
  obtain ⟨a, b, e, ha, hb, hne, _⟩ := tameF_ok hi
  rw [e]
  exact decide_eq_true ⟨by dsimp only; omega, by dsimp only; omega, by dsimp only; omega⟩
theorem tameF_validC {n most : Nat} {ls : List (Int × Int)} (h1 : 1 ≤ n) (h2 : n ≤ 10) (h3 : most ≤ 200) : chkNet validC (n : Int) (tameF n most false ls) = 0 := by
  refine chkNet_all (by omega) (by omega) (by have := tameF_length (n := n) (most := most) (loose := false) (ls := ls); omega) fun i hi => ?_
  obtain ⟨a, b, e, ha, hb, hne, hl⟩ := tameF_ok hi
  rw [e]
  have := hl rfl
  exact decide_eq_true ⟨by dsimp only; omega, by dsimp only; omega, by dsimp only; omega⟩

/-- The first 'n' numbers. -/
def iota (n : Nat) : List Int := (List.range n).map fun j : Nat => (j : Int)
theorem iota_length (n : Nat) : (iota n).length = n := by simp [iota]
theorem gt_iota {n j : Nat} (h : j < n) : gt (iota n) j = (j : Int) := by
  rw [gt_eq (by rw [iota_length]; exact h)]; simp [iota]
theorem iota_succ (n : Nat) : iota (n + 1) = iota n ++ [(n : Int)] := by simp [iota, List.range_succ]
theorem iota_ext {n : Nat} {xs : List Int} (hl : xs.length = n) (h : ∀ j, j < n → gt xs j = (j : Int)) : xs = iota n :=
  gt_ext (by rw [iota_length]; exact hl) fun j hj => by rw [h j (by omega), gt_iota (by omega)]
/-- The straight network: on which wire each value is, and the comparators. -/
def stA (n : Nat) (ls : List (Int × Int)) : Nat → List Int
  | 0 => iota n
  | i + 1 => exch (stA n ls i) (gt ls i).1.toNat (gt ls i).2.toNat
def stO (n : Nat) (ls : List (Int × Int)) : Nat → List (Int × Int)
  | 0 => []
  | i + 1 => stO n ls i ++ [(min (gt (stA n ls i) (gt ls i).1.toNat) (gt (stA n ls i) (gt ls i).2.toNat), max (gt (stA n ls i) (gt ls i).1.toNat) (gt (stA n ls i) (gt ls i).2.toNat))]
theorem stA_length (n : Nat) (ls : List (Int × Int)) : ∀ i, (stA n ls i).length = n
  | 0 => iota_length n
  | i + 1 => by unfold stA; rw [exch_length]; exact stA_length n ls i
theorem stO_length (n : Nat) (ls : List (Int × Int)) : ∀ i, (stO n ls i).length = i
  | 0 => rfl
  | i + 1 => by unfold stO; rw [List.length_append, stO_length n ls i]; rfl
theorem swp_same {xs : List Int} {i j : Nat} (hi : i < xs.length) (hj : j < xs.length) (h : gt xs i = gt xs j) : swp xs i j = xs := by
  refine gt_ext (swp_length _ _ _) fun k hk => ?_
  rw [gt_swp hi hj]
  split
  · rename_i e; rw [e, h]
  · split
    · rename_i e; rw [e, h]
    · rfl
theorem stA_yes {n i a b : Nat} {ls : List (Int × Int)} {xs : List Int} (hx : xs = stA n ls i) (hc : gt ls i = ((a : Int), (b : Int))) (ha : a < n) (hb : b < n) (h : gt xs b ≤ gt xs a) : swp xs a b = stA n ls (i + 1) := by
  have hl : xs.length = n := by rw [hx]; exact stA_length n ls i
  show _ = exch (stA n ls i) _ _
  rw [← hx, hc]
  simp only [Int.toNat_natCast]
  unfold exch
  split
  · rfl
  · exact swp_same (by omega) (by omega) (by omega)
theorem stA_no {n i a b : Nat} {ls : List (Int × Int)} {xs : List Int} (hx : xs = stA n ls i) (hc : gt ls i = ((a : Int), (b : Int))) (h : gt xs a ≤ gt xs b) : xs = stA n ls (i + 1) := by
  show _ = exch (stA n ls i) _ _
  rw [← hx, hc]
  simp only [Int.toNat_natCast]
  unfold exch
  rw [if_neg (by omega)]
theorem stO_step {n i a b : Nat} {ls : List (Int × Int)} {xs : List Int} {ms : List (Int × Int)} {u v : Int} (hx : xs = stA n ls i) (hm : ms = stO n ls i) (hc : gt ls i = ((a : Int), (b : Int))) (hu : u = min (gt xs a) (gt xs b)) (hv : v = max (gt xs a) (gt xs b)) : ms ++ [(u, v)] = stO n ls (i + 1) := by
  show _ = stO n ls i ++ _
  rw [← hx, hc, ← hm, hu, hv]
  simp only [Int.toNat_natCast]
theorem validL_nat {m : Nat} {c : Int × Int} (h : validL (m : Int) c = true) : ∃ a b : Nat, c = ((a : Int), (b : Int)) ∧ a < m ∧ b < m ∧ a ≠ b := by
  obtain ⟨x, y⟩ := c
  have := of_decide_eq_true h
  dsimp only at this
  exact ⟨x.toNat, y.toNat, by rw [Int.toNat_of_nonneg (by omega), Int.toNat_of_nonneg (by omega)], by omega, by omega, by omega⟩
end Go.X
