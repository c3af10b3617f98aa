/-
  Values that run through a network, plain; the straight network of a loose one.
-/
import Derived.Test.YtdokijbdnajhgaaXLoose
set_option linter.unusedSimpArgs false
set_option linter.unusedVariables false
namespace Go.X
def runV : List (Int × Int) → List Int → List Int
  | [], xs => xs
  | c :: cs, xs => runV cs (exch xs c.1.toNat c.2.toNat)
theorem runV_append (xs ys : List (Int × Int)) (f : List Int) : runV (xs ++ ys) f = runV ys (runV xs f) := by
  induction xs generalizing f with
  | nil => rfl
  | cons x xs ih => exact ih _
theorem runV_length (ls : List (Int × Int)) (xs : List Int) : (runV ls xs).length = xs.length := by
  induction ls generalizing xs with
  | nil => rfl
  | cons x ls ih => unfold runV; rw [ih, exch_length]
theorem take_snoc {α : Type} [Inhabited α] {ls : List α} {i : Nat} (hi : i < ls.length) : ls.take (i + 1) = ls.take i ++ [gt ls i] := by
  rw [List.take_add_one, gt_eq hi]; simp [hi]
theorem runV_step {ls : List (Int × Int)} {xs ys : List Int} {i a b : Nat} (hi : i < ls.length) (hy : ys = runV (ls.take i) xs) (hc : gt ls i = ((a : Int), (b : Int))) : exch ys a b = runV (ls.take (i + 1)) xs := by
  rw [take_snoc hi, runV_append, ← hy, hc]
  simp only [runV, Int.toNat_natCast]
theorem runV_yes {ls : List (Int × Int)} {xs ys : List Int} {i a b : Nat} (hi : i < ls.length) (hy : ys = runV (ls.take i) xs) (hc : gt ls i = ((a : Int), (b : Int))) (h : gt ys b < gt ys a) : swp ys a b = runV (ls.take (i + 1)) xs := by
  rw [← runV_step hi hy hc]; unfold exch; rw [if_pos h]
theorem runV_no {ls : List (Int × Int)} {xs ys : List Int} {i a b : Nat} (hi : i < ls.length) (hy : ys = runV (ls.take i) xs) (hc : gt ls i = ((a : Int), (b : Int))) (h : ¬ gt ys b < gt ys a) : ys = runV (ls.take (i + 1)) xs := by
  rw [← runV_step hi hy hc]; unfold exch; rw [if_neg h]
theorem runV_all {ls : List (Int × Int)} {xs ys : List Int} {i : Nat} (hi : ls.length ≤ i) (hy : ys = runV (ls.take i) xs) : ys = runV ls xs := by
  rw [hy, List.take_of_length_le hi]
/-- What is wrong with a run. -/
def runE (n : Int) (ls : List (Int × Int)) (xs : List Int) : Int := if chkNet validC n ls ≠ 0 then chkNet validC n ls else if (xs.length : Int) ≠ n then 7 else 0
theorem runE_ok {n : Int} {ls : List (Int × Int)} {xs : List Int} (h : runE n ls xs = 0) : chkNet validC n ls = 0 ∧ (xs.length : Int) = n := by
  unfold runE at h
  split at h
  · contradiction
  · split at h
    · cases h
    · omega
theorem runE_zero {n : Nat} {ls : List (Int × Int)} {xs : List Int} (h : chkNet validC (n : Int) ls = 0) (hl : xs.length = n) : runE (n : Int) ls xs = 0 := by
  unfold runE; rw [if_neg (fun h' => h' h), if_neg (by omega)]
/-- As many values as there are wires. -/
def valuesF (n : Nat) (xs : List Int) : List Int := (List.range n).map fun i => if i < xs.length then gt xs i else ((n : Int) - (i : Int))
theorem valuesF_length (n : Nat) (xs : List Int) : (valuesF n xs).length = n := by simp [valuesF]
def valuesK (n : Nat) (xs : List Int) (k : Nat) : List Int := (List.range k).map fun i => if i < xs.length then gt xs i else ((n : Int) - (i : Int))
theorem valuesK_succ (n : Nat) (xs : List Int) (k : Nat) : valuesK n xs (k + 1) = valuesK n xs k ++ [if k < xs.length then gt xs k else ((n : Int) - (k : Int))] := by
  simp [valuesK, List.range_succ]
theorem valuesK_length (n : Nat) (xs : List Int) (k : Nat) : (valuesK n xs k).length = k := by simp [valuesK]
theorem gt_exch {xs : List Int} {i j : Nat} (hi : i < xs.length) (hj : j < xs.length) (hij : i ≠ j) (k : Nat) : gt (exch xs i j) k = if k = i then min (gt xs i) (gt xs j) else if k = j then max (gt xs i) (gt xs j) else gt xs k := by
  unfold exch
  split
  · rw [gt_swp hi hj]
    by_cases h1 : k = i
    · subst h1; rw [if_neg (by omega), if_pos rfl, if_pos rfl]; omega
    · by_cases h2 : k = j
      · subst h2; rw [if_pos rfl, if_neg h1, if_pos rfl]; omega
      · rw [if_neg h2, if_neg h1, if_neg h1, if_neg h2]
  · by_cases h1 : k = i
    · subst h1; rw [if_pos rfl]; omega
    · by_cases h2 : k = j
      · subst h2; rw [if_neg h1, if_pos rfl]; omega
      · rw [if_neg h1, if_neg h2]
/-- Where the values of the loose network are in the straight one. -/
structure StInv (n : Nat) (w x y : List Int) : Prop where
  lw : w.length = n
  lx : x.length = n
  ly : y.length = n
  rng : ∀ i, i < n → 0 ≤ gt w i ∧ gt w i < (n : Int)
  inj : ∀ i j, i < n → j < n → gt w i = gt w j → i = j
  val : ∀ i, i < n → gt x (gt w i).toNat = gt y i
theorem StInv.step {n a b : Nat} {w x y : List Int} (h : StInv n w x y) (ha : a < n) (hb : b < n) (hab : a ≠ b) :
    StInv n (exch w a b) (exch x (min (gt w a) (gt w b)).toNat (max (gt w a) (gt w b)).toNat) (exch y a b) := by
  obtain ⟨lw, lx, ly, rng, inj, val⟩ := h
  have r1 := rng a ha
  have r2 := rng b hb
  have hne : gt w a ≠ gt w b := fun e => hab (inj a b ha hb e)
  have gw := gt_exch (xs := w) (i := a) (j := b) (by omega) (by omega) hab
  have gy := gt_exch (xs := y) (i := a) (j := b) (by omega) (by omega) hab
  have gx := gt_exch (xs := x) (i := (min (gt w a) (gt w b)).toNat) (j := (max (gt w a) (gt w b)).toNat) (by omega) (by omega) (by omega)
  have va := val a ha
  have vb := val b hb
  refine ⟨by rw [exch_length]; exact lw, by rw [exch_length]; exact lx, by rw [exch_length]; exact ly, fun i hi => ?_, fun i j hi hj e => ?_, fun i hi => ?_⟩
  · have := rng i hi
    rw [gw]; split
    · omega
    · split <;> omega
  · rw [gw, gw] at e
    by_cases h1 : i = a
    · by_cases h2 : j = a
      · omega
      · rw [if_pos h1, if_neg h2] at e
        by_cases h3 : j = b
        · rw [if_pos h3] at e; omega
        · rw [if_neg h3] at e
          have := inj j a hj ha
          have := inj j b hj hb
          omega
    · by_cases h4 : i = b
      · rw [if_neg h1, if_pos h4] at e
        by_cases h2 : j = a
        · rw [if_pos h2] at e; omega
        · rw [if_neg h2] at e
          by_cases h3 : j = b
          · omega
          · rw [if_neg h3] at e
            have := inj j a hj ha
            have := inj j b hj hb
            omega
      · rw [if_neg h1, if_neg h4] at e
        by_cases h2 : j = a
        · rw [if_pos h2] at e
          have := inj i a hi ha
          have := inj i b hi hb
          omega
        · rw [if_neg h2] at e
          by_cases h3 : j = b
          · rw [if_pos h3] at e
            have := inj i a hi ha
            have := inj i b hi hb
            omega
          · rw [if_neg h3] at e; exact inj i j hi hj e
  · rw [gw, gy]
    have key : min (gt x (min (gt w a) (gt w b)).toNat) (gt x (max (gt w a) (gt w b)).toNat) = min (gt y a) (gt y b) ∧ max (gt x (min (gt w a) (gt w b)).toNat) (gt x (max (gt w a) (gt w b)).toNat) = max (gt y a) (gt y b) := by
      rcases Int.lt_or_lt_of_ne hne with hl | hl
      · rw [show min (gt w a) (gt w b) = gt w a from by omega, show max (gt w a) (gt w b) = gt w b from by omega, va, vb]; exact ⟨rfl, rfl⟩
      · rw [show min (gt w a) (gt w b) = gt w b from by omega, show max (gt w a) (gt w b) = gt w a from by omega, va, vb]; omega
    by_cases h1 : i = a
    · rw [if_pos h1, if_pos h1, gx, if_pos rfl]; exact key.1
    · by_cases h2 : i = b
      · rw [if_neg h1, if_pos h2, if_neg h1, if_pos h2, gx, if_neg (by omega), if_pos rfl]; exact key.2
      · rw [if_neg h1, if_neg h2, if_neg h1, if_neg h2, gx]
        have e1 := inj i a hi ha
        have e2 := inj i b hi hb
        have e3 := rng i hi
        rw [if_neg (by omega), if_neg (by omega)]
        exact val i hi
theorem StInv.zero {n : Nat} {x : List Int} (hx : x.length = n) : StInv n (iota n) x x :=
  ⟨iota_length n, hx, hx, fun i hi => by rw [gt_iota hi]; omega, fun i j hi hj e => by rw [gt_iota hi, gt_iota hj] at e; omega, fun i hi => by rw [gt_iota hi]; rfl⟩
theorem stInv {n : Nat} {ls : List (Int × Int)} {x : List Int} (hx : x.length = n) (hv : ∀ i, i < ls.length → ∃ a b : Nat, gt ls i = ((a : Int), (b : Int)) ∧ a < n ∧ b < n ∧ a ≠ b) :
    ∀ i, i ≤ ls.length → StInv n (stA n ls i) (runV (stO n ls i) x) (runV (ls.take i) x)
  | 0, _ => by
    show StInv n (iota n) (runV [] x) (runV (ls.take 0) x)
    rw [List.take_zero]; exact StInv.zero hx
  | i + 1, hi => by
    obtain ⟨a, b, hc, ha, hb, hab⟩ := hv i (by omega)
    have ih := stInv hx hv i (by omega)
    have := ih.step ha hb hab
    have e1 : stA n ls (i + 1) = exch (stA n ls i) a b := by show exch _ _ _ = _; rw [hc]; simp only [Int.toNat_natCast]
    have e2 : runV (stO n ls (i + 1)) x = exch (runV (stO n ls i) x) (min (gt (stA n ls i) a) (gt (stA n ls i) b)).toNat (max (gt (stA n ls i) a) (gt (stA n ls i) b)).toNat := by
      show runV (stO n ls i ++ _) x = _
      rw [runV_append, hc]; simp only [runV, Int.toNat_natCast]
    rw [e1, e2, ← runV_step (by omega) rfl hc]
    exact this
theorem stO_valid {n : Nat} {ls : List (Int × Int)} (h1 : 1 ≤ n) (h2 : n ≤ 10) (hv : ∀ i, i < ls.length → ∃ a b : Nat, gt ls i = ((a : Int), (b : Int)) ∧ a < n ∧ b < n ∧ a ≠ b) :
    ∀ i, i ≤ ls.length → ∀ c ∈ stO n ls i, validC (n : Int) c = true
  | 0, _ => fun c hc => by cases hc
  | i + 1, hi => fun c hc => by
    obtain ⟨a, b, hg, ha, hb, hab⟩ := hv i (by omega)
    have ih := stInv (n := n) (x := iota n) (iota_length n) hv i (by omega)
    have hc' : c ∈ stO n ls i ++ [(min (gt (stA n ls i) (gt ls i).1.toNat) (gt (stA n ls i) (gt ls i).2.toNat), max (gt (stA n ls i) (gt ls i).1.toNat) (gt (stA n ls i) (gt ls i).2.toNat))] := hc
    rw [List.mem_append] at hc'
    rcases hc' with h | h
    · exact stO_valid h1 h2 hv i (by omega) c h
    · rw [List.mem_singleton] at h
      rw [hg] at h
      simp only [Int.toNat_natCast] at h
      have r1 := ih.rng a ha
      have r2 := ih.rng b hb
      have hne : gt (stA n ls i) a ≠ gt (stA n ls i) b := fun e => hab (ih.inj a b ha hb e)
      subst h
      exact decide_eq_true ⟨by dsimp only; omega, by dsimp only; omega, by dsimp only; omega⟩
theorem stO_chk {n : Nat} {ls : List (Int × Int)} (h1 : 1 ≤ n) (h2 : n ≤ 10) (hl : ls.length ≤ 200) (hv : ∀ i, i < ls.length → ∃ a b : Nat, gt ls i = ((a : Int), (b : Int)) ∧ a < n ∧ b < n ∧ a ≠ b) : chkNet validC (n : Int) (stO n ls ls.length) = 0 :=
  chkNet_all (by omega) (by omega) (by rw [stO_length]; omega) fun i hi => stO_valid h1 h2 hv ls.length (Nat.le_refl _) _ (gt_mem hi)
end Go.X
