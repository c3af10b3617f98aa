/-
  The principle of noughts and ones, plain; plain networks; networks of which comparators are left out.
-/
import Derived.Test.YtdokijbdnajhgaaXRunV
import Derived.Test.YtdokijbdnajhgaaXGale
set_option linter.unusedSimpArgs false
set_option linter.unusedVariables false
namespace Go.X
def NetOk (n : Nat) (ls : List (Int × Int)) : Prop := ∀ c ∈ ls, ∃ a b : Nat, c = ((a : Int), (b : Int)) ∧ a < n ∧ b < n ∧ a ≠ b
def NetLt (n : Nat) (ls : List (Int × Int)) : Prop := ∀ c ∈ ls, ∃ a b : Nat, c = ((a : Int), (b : Int)) ∧ a < b ∧ b < n
theorem NetLt.ok {n : Nat} {ls : List (Int × Int)} (h : NetLt n ls) : NetOk n ls := fun c hc => by
  obtain ⟨a, b, e, h1, h2⟩ := h c hc
  exact ⟨a, b, e, by omega, h2, by omega⟩
theorem NetLt.append {n : Nat} {xs ys : List (Int × Int)} (h : NetLt n xs) (h' : NetLt n ys) : NetLt n (xs ++ ys) := fun c hc => by
  rw [List.mem_append] at hc
  exact hc.elim (h c) (h' c)
theorem NetLt.cons {n : Nat} {x : Int × Int} {xs : List (Int × Int)} (h : NetLt n (x :: xs)) : NetLt n xs := fun c hc => h c (List.mem_cons_of_mem _ hc)
theorem chk_netLt {m : Nat} {ls : List (Int × Int)} (h : chkNet validC (m : Int) ls = 0) : NetLt m ls := fun c hc => by
  obtain ⟨_, _, _, hv⟩ := chkNet_ok h
  obtain ⟨i, hi, rfl⟩ := mem_gt hc
  obtain ⟨h1, h2, h3, h4⟩ := validC_nat (hv i hi)
  exact ⟨_, _, Prod.ext h1 h2, h3, h4⟩
theorem netLt_chk {m : Nat} {ls : List (Int × Int)} (h1 : 1 ≤ m) (h2 : m ≤ 10) (hl : ls.length ≤ 200) (h : NetLt m ls) : chkNet validC (m : Int) ls = 0 :=
  chkNet_all (by omega) (by omega) (by omega) fun i hi => by
    obtain ⟨a, b, e, h3, h4⟩ := h _ (gt_mem hi)
    rw [e]
    exact decide_eq_true ⟨by dsimp only; omega, by dsimp only; omega, by dsimp only; omega⟩
/-- Thresholds run along with the values. -/
theorem thr_run {n p : Nat} {t : Int} : ∀ {ls : List (Int × Int)} {g : WF} {xs : List Int}, NetOk n ls → xs.length = n → (∀ i, i < n → g i p = decide (t ≤ gt xs i)) → ∀ i, i < n → runF ls g i p = decide (t ≤ gt (runV ls xs) i)
  | [], _, _, _, _, h => h
  | c :: cs, g, xs, hok, hl, h => by
    obtain ⟨a, b, rfl, ha, hb, hab⟩ := hok c (List.mem_cons_self ..)
    unfold runF runV
    simp only [Int.toNat_natCast]
    refine thr_run (fun d hd => hok d (List.mem_cons_of_mem _ hd)) (by rw [exch_length]; exact hl) fun i hi => ?_
    rw [gt_exch (by omega) (by omega) hab]
    unfold exF
    by_cases h1 : i = a
    · rw [if_pos h1, if_pos h1, h a ha, h b hb, ← Bool.decide_and]
      congr 1; simp only [eq_iff_iff]; omega
    · by_cases h2 : i = b
      · rw [if_neg h1, if_pos h2, if_neg h1, if_pos h2, h a ha, h b hb, ← Bool.decide_or]
        congr 1; simp only [eq_iff_iff]; omega
      · rw [if_neg h1, if_neg h2, if_neg h1, if_neg h2, h i hi]
/-- The pattern of a threshold. -/
def thrN (n : Nat) (xs : List Int) (t : Int) : Nat := colN n fun i => decide (t ≤ gt xs i)
theorem patF_thr {n : Nat} {xs : List Int} {t : Int} : ∀ i, i < n → patF n i (thrN n xs t) = decide (t ≤ gt xs i) := fun i hi => by
  unfold patF thrN
  rw [colN_bit, decide_eq_true hi, decide_eq_true (colN_lt n _)]; rfl
theorem colF_thr {n : Nat} {ls : List (Int × Int)} {xs : List Int} {t : Int} (hok : NetOk n ls) (hl : xs.length = n) {i : Nat} (hi : i < n) : colF ls n (thrN n xs t) i = decide (t ≤ gt (runV ls xs) i) :=
  thr_run hok hl patF_thr i hi
/-- No pattern fails: any values come out in order. -/
theorem zero_one {n : Nat} {ls : List (Int × Int)} {xs : List Int} (hok : NetOk n ls) (hl : xs.length = n) (hno : ∀ q, q < 2 ^ n → badC n (colF ls n q) = false) : SortedBy 1 (runV ls xs) := by
  intro i hi
  rw [runV_length, hl] at hi
  have h1 := (badC_false n _).1 (hno (thrN n xs (gt (runV ls xs) i)) (colN_lt n _)) i hi
  rw [colF_thr hok hl (by omega), colF_thr hok hl hi] at h1
  exact of_decide_eq_true (h1 (decide_eq_true (Int.le_refl _)))
/-- The values of a pattern. -/
def bitsV (n p : Nat) : List Int := (List.range n).map fun i => ((p / 2 ^ i % 2 : Nat) : Int)
theorem bitsV_length (n p : Nat) : (bitsV n p).length = n := by simp [bitsV]
theorem bitsV_succ (n p : Nat) : bitsV (n + 1) p = bitsV n p ++ [((p / 2 ^ n % 2 : Nat) : Int)] := by simp [bitsV, List.range_succ]
theorem gt_bitsV {n p i : Nat} (hi : i < n) : gt (bitsV n p) i = ((p / 2 ^ i % 2 : Nat) : Int) := by
  rw [gt_eq (by rw [bitsV_length]; exact hi)]; simp [bitsV]
theorem bit_thr {p i : Nat} : p.testBit i = decide ((1 : Int) ≤ ((p / 2 ^ i % 2 : Nat) : Int)) := by
  rw [Nat.testBit_eq_decide_div_mod_eq]
  congr 1; simp only [eq_iff_iff]; omega
theorem colF_bits {n p : Nat} {ls : List (Int × Int)} (hok : NetOk n ls) (hp : p < 2 ^ n) {i : Nat} (hi : i < n) : colF ls n p i = decide ((1 : Int) ≤ gt (runV ls (bitsV n p)) i) :=
  thr_run hok (bitsV_length n p) (fun i hi => by rw [gt_bitsV hi, ← bit_thr]; unfold patF; rw [decide_eq_true hi, decide_eq_true hp]; rfl) i hi
/-- What runs has values among those that came in. -/
theorem runV_range {lo hi : Int} : ∀ {ls : List (Int × Int)} {xs : List Int} {n : Nat}, NetOk n ls → xs.length = n → (∀ i, i < n → lo ≤ gt xs i ∧ gt xs i ≤ hi) → ∀ i, i < n → lo ≤ gt (runV ls xs) i ∧ gt (runV ls xs) i ≤ hi
  | [], _, _, _, _, h => h
  | c :: cs, xs, n, hok, hl, h => by
    obtain ⟨a, b, rfl, ha, hb, hab⟩ := hok c (List.mem_cons_self ..)
    unfold runV
    simp only [Int.toNat_natCast]
    refine runV_range (fun d hd => hok d (List.mem_cons_of_mem _ hd)) (by rw [exch_length]; exact hl) fun i hi => ?_
    have h1 := h a ha
    have h2 := h b hb
    have h3 := h i hi
    rw [gt_exch (by omega) (by omega) hab]
    split
    · omega
    · split <;> omega
theorem bitsV_range {n p : Nat} {ls : List (Int × Int)} (hok : NetOk n ls) : ∀ i, i < n → 0 ≤ gt (runV ls (bitsV n p)) i ∧ gt (runV ls (bitsV n p)) i ≤ 1 :=
  runV_range hok (bitsV_length n p) fun i hi => by rw [gt_bitsV hi]; omega
theorem gt_runV_bits {n p : Nat} {ls : List (Int × Int)} (hok : NetOk n ls) (hp : p < 2 ^ n) {i : Nat} (hi : i < n) : gt (runV ls (bitsV n p)) i = if colF ls n p i then 1 else 0 := by
  have h1 := colF_bits hok hp hi
  have h2 := bitsV_range (p := p) hok i hi
  rw [h1]
  split
  · rename_i h; have := of_decide_eq_true h; omega
  · rename_i h; have := of_decide_eq_false ((Bool.not_eq_true _).mp h); omega
/-- A pattern that fails comes out out of order, and the other way round. -/
theorem inOrd_bits {n p : Nat} {ls : List (Int × Int)} (hok : NetOk n ls) (hp : p < 2 ^ n) : inOrd (runV ls (bitsV n p)) = !badC n (colF ls n p) := by
  cases hb : badC n (colF ls n p)
  · simp only [Bool.not_false]
    rw [inOrd_iff]
    intro i hi
    rw [runV_length, bitsV_length] at hi
    have h1 := (badC_false n _).1 hb i hi
    rw [gt_runV_bits hok hp (by omega), gt_runV_bits hok hp hi]
    cases h2 : colF ls n p i
    · simp; split <;> omega
    · rw [h1 h2]; simp
  · obtain ⟨i, hi, h1, h2⟩ := (badC_iff n _).1 hb
    simp only [Bool.not_true]
    rw [Bool.eq_false_iff, ne_eq, inOrd_iff]
    intro h
    have := h i (by rw [runV_length, bitsV_length]; exact hi)
    rw [gt_runV_bits hok hp (by omega), gt_runV_bits hok hp hi, h1, h2] at this
    simp at this
/-- All patterns come out in order if all values do. -/
theorem no_bad {n : Nat} {ls : List (Int × Int)} (hok : NetOk n ls) (h : ∀ xs : List Int, xs.length = n → SortedBy 1 (runV ls xs)) : ∀ q, q < 2 ^ n → badC n (colF ls n q) = false := fun q hq => by
  have h1 := inOrd_bits hok hq
  rw [sorted_one (h _ (bitsV_length n q))] at h1
  cases hb : badC n (colF ls n q)
  · rfl
  · rw [hb] at h1; cases h1
theorem sorted_mono {xs : List Int} (h : SortedBy 1 xs) {a b : Nat} (hab : a ≤ b) (hb : b < xs.length) : gt xs a ≤ gt xs b := sorted_le h hab hb (by simp [Nat.mod_one])
/-- Sorted values stay as they are. -/
theorem runV_sorted {n : Nat} : ∀ {ls : List (Int × Int)} {xs : List Int}, NetLt n ls → xs.length = n → SortedBy 1 xs → runV ls xs = xs
  | [], _, _, _, _ => rfl
  | c :: cs, xs, hok, hl, h => by
    obtain ⟨a, b, rfl, hab, hb⟩ := hok c (List.mem_cons_self ..)
    unfold runV
    simp only [Int.toNat_natCast]
    have e : exch xs a b = xs := by
      unfold exch
      rw [if_neg]
      have := sorted_mono h (Nat.le_of_lt hab) (by omega)
      omega
    rw [e]
    exact runV_sorted hok.cons hl h
theorem before_ok {n : Nat} {ls ms : List (Int × Int)} (h1 : NetLt n ls) (h2 : NetLt n ms) (hno : ∀ q, q < 2 ^ n → badC n (colF ls n q) = false) : ∀ q, q < 2 ^ n → badC n (colF (ms ++ ls) n q) = false :=
  no_bad (h2.append h1).ok fun xs hl => by rw [runV_append]; exact zero_one h1.ok (by rw [runV_length]; exact hl) hno
theorem after_ok {n : Nat} {ls ms : List (Int × Int)} (h1 : NetLt n ls) (h2 : NetLt n ms) (hno : ∀ q, q < 2 ^ n → badC n (colF ls n q) = false) : ∀ q, q < 2 ^ n → badC n (colF (ls ++ ms) n q) = false :=
  no_bad (h1.append h2).ok fun xs hl => by
    rw [runV_append]
    have hs := zero_one (xs := xs) h1.ok hl hno
    rw [runV_sorted h2 (by rw [runV_length]; exact hl) hs]; exact hs
/-- What Fails says, decided. -/
theorem fails_no {n p : Nat} {col : Nat → Nat → Bool} {b : Bool} (h : failsR n col p b) (hno : ∀ q, q < 2 ^ n → badC n (col q) = false) : b = false := by
  rcases h with ⟨rfl, h1, h2, _⟩ | ⟨h, _⟩
  · rw [hno p h1] at h2; cases h2
  · exact h
theorem no_fails {n p : Nat} {col : Nat → Nat → Bool} (h : failsR n col p false) : ∀ q, q < 2 ^ n → badC n (col q) = false := by
  rcases h with ⟨h, _⟩ | ⟨_, _, h⟩
  · cases h
  · exact h
theorem yes_fails {n p : Nat} {col : Nat → Nat → Bool} (h : failsR n col p true) : p < 2 ^ n ∧ badC n (col p) = true := by
  rcases h with ⟨_, h1, h2, _⟩ | ⟨h, _⟩
  · exact ⟨h1, h2⟩
  · cases h
/-- Idle comparators: nothing turns at them. -/
def idleB (n : Nat) (ls : List (Int × Int)) (i : Nat) : Bool := (List.range 1024).all fun p => !(runF (ls.take i) (patF n) (gt ls i).1.toNat p && !runF (ls.take i) (patF n) (gt ls i).2.toNat p)
theorem idleB_iff {n : Nat} {ls : List (Int × Int)} {i : Nat} : idleB n ls i = true ↔ ∀ p, p < 1024 → runF (ls.take i) (patF n) (gt ls i).1.toNat p = true → runF (ls.take i) (patF n) (gt ls i).2.toNat p = true := by
  unfold idleB
  rw [List.all_eq_true]
  constructor
  · intro h p hp h1
    have := h p (List.mem_range.2 hp)
    rw [h1] at this
    simpa using this
  · intro h p hp
    have := h p (List.mem_range.1 hp)
    cases h1 : runF (ls.take i) (patF n) (gt ls i).1.toNat p
    · simp
    · simp [this h1]
def idleF (n : Nat) (ls : List (Int × Int)) (k : Nat) : List Int := ((List.range k).filter (idleB n ls)).map fun i : Nat => (i : Int)
theorem idleF_succ (n : Nat) (ls : List (Int × Int)) (k : Nat) : idleF n ls (k + 1) = idleF n ls k ++ if idleB n ls k then [(k : Int)] else [] := by
  unfold idleF
  have e : List.filter (idleB n ls) [k] = if idleB n ls k then [k] else [] := by simp only [List.filter_cons, List.filter_nil]
  rw [List.range_succ, List.filter_append, List.map_append, e]
  generalize idleB n ls k = c
  cases c <;> rfl
theorem idleF_length (n : Nat) (ls : List (Int × Int)) (k : Nat) : (idleF n ls k).length ≤ k := by
  unfold idleF
  rw [List.length_map]
  exact Nat.le_trans (List.length_filter_le ..) (by simp)
/-- What is left when the idle comparators among the first 'k' are left out. -/
def restF (n : Nat) (ls : List (Int × Int)) : Nat → List (Int × Int)
  | 0 => []
  | k + 1 => restF n ls k ++ if idleB n ls k then [] else [gt ls k]
theorem restF_length (n : Nat) (ls : List (Int × Int)) : ∀ k, (restF n ls k).length ≤ k
  | 0 => Nat.le_refl _
  | k + 1 => by unfold restF; rw [List.length_append]; have := restF_length n ls k; split <;> simp <;> omega
theorem restF_mem {n : Nat} {ls : List (Int × Int)} : ∀ {k : Nat}, k ≤ ls.length → ∀ c ∈ restF n ls k, c ∈ ls
  | 0, _ => fun c hc => by cases hc
  | k + 1, hk => fun c hc => by
    unfold restF at hc
    rw [List.mem_append] at hc
    rcases hc with h | h
    · exact restF_mem (by omega) c h
    · split at h
      · cases h
      · rw [List.mem_singleton] at h; rw [h]; exact gt_mem (by omega)
theorem exF_congr {f g : WF} {a b p : Nat} (h : ∀ i, f i p = g i p) : ∀ i, exF f a b i p = exF g a b i p := fun i => by
  unfold exF; rw [h a, h b, h i]
theorem exF_idle {f : WF} {a b p : Nat} (h : f a p = true → f b p = true) : ∀ i, exF f a b i p = f i p := fun i => by
  unfold exF
  by_cases h1 : i = a
  · subst h1; rw [if_pos rfl]
    cases h2 : f i p
    · rfl
    · rw [h h2]; rfl
  · by_cases h2 : i = b
    · subst h2; rw [if_neg h1, if_pos rfl]
      cases h3 : f a p
      · rfl
      · rw [h h3]; rfl
    · rw [if_neg h1, if_neg h2]
theorem rest_run {n p : Nat} {ls : List (Int × Int)} (hp : p < 1024) : ∀ {k : Nat}, k ≤ ls.length → ∀ i, runF (restF n ls k) (patF n) i p = runF (ls.take k) (patF n) i p
  | 0, _ => fun i => by rw [List.take_zero]; rfl
  | k + 1, hk => fun i => by
    have ih := rest_run (n := n) hp (ls := ls) (k := k) (by omega)
    rw [take_snoc (by omega), runF_append]
    show runF (restF n ls k ++ if idleB n ls k then [] else [gt ls k]) (patF n) i p = exF (runF (ls.take k) (patF n)) _ _ i p
    rw [runF_append]
    cases h : idleB n ls k
    · simp only [Bool.false_eq_true, if_false]
      exact exF_congr ih i
    · simp only [if_true]
      rw [exF_idle (idleB_iff.1 h p hp)]
      exact ih i
theorem badC_congr {n : Nat} {f g : Nat → Bool} (h : ∀ i, f i = g i) : badC n f = badC n g := by
  have : f = g := funext h
  rw [this]
theorem rest_ok {n : Nat} {ls : List (Int × Int)} (hn : n ≤ 10) (hno : ∀ q, q < 2 ^ n → badC n (colF ls n q) = false) : ∀ q, q < 2 ^ n → badC n (colF (restF n ls ls.length) n q) = false := fun q hq => by
  have h1 : (2 : Nat) ^ n ≤ 2 ^ 10 := Nat.pow_le_pow_right (by omega) hn
  rw [← hno q hq]
  refine badC_congr fun i => ?_
  unfold colF
  rw [rest_run (by omega) (Nat.le_refl _), List.take_length]
end Go.X
