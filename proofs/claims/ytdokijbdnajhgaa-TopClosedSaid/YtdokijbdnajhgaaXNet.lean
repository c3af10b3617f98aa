/-
  Networks of comparators, plain: what the wires have in each pattern.
-/
import Derived.Test.YtdokijbdnajhgaaXPlain
import Derived.Test.YtdokijbdnajhgaaXCells
set_option linter.unusedSimpArgs false
set_option linter.unusedVariables false
namespace Go.X

theorem testBit_set {a p q : Nat} (hp : p < 64) : (a ||| 1 * 2 ^ p).testBit q = (a.testBit q || decide (q = p)) := by
  rw [Nat.testBit_or, Nat.one_mul, Nat.testBit_two_pow]
  by_cases h : p = q
  · subst h; simp
  · simp [h, Ne.symm h]
theorem or_lt64 {a b : Nat} (ha : a < 2 ^ 64) (hb : b < 2 ^ 64) : a ||| b < 2 ^ 64 := Nat.or_lt_two_pow ha hb
theorem and_lt64 {a b : Nat} (ha : a < 2 ^ 64) : a &&& b < 2 ^ 64 := Nat.lt_of_le_of_lt Nat.and_le_left ha
theorem bit_and_one (a i : Nat) : (a / 2 ^ i &&& 1) = if a.testBit i then 1 else 0 := by
  rw [Nat.and_one_is_mod, Nat.testBit_eq_decide_div_mod_eq]
  have := Nat.mod_two_eq_zero_or_one (a / 2 ^ i)
  rcases this with h | h <;> simp [h]

/-- Wire, pattern: whether it has a 1. -/
abbrev WF := Nat → Nat → Bool
def exF (f : WF) (i j : Nat) : WF := fun k p => if k = i then f i p && f j p else if k = j then f i p || f j p else f k p
def patF (n : Nat) : WF := fun i p => decide (i < n) && decide (p < 2 ^ n) && p.testBit i
def runF : List (Int × Int) → WF → WF
  | [], f => f
  | c :: cs, f => runF cs (exF f c.1.toNat c.2.toNat)
theorem runF_append (xs ys : List (Int × Int)) (f : WF) : runF (xs ++ ys) f = runF ys (runF xs f) := by
  induction xs generalizing f with
  | nil => rfl
  | cons x xs ih => exact ih _
/-- The words of the wires. -/
def Wi (f : WF) (ws : List Nat) : Prop := ws.length = 160 ∧ (∀ k, k < 160 → gt ws k < 2 ^ 64) ∧ ∀ i, i < 10 → ∀ p, p < 1024 → (gt ws (i * 16 + p / 64)).testBit (p % 64) = f i p
theorem Wi.congr {f g : WF} {ws : List Nat} (h : Wi f ws) (he : ∀ i, i < 10 → ∀ p, p < 1024 → f i p = g i p) : Wi g ws :=
  ⟨h.1, h.2.1, fun i hi p hp => (h.2.2 i hi p hp).trans (he i hi p hp)⟩
theorem Wi_zero : Wi (fun _ _ => false) (List.replicate 160 0) :=
  ⟨by simp, fun k hk => by rw [gt_replicate hk]; decide, fun i hi p hp => by rw [gt_replicate (by omega)]; exact Nat.zero_testBit _⟩
theorem Wi_set {f : WF} {ws : List Nat} {i p : Nat} (h : Wi f ws) (hi : i < 10) (hp : p < 1024) :
    Wi (fun k q => if k = i ∧ q = p then true else f k q) (ws.set (i * 16 + p / 64) (gt ws (i * 16 + p / 64) ||| 1 * 2 ^ (p % 64))) := by
  obtain ⟨h1, h2, h3⟩ := h
  have hm : p % 64 < 64 := Nat.mod_lt _ (by omega)
  refine ⟨by simpa using h1, fun k hk => ?_, fun k hk q hq => ?_⟩
  · rw [gt_set (by omega)]
    split
    · exact or_lt64 (h2 _ (by omega)) (by rw [Nat.one_mul]; exact Nat.pow_lt_pow_right (by omega) hm)
    · exact h2 k hk
  · rw [gt_set (by omega)]
    by_cases c : k * 16 + q / 64 = i * 16 + p / 64
    · have : k = i ∧ q / 64 = p / 64 := by omega
      obtain ⟨rfl, hq2⟩ := this
      rw [if_pos c, testBit_set hm]
      have := h3 k hk q hq
      rw [hq2] at this
      rw [this]
      by_cases e : q = p
      · subst e; simp
      · have : q % 64 ≠ p % 64 := by omega
        simp [e, this]
    · rw [if_neg c, h3 k hk q hq]
      have : ¬ (k = i ∧ q = p) := by rintro ⟨rfl, rfl⟩; exact c rfl
      simp only [if_neg this]
/-- Some words of two wires exchanged. -/
def exW (ws : List Nat) (i j k : Nat) (us : List Nat) : Prop :=
  us.length = 160 ∧ ∀ q, q < 160 → gt us q = if q / 16 = i ∧ q % 16 < k then gt ws q &&& gt ws (j * 16 + q % 16) else if q / 16 = j ∧ q % 16 < k then gt ws (i * 16 + q % 16) ||| gt ws q else gt ws q
theorem exW_zero {ws : List Nat} {i j : Nat} (h : ws.length = 160) : exW ws i j 0 ws := ⟨h, fun q hq => by simp⟩
theorem exW_step {ws us : List Nat} {i j k : Nat} (hij : i ≠ j) (hi : i < 10) (hj : j < 10) (hk : k < 16) (h : exW ws i j k us) :
    exW ws i j (k + 1) ((us.set (i * 16 + k) (gt ws (i * 16 + k) &&& gt us (j * 16 + k))).set (j * 16 + k) (gt ws (i * 16 + k) ||| gt us (j * 16 + k))) := by
  obtain ⟨h1, h2⟩ := h
  have ej : gt us (j * 16 + k) = gt ws (j * 16 + k) := by
    rw [h2 _ (by omega), if_neg (by omega), if_neg (by omega)]
  refine ⟨by simpa using h1, fun q hq => ?_⟩
  rw [ej, gt_set (by simp; omega), gt_set (by omega)]
  by_cases c1 : q = j * 16 + k
  · subst c1
    rw [if_pos rfl, if_neg (by omega), if_pos (by omega)]
    congr 2; omega
  · rw [if_neg c1]
    by_cases c2 : q = i * 16 + k
    · subst c2
      rw [if_pos rfl, if_pos (by omega)]
      congr 2; omega
    · rw [if_neg c2, h2 q hq]
      have e1 : (q / 16 = i ∧ q % 16 < k + 1) ↔ (q / 16 = i ∧ q % 16 < k) := by omega
      have e2 : (q / 16 = j ∧ q % 16 < k + 1) ↔ (q / 16 = j ∧ q % 16 < k) := by omega
      simp only [e1, e2]
theorem Wi_ex {f : WF} {ws us : List Nat} {i j : Nat} (hij : i ≠ j) (hi : i < 10) (hj : j < 10) (h : Wi f ws) (he : exW ws i j 16 us) : Wi (exF f i j) us := by
  obtain ⟨h1, h2, h3⟩ := h
  obtain ⟨e1, e2⟩ := he
  refine ⟨e1, fun k hk => ?_, fun k hk p hp => ?_⟩
  · rw [e2 k hk]
    split
    · exact and_lt64 (h2 _ hk)
    · split
      · exact or_lt64 (h2 _ (by omega)) (h2 _ hk)
      · exact h2 _ hk
  · have hp64 : p / 64 < 16 := by omega
    have hd : (k * 16 + p / 64) / 16 = k := by omega
    have hm : (k * 16 + p / 64) % 16 = p / 64 := by omega
    rw [e2 _ (by omega), hd, hm]
    unfold exF
    by_cases c1 : k = i
    · subst c1
      rw [if_pos ⟨rfl, hp64⟩, if_pos rfl, Nat.testBit_and, h3 k hi p hp, h3 j hj p hp]
    · rw [if_neg (by omega), if_neg c1]
      by_cases c2 : k = j
      · subst c2
        rw [if_pos ⟨rfl, hp64⟩, if_pos rfl, Nat.testBit_or, h3 i hi p hp, h3 k hk p hp]
      · rw [if_neg (by omega), if_neg c2, h3 k hk p hp]
/-- Whether a word has changed. -/
theorem andNot_zero {a b : Nat} : andNot a b = 0 ↔ ∀ q, a.testBit q = true → b.testBit q = true := by
  constructor
  · intro h q ha
    have := congrArg (fun x => x.testBit q) h
    simp only [testBit_andNot, Nat.zero_testBit] at this
    cases hb : b.testBit q
    · simp [ha, hb] at this
    · rfl
  · intro h
    apply Nat.eq_of_testBit_eq
    intro q
    rw [testBit_andNot, Nat.zero_testBit]
    cases ha : a.testBit q
    · simp
    · simp [h q ha]
theorem andNot_lt {a b : Nat} (ha : a < 2 ^ 64) : andNot a b < 2 ^ 64 := by
  apply Nat.lt_pow_two_of_testBit
  intro i hi
  rw [testBit_andNot, Nat.testBit_lt_two_pow (Nat.lt_of_lt_of_le ha (Nat.pow_le_pow_right (by omega) hi))]
  rfl
/-- Some word of wire 'i' has a bit that wire 'j' lacks. -/
def exC (ws : List Nat) (i j k : Nat) : Bool := (List.range k).any fun m => decide (andNot (gt ws (i * 16 + m)) (gt ws (j * 16 + m)) ≠ 0)
theorem exC_succ (ws : List Nat) (i j k : Nat) : exC ws i j (k + 1) = (exC ws i j k || decide (andNot (gt ws (i * 16 + k)) (gt ws (j * 16 + k)) ≠ 0)) := by
  simp [exC, List.range_succ]
theorem exC_iff {f : WF} {ws : List Nat} {i j : Nat} (h : Wi f ws) (hi : i < 10) (hj : j < 10) : exC ws i j 16 = true ↔ ∃ p, p < 1024 ∧ f i p = true ∧ f j p = false := by
  unfold exC
  rw [List.any_eq_true]
  constructor
  · rintro ⟨m, hm, hne⟩
    have hm := List.mem_range.1 hm
    have hne : andNot (gt ws (i * 16 + m)) (gt ws (j * 16 + m)) ≠ 0 := by simpa using hne
    rw [ne_eq, andNot_zero, Classical.not_forall] at hne
    obtain ⟨q, hq⟩ := hne
    rw [Classical.not_imp] at hq
    have hq64 : q < 64 := by
      refine Nat.lt_of_not_le fun hle => ?_
      have := Nat.testBit_lt_two_pow (Nat.lt_of_lt_of_le (h.2.1 (i * 16 + m) (by omega)) (Nat.pow_le_pow_right (by omega : 0 < 2) hle))
      rw [this] at hq; exact absurd hq.1 (by simp)
    refine ⟨m * 64 + q, by omega, ?_, ?_⟩
    · have := h.2.2 i hi (m * 64 + q) (by omega)
      rw [show (m * 64 + q) / 64 = m from by omega, show (m * 64 + q) % 64 = q from by omega] at this
      rw [← this]; exact hq.1
    · have := h.2.2 j hj (m * 64 + q) (by omega)
      rw [show (m * 64 + q) / 64 = m from by omega, show (m * 64 + q) % 64 = q from by omega] at this
      rw [← this]; simpa using hq.2
  · rintro ⟨p, hp, h1, h2⟩
    refine ⟨p / 64, List.mem_range.2 (by omega), ?_⟩
    simp only [ne_eq, decide_eq_true_eq]
    rw [andNot_zero]
    intro hall
    have e1 := h.2.2 i hi p hp
    have e2 := h.2.2 j hj p hp
    have := hall (p % 64) (e1.trans h1)
    rw [e2, h2] at this
    cases this
theorem wc_part {ws : List Nat} {i k : Nat} (hk : k < 16) (hl : i * 16 + 16 ≤ ws.length) : (wc ((ws.drop (i * 16)).take 16))[k]? = some (.int .u64 ((gt ws (i * 16 + k) : Nat) : Int)) := by
  rw [wc_get (by simp; omega)]
  congr 3
  simp [gt, hk, List.getElem?_take, List.getElem?_drop]
theorem wc_partc {ws : List Nat} {i : Nat} : ∀ (j : Nat) (u : Value), (((ws.drop (i * 16)).take 16).map (fun x : Nat => Value.int .u64 (x : Int)))[j]? = some u → (wc ws)[i * 16 + j]? = some u := by
  intro j u hu
  simp only [List.getElem?_map, List.getElem?_take, List.getElem?_drop, Option.map_eq_some_iff] at hu
  obtain ⟨a, ha, rfl⟩ := hu
  split at ha
  · simp [wc, cof, ha]
  · cases ha

/-- The number with the bits 'g', below 'n'. -/
def colN : Nat → (Nat → Bool) → Nat
  | 0, _ => 0
  | n + 1, g => colN n g + (if g n then 1 else 0) * 2 ^ n
theorem colN_lt (n : Nat) (g : Nat → Bool) : colN n g < 2 ^ n := by
  induction n with
  | zero => simp [colN]
  | succ n ih =>
    simp only [colN]
    rw [Nat.pow_succ]
    split <;> omega
theorem colN_or {n : Nat} {g : Nat → Bool} {b : Nat} : colN n g ||| b * 2 ^ n = colN n g + b * 2 ^ n := by
  rw [Nat.or_comm, Nat.mul_comm, ← Nat.two_pow_add_eq_or_of_lt (colN_lt n g)]
  omega
theorem colN_bit (n : Nat) (g : Nat → Bool) (i : Nat) : (colN n g).testBit i = (decide (i < n) && g i) := by
  induction n with
  | zero => simp [colN]
  | succ n ih =>
    have : colN (n + 1) g = colN n g ||| (if g n then 1 else 0) * 2 ^ n := colN_or.symm
    rw [this, Nat.testBit_or, ih]
    by_cases c : i = n
    · subst c
      cases hg : g i <;> simp [hg, Nat.testBit_two_pow]
    · have hne : ((if g n then 1 else 0) * 2 ^ n).testBit i = false := by
        split
        · rw [Nat.one_mul, Nat.testBit_two_pow]; simp; omega
        · simp
      rw [hne, Bool.or_false]
      congr 1
      simp; omega
theorem colN_congr {n : Nat} {f g : Nat → Bool} (h : ∀ i, i < n → f i = g i) : colN n f = colN n g := by
  apply Nat.eq_of_testBit_eq
  intro i
  rw [colN_bit, colN_bit]
  by_cases c : i < n
  · rw [h i c]
  · simp [c]
theorem colN_le {n m : Nat} (g : Nat → Bool) (h : n ≤ m) : colN n g < 2 ^ m := Nat.lt_of_lt_of_le (colN_lt n g) (Nat.pow_le_pow_right (by omega) h)
/-- A pattern that comes out out of order. -/
def badC (n : Nat) (g : Nat → Bool) : Bool := (List.range (n - 1)).any fun i => g i && !g (i + 1)
theorem badC_iff (n : Nat) (g : Nat → Bool) : badC n g = true ↔ ∃ i, i + 1 < n ∧ g i = true ∧ g (i + 1) = false := by
  unfold badC
  rw [List.any_eq_true]
  constructor
  · rintro ⟨i, hi, h⟩
    have := List.mem_range.1 hi
    exact ⟨i, by omega, by simpa using h⟩
  · rintro ⟨i, hi, h⟩
    exact ⟨i, List.mem_range.2 (by omega), by simpa using h⟩
theorem badC_false (n : Nat) (g : Nat → Bool) : badC n g = false ↔ ∀ i, i + 1 < n → g i = true → g (i + 1) = true := by
  rw [← Bool.not_eq_true, badC_iff]
  constructor
  · intro h i hi hg
    cases e : g (i + 1)
    · exact absurd ⟨i, hi, hg, e⟩ h
    · rfl
  · rintro h ⟨i, hi, hg, e⟩
    rw [h i hi hg] at e; cases e
/-- The least pattern that fails. -/
def failsR (n : Nat) (col : Nat → Nat → Bool) (p : Nat) (b : Bool) : Prop :=
  (b = true ∧ p < 2 ^ n ∧ badC n (col p) = true ∧ ∀ q, q < p → badC n (col q) = false) ∨ (b = false ∧ p = 0 ∧ ∀ q, q < 2 ^ n → badC n (col q) = false)
/-- What comes of pattern 'p'. -/
def colF (ls : List (Int × Int)) (n : Nat) (p i : Nat) : Bool := runF ls (patF n) i p

/-- What is wrong with a network. -/
def validC (n : Int) (c : Int × Int) : Bool := decide (0 ≤ c.1 ∧ c.1 < c.2 ∧ c.2 < n)
def validL (n : Int) (c : Int × Int) : Bool := decide (0 ≤ min c.1 c.2 ∧ max c.1 c.2 < n ∧ c.1 ≠ c.2)
def chkNet (V : Int → Int × Int → Bool) (n : Int) (ls : List (Int × Int)) : Int := if n < 1 ∨ 10 < n then 1 else if 200 < ls.length then 2 else if ls.all (V n) then 0 else 100
theorem chkNet_ok {V : Int → Int × Int → Bool} {n : Int} {ls : List (Int × Int)} (h : chkNet V n ls = 0) : 1 ≤ n ∧ n ≤ 10 ∧ ls.length ≤ 200 ∧ ∀ i, i < ls.length → V n (gt ls i) = true := by
  unfold chkNet at h
  split at h
  · cases h
  · split at h
    · cases h
    · split at h
      · rename_i h3
        rw [List.all_eq_true] at h3
        exact ⟨by omega, by omega, by omega, fun i hi => h3 _ (gt_mem hi)⟩
      · cases h
theorem chkNet_bad {V : Int → Int × Int → Bool} {n : Int} {ls : List (Int × Int)} (h1 : ¬ n < 1) (h2 : ¬ 10 < n) (h3 : ¬ (200 : Int) < (ls.length : Int)) {i : Nat} (hi : i < ls.length) (hv : V n (gt ls i) = false) : chkNet V n ls = 100 := by
  unfold chkNet
  rw [if_neg (by omega), if_neg (by omega), if_neg]
  intro h
  rw [List.all_eq_true] at h
  rw [h _ (gt_mem hi)] at hv; cases hv
theorem chkNet_all {V : Int → Int × Int → Bool} {n : Int} {ls : List (Int × Int)} (h1 : ¬ n < 1) (h2 : ¬ 10 < n) (h3 : ¬ (200 : Int) < (ls.length : Int)) (hv : ∀ i, i < ls.length → V n (gt ls i) = true) : chkNet V n ls = 0 := by
  unfold chkNet
  rw [if_neg (by omega), if_neg (by omega), if_pos]
  rw [List.all_eq_true]
  intro x hx
  obtain ⟨i, hi, rfl⟩ := mem_gt hx
  exact hv i hi
theorem pat_step {n p i : Nat} (hi : i < n) (hb : p.testBit i = true) (k q : Nat) : (if k = i ∧ q = p then true else decide (k < n) && (decide (q < p) || (decide (q = p) && decide (k < i))) && q.testBit k) = (decide (k < n) && (decide (q < p) || (decide (q = p) && decide (k < i + 1))) && q.testBit k) := by
  by_cases c : k = i ∧ q = p
  · obtain ⟨rfl, rfl⟩ := c
    simp [hi, hb]
  · rw [if_neg c]
    by_cases c1 : q = p
    · subst c1
      have : k ≠ i := fun e => c ⟨e, rfl⟩
      rw [show decide (k < i + 1) = decide (k < i) from by congr 1; simp; omega]
    · simp [c1]
theorem pat_skip {n p i : Nat} (hb : p.testBit i = false) (k q : Nat) : (decide (k < n) && (decide (q < p) || (decide (q = p) && decide (k < i))) && q.testBit k) = (decide (k < n) && (decide (q < p) || (decide (q = p) && decide (k < i + 1))) && q.testBit k) := by
  by_cases c1 : q = p
  · subst c1
    by_cases c : k = i
    · subst c; simp [hb]
    · rw [show decide (k < i + 1) = decide (k < i) from by congr 1; simp; omega]
  · simp [c1]
theorem pat_all {n p i : Nat} (hi : n ≤ i) (k q : Nat) : (decide (k < n) && (decide (q < p) || (decide (q = p) && decide (k < i))) && q.testBit k) = (decide (k < n) && decide (q < p + 1) && q.testBit k) := by
  by_cases c : k < n
  · have : (decide (q < p) || (decide (q = p) && decide (k < i))) = decide (q < p + 1) := by
      rw [show decide (k < i) = true from decide_eq_true (by omega), Bool.and_true, ← Bool.decide_or]
      congr 1; simp; omega
    rw [this]
  · simp [c]
theorem exW_lt {f : WF} {ws us : List Nat} {i j k : Nat} (h : Wi f ws) (hi : i < 10) (hj : j < 10) (he : exW ws i j k us) : ∀ q, q < 160 → gt us q < 2 ^ 64 := by
  intro q hq
  have h2 := h.2.1
  rw [he.2 q hq]
  split
  · exact and_lt64 (h2 _ hq)
  · split
    · exact or_lt64 (h2 _ (by omega)) (h2 _ hq)
    · exact h2 _ hq
theorem exW_j {ws us : List Nat} {i j k : Nat} (hij : i ≠ j) (hj : j < 10) (hk : k < 16) (he : exW ws i j k us) : gt us (j * 16 + k) = gt ws (j * 16 + k) := by
  rw [he.2 _ (by omega), if_neg (by omega), if_neg (by omega)]
theorem pow10 {n : Nat} (h : n ≤ 10) : 2 ^ n ≤ 1024 := Nat.pow_le_pow_right (by omega : 0 < 2) h
theorem pow64 {n : Nat} (h : n < 64) : 2 ^ n < 18446744073709551616 := Nat.pow_lt_pow_right (by omega : 1 < 2) h
theorem runF_take {ls : List (Int × Int)} {i : Nat} (hi : i < ls.length) (f : WF) : runF (ls.take (i + 1)) f = exF (runF (ls.take i) f) (gt ls i).1.toNat (gt ls i).2.toNat := by
  rw [List.take_succ_eq_append_getElem hi, runF_append, gt_eq hi]
  rfl
theorem validC_nat {n : Nat} {c : Int × Int} (h : validC (n : Int) c = true) : c.1 = ((c.1.toNat : Nat) : Int) ∧ c.2 = ((c.2.toNat : Nat) : Int) ∧ c.1.toNat < c.2.toNat ∧ c.2.toNat < n := by
  have := of_decide_eq_true h
  omega
theorem exF_pat (f : WF) (i j : Nat) {p : Nat} (h : ∀ k, f k p = false) : ∀ k, exF f i j k p = false := by
  intro k; unfold exF; simp [h]
theorem ChgB.refl (bn : Nat) (h : Heap) : ChgB bn h h := ⟨rfl, fun _ _ => rfl⟩
theorem ChgB.trans {bn : Nat} {a b c : Heap} (h : ChgB bn a b) (k : ChgB bn b c) : ChgB bn a c := ⟨k.size.trans h.size, fun i hi => (k.block i hi).trans (h.block i hi)⟩
end Go.X
