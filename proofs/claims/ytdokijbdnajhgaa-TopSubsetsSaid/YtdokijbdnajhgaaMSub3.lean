/-
  Texts in one: XNet, XLoose, XRunV, XGaps, XGale, XZero, XMake, XOut, XSet, OF, XWith, OI, OJ, OG, XAnti, XMu, XIns, OV.
-/
import Derived.Test.YtdokijbdnajhgaaMSub2
import Derived.Lib.SlicesCompact
set_option linter.unusedSimpArgs false
set_option linter.unusedVariables false
namespace Go.X

theorem testBit_set {a p q : Nat} (hp : p < 64) : (a ||| 1 * 2 ^ p).testBit q = (a.testBit q || decide (q = p)) := by
  rw [Nat.testBit_or, Nat.one_mul, Nat.testBit_two_pow]
  by_cases h : p = q
  · subst h; simp
  · simp [h, Ne.symm h]
theorem or_lt64 {a b : Nat} (ha : a < 2 ^ 64) (hb : b < 2 ^ 64) : a ||| b < 2 ^ 64 := Nat.or_lt_two_pow ha hb
theorem and_lt64 {a b : Nat} (ha : a < 2 ^ 64) : a &&& b < 2 ^ 64 := Nat.lt_of_le_of_lt Nat.and_le_left ha
theorem bit_and_one (a i : Nat) : (a / 2 ^ i &&& 1) = if a.testBit i then 1 else 0 := by
  rw [Nat.and_one_is_mod, Nat.testBit_eq_decide_div_mod_eq]
  have := Nat.mod_two_eq_zero_or_one (a / 2 ^ i)
  rcases this with h | h <;> simp [h]

/-- Wire, pattern: whether it has a 1. -/
abbrev WF := Nat → Nat → Bool
def exF (f : WF) (i j : Nat) : WF := fun k p => if k = i then f i p && f j p else if k = j then f i p || f j p else f k p
def patF (n : Nat) : WF := fun i p => decide (i < n) && decide (p < 2 ^ n) && p.testBit i
def runF : List (Int × Int) → WF → WF
  | [], f => f
  | c :: cs, f => runF cs (exF f c.1.toNat c.2.toNat)
theorem runF_append (xs ys : List (Int × Int)) (f : WF) : runF (xs ++ ys) f = runF ys (runF xs f) := by
  induction xs generalizing f with
  | nil => rfl
  | cons x xs ih => exact ih _
/-- The words of the wires. -/
def Wi (f : WF) (ws : List Nat) : Prop := ws.length = 160 ∧ (∀ k, k < 160 → gt ws k < 2 ^ 64) ∧ ∀ i, i < 10 → ∀ p, p < 1024 → (gt ws (i * 16 + p / 64)).testBit (p % 64) = f i p
theorem Wi.congr {f g : WF} {ws : List Nat} (h : Wi f ws) (he : ∀ i, i < 10 → ∀ p, p < 1024 → f i p = g i p) : Wi g ws :=
  ⟨h.1, h.2.1, fun i hi p hp => (h.2.2 i hi p hp).trans (he i hi p hp)⟩
theorem Wi_zero : Wi (fun _ _ => false) (List.replicate 160 0) :=
  ⟨by simp, fun k hk => by rw [gt_replicate hk]; decide, fun i hi p hp => by rw [gt_replicate (by omega)]; exact Nat.zero_testBit _⟩
theorem Wi_set {f : WF} {ws : List Nat} {i p : Nat} (h : Wi f ws) (hi : i < 10) (hp : p < 1024) :
    Wi (fun k q => if k = i ∧ q = p then true else f k q) (ws.set (i * 16 + p / 64) (gt ws (i * 16 + p / 64) ||| 1 * 2 ^ (p % 64))) := by
  obtain ⟨h1, h2, h3⟩ := h
  have hm : p % 64 < 64 := Nat.mod_lt _ (by omega)
  refine ⟨by simpa using h1, fun k hk => ?_, fun k hk q hq => ?_⟩
  · rw [gt_set (by omega)]
    split
    · exact or_lt64 (h2 _ (by omega)) (by rw [Nat.one_mul]; exact Nat.pow_lt_pow_right (by omega) hm)
    · exact h2 k hk
  · rw [gt_set (by omega)]
    by_cases c : k * 16 + q / 64 = i * 16 + p / 64
    · have : k = i ∧ q / 64 = p / 64 := by omega
      obtain ⟨rfl, hq2⟩ := this
      rw [if_pos c, testBit_set hm]
      have := h3 k hk q hq
      rw [hq2] at this
      rw [this]
      by_cases e : q = p
      · subst e; simp
      · have : q % 64 ≠ p % 64 := by omega
        simp [e, this]
    · rw [if_neg c, h3 k hk q hq]
      have : ¬ (k = i ∧ q = p) := by rintro ⟨rfl, rfl⟩; exact c rfl
      simp only [if_neg this]
/-- Some words of two wires exchanged. -/
def exW (ws : List Nat) (i j k : Nat) (us : List Nat) : Prop :=
  us.length = 160 ∧ ∀ q, q < 160 → gt us q = if q / 16 = i ∧ q % 16 < k then gt ws q &&& gt ws (j * 16 + q % 16) else if q / 16 = j ∧ q % 16 < k then gt ws (i * 16 + q % 16) ||| gt ws q else gt ws q
theorem exW_zero {ws : List Nat} {i j : Nat} (h : ws.length = 160) : exW ws i j 0 ws := ⟨h, fun q hq => by simp⟩
theorem exW_step {ws us : List Nat} {i j k : Nat} (hij : i ≠ j) (hi : i < 10) (hj : j < 10) (hk : k < 16) (h : exW ws i j k us) :
    exW ws i j (k + 1) ((us.set (i * 16 + k) (gt ws (i * 16 + k) &&& gt us (j * 16 + k))).set (j * 16 + k) (gt ws (i * 16 + k) ||| gt us (j * 16 + k))) := by
  obtain ⟨h1, h2⟩ := h
  have ej : gt us (j * 16 + k) = gt ws (j * 16 + k) := by
    rw [h2 _ (by omega), if_neg (by omega), if_neg (by omega)]
  refine ⟨by simpa using h1, fun q hq => ?_⟩
  rw [ej, gt_set (by simp; omega), gt_set (by omega)]
  by_cases c1 : q = j * 16 + k
  · subst c1
    rw [if_pos rfl, if_neg (by omega), if_pos (by omega)]
    congr 2; omega
  · rw [if_neg c1]
    by_cases c2 : q = i * 16 + k
    · subst c2
      rw [if_pos rfl, if_pos (by omega)]
      congr 2; omega
    · rw [if_neg c2, h2 q hq]
      have e1 : (q / 16 = i ∧ q % 16 < k + 1) ↔ (q / 16 = i ∧ q % 16 < k) := by omega
      have e2 : (q / 16 = j ∧ q % 16 < k + 1) ↔ (q / 16 = j ∧ q % 16 < k) := by omega
      simp only [e1, e2]
theorem Wi_ex {f : WF} {ws us : List Nat} {i j : Nat} (hij : i ≠ j) (hi : i < 10) (hj : j < 10) (h : Wi f ws) (he : exW ws i j 16 us) : Wi (exF f i j) us := by
  obtain ⟨h1, h2, h3⟩ := h
  obtain ⟨e1, e2⟩ := he
  refine ⟨e1, fun k hk => ?_, fun k hk p hp => ?_⟩
  · rw [e2 k hk]
    split
    · exact and_lt64 (h2 _ hk)
    · split
      · exact or_lt64 (h2 _ (by omega)) (h2 _ hk)
      · exact h2 _ hk
  · have hp64 : p / 64 < 16 := by omega
    have hd : (k * 16 + p / 64) / 16 = k := by omega
    have hm : (k * 16 + p / 64) % 16 = p / 64 := by omega
    rw [e2 _ (by omega), hd, hm]
    unfold exF
    by_cases c1 : k = i
    · subst c1
      rw [if_pos ⟨rfl, hp64⟩, if_pos rfl, Nat.testBit_and, h3 k hi p hp, h3 j hj p hp]
    · rw [if_neg (by omega), if_neg c1]
      by_cases c2 : k = j
      · subst c2
        rw [if_pos ⟨rfl, hp64⟩, if_pos rfl, Nat.testBit_or, h3 i hi p hp, h3 k hk p hp]
      · rw [if_neg (by omega), if_neg c2, h3 k hk p hp]
/-- Whether a word has changed. -/
theorem andNot_zero {a b : Nat} : andNot a b = 0 ↔ ∀ q, a.testBit q = true → b.testBit q = true := by
  constructor
  · intro h q ha
    have := congrArg (fun x => x.testBit q) h
    simp only [testBit_andNot, Nat.zero_testBit] at this
    cases hb : b.testBit q
    · simp [ha, hb] at this
    · rfl
  · intro h
    apply Nat.eq_of_testBit_eq
    intro q
    rw [testBit_andNot, Nat.zero_testBit]
    cases ha : a.testBit q
    · simp
    · simp [h q ha]
theorem andNot_lt {a b : Nat} (ha : a < 2 ^ 64) : andNot a b < 2 ^ 64 := by
  apply Nat.lt_pow_two_of_testBit
  intro i hi
  rw [testBit_andNot, Nat.testBit_lt_two_pow (Nat.lt_of_lt_of_le ha (Nat.pow_le_pow_right (by omega) hi))]
  rfl
/-- Some word of wire 'i' has a bit that wire 'j' lacks. -/
def exC (ws : List Nat) (i j k : Nat) : Bool := (List.range k).any fun m => decide (andNot (gt ws (i * 16 + m)) (gt ws (j * 16 + m)) ≠ 0)
theorem exC_succ (ws : List Nat) (i j k : Nat) : exC ws i j (k + 1) = (exC ws i j k || decide (andNot (gt ws (i * 16 + k)) (gt ws (j * 16 + k)) ≠ 0)) := by
  simp [exC, List.range_succ]
theorem wc_part {ws : List Nat} {i k : Nat} (hk : k < 16) (hl : i * 16 + 16 ≤ ws.length) : (wc ((ws.drop (i * 16)).take 16))[k]? = some (.int .u64 ((gt ws (i * 16 + k) : Nat) : Int)) := by
  rw [wc_get (by simp; omega)]
  congr 3
  simp [gt, hk, List.getElem?_take, List.getElem?_drop]
theorem wc_partc {ws : List Nat} {i : Nat} : ∀ (j : Nat) (u : Value), (((ws.drop (i * 16)).take 16).map (fun x : Nat => Value.int .u64 (x : Int)))[j]? = some u → (wc ws)[i * 16 + j]? = some u := by
  intro j u hu
  simp only [List.getElem?_map, List.getElem?_take, List.getElem?_drop, Option.map_eq_some_iff] at hu
  obtain ⟨a, ha, rfl⟩ := hu
  split at ha
  · simp [wc, cof, ha]
  · cases ha

/-- The number with the bits 'g', below 'n'. -/
def colN : Nat → (Nat → Bool) → Nat
  | 0, _ => 0
  | n + 1, g => colN n g + (if g n then 1 else 0) * 2 ^ n
theorem colN_lt (n : Nat) (g : Nat → Bool) : colN n g < 2 ^ n := by
  induction n with
  | zero => simp [colN]
  | succ n ih =>
    simp only [colN]
    rw [Nat.pow_succ]
    split <;> omega
theorem colN_or {n : Nat} {g : Nat → Bool} {b : Nat} : colN n g ||| b * 2 ^ n = colN n g + b * 2 ^ n := by
  rw [Nat.or_comm, Nat.mul_comm, ← Nat.two_pow_add_eq_or_of_lt (colN_lt n g)]
  omega
theorem colN_bit (n : Nat) (g : Nat → Bool) (i : Nat) : (colN n g).testBit i = (decide (i < n) && g i) := by
  induction n with
  | zero => simp [colN]
  | succ n ih =>
    have : colN (n + 1) g = colN n g ||| (if g n then 1 else 0) * 2 ^ n := colN_or.symm
    rw [this, Nat.testBit_or, ih]
    by_cases c : i = n
    · subst c
      cases hg : g i <;> simp [hg, Nat.testBit_two_pow]
    · have hne : ((if g n then 1 else 0) * 2 ^ n).testBit i = false := by
        split
        · rw [Nat.one_mul, Nat.testBit_two_pow]; simp; omega
        · simp
      rw [hne, Bool.or_false]
      congr 1
      simp; omega
/-- What is wrong with a network. -/
def validC (n : Int) (c : Int × Int) : Bool := decide (0 ≤ c.1 ∧ c.1 < c.2 ∧ c.2 < n)
def chkNet (V : Int → Int × Int → Bool) (n : Int) (ls : List (Int × Int)) : Int := if n < 1 ∨ 10 < n then 1 else if 200 < ls.length then 2 else if ls.all (V n) then 0 else 100
theorem chkNet_ok {V : Int → Int × Int → Bool} {n : Int} {ls : List (Int × Int)} (h : chkNet V n ls = 0) : 1 ≤ n ∧ n ≤ 10 ∧ ls.length ≤ 200 ∧ ∀ i, i < ls.length → V n (gt ls i) = true := by
  unfold chkNet at h
  split at h
  · cases h
  · split at h
    · cases h
    · split at h
      · rename_i h3
        rw [List.all_eq_true] at h3
        exact ⟨by omega, by omega, by omega, fun i hi => h3 _ (gt_mem hi)⟩
      · cases h
theorem chkNet_bad {V : Int → Int × Int → Bool} {n : Int} {ls : List (Int × Int)} (h1 : ¬ n < 1) (h2 : ¬ 10 < n) (h3 : ¬ (200 : Int) < (ls.length : Int)) {i : Nat} (hi : i < ls.length) (hv : V n (gt ls i) = false) : chkNet V n ls = 100 := by
  unfold chkNet
  rw [if_neg (by omega), if_neg (by omega), if_neg]
  intro h
  rw [List.all_eq_true] at h
  rw [h _ (gt_mem hi)] at hv; cases hv
theorem chkNet_all {V : Int → Int × Int → Bool} {n : Int} {ls : List (Int × Int)} (h1 : ¬ n < 1) (h2 : ¬ 10 < n) (h3 : ¬ (200 : Int) < (ls.length : Int)) (hv : ∀ i, i < ls.length → V n (gt ls i) = true) : chkNet V n ls = 0 := by
  unfold chkNet
  rw [if_neg (by omega), if_neg (by omega), if_pos]
  rw [List.all_eq_true]
  intro x hx
  obtain ⟨i, hi, rfl⟩ := mem_gt hx
  exact hv i hi
theorem pat_step {n p i : Nat} (hi : i < n) (hb : p.testBit i = true) (k q : Nat) : (if k = i ∧ q = p then true else decide (k < n) && (decide (q < p) || (decide (q = p) && decide (k < i))) && q.testBit k) = (decide (k < n) && (decide (q < p) || (decide (q = p) && decide (k < i + 1))) && q.testBit k) := by
  by_cases c : k = i ∧ q = p
  · obtain ⟨rfl, rfl⟩ := c
    simp [hi, hb]
  · rw [if_neg c]
    by_cases c1 : q = p
    · subst c1
      have : k ≠ i := fun e => c ⟨e, rfl⟩
      rw [show decide (k < i + 1) = decide (k < i) from by congr 1; simp; omega]
    · simp [c1]
theorem pat_skip {n p i : Nat} (hb : p.testBit i = false) (k q : Nat) : (decide (k < n) && (decide (q < p) || (decide (q = p) && decide (k < i))) && q.testBit k) = (decide (k < n) && (decide (q < p) || (decide (q = p) && decide (k < i + 1))) && q.testBit k) := by
  by_cases c1 : q = p
  · subst c1
    by_cases c : k = i
    · subst c; simp [hb]
    · rw [show decide (k < i + 1) = decide (k < i) from by congr 1; simp; omega]
  · simp [c1]
theorem pat_all {n p i : Nat} (hi : n ≤ i) (k q : Nat) : (decide (k < n) && (decide (q < p) || (decide (q = p) && decide (k < i))) && q.testBit k) = (decide (k < n) && decide (q < p + 1) && q.testBit k) := by
  by_cases c : k < n
  · have : (decide (q < p) || (decide (q = p) && decide (k < i))) = decide (q < p + 1) := by
      rw [show decide (k < i) = true from decide_eq_true (by omega), Bool.and_true, ← Bool.decide_or]
      congr 1; simp; omega
    rw [this]
  · simp [c]
theorem exW_lt {f : WF} {ws us : List Nat} {i j k : Nat} (h : Wi f ws) (hi : i < 10) (hj : j < 10) (he : exW ws i j k us) : ∀ q, q < 160 → gt us q < 2 ^ 64 := by
  intro q hq
  have h2 := h.2.1
  rw [he.2 q hq]
  split
  · exact and_lt64 (h2 _ hq)
  · split
    · exact or_lt64 (h2 _ (by omega)) (h2 _ hq)
    · exact h2 _ hq
theorem exW_j {ws us : List Nat} {i j k : Nat} (hij : i ≠ j) (hj : j < 10) (hk : k < 16) (he : exW ws i j k us) : gt us (j * 16 + k) = gt ws (j * 16 + k) := by
  rw [he.2 _ (by omega), if_neg (by omega), if_neg (by omega)]
theorem pow10 {n : Nat} (h : n ≤ 10) : 2 ^ n ≤ 1024 := Nat.pow_le_pow_right (by omega : 0 < 2) h
theorem pow64 {n : Nat} (h : n < 64) : 2 ^ n < 18446744073709551616 := Nat.pow_lt_pow_right (by omega : 1 < 2) h
theorem runF_take {ls : List (Int × Int)} {i : Nat} (hi : i < ls.length) (f : WF) : runF (ls.take (i + 1)) f = exF (runF (ls.take i) f) (gt ls i).1.toNat (gt ls i).2.toNat := by
  rw [List.take_succ_eq_append_getElem hi, runF_append, gt_eq hi]
  rfl
theorem validC_nat {n : Nat} {c : Int × Int} (h : validC (n : Int) c = true) : c.1 = ((c.1.toNat : Nat) : Int) ∧ c.2 = ((c.2.toNat : Nat) : Int) ∧ c.1.toNat < c.2.toNat ∧ c.2.toNat < n := by
  have := of_decide_eq_true h
  omega
theorem ChgB.refl (bn : Nat) (h : Heap) : ChgB bn h h := ⟨rfl, fun _ _ => rfl⟩
theorem ChgB.trans {bn : Nat} {a b c : Heap} (h : ChgB bn a b) (k : ChgB bn b c) : ChgB bn a c := ⟨k.size.trans h.size, fun i hi => (k.block i hi).trans (h.block i hi)⟩
end Go.X
namespace Go.X
/-- The first 'n' numbers. -/
def iota (n : Nat) : List Int := (List.range n).map fun j : Nat => (j : Int)
theorem iota_length (n : Nat) : (iota n).length = n := by simp [iota]
theorem gt_iota {n j : Nat} (h : j < n) : gt (iota n) j = (j : Int) := by
  rw [gt_eq (by rw [iota_length]; exact h)]; simp [iota]
end Go.X
namespace Go.X
theorem gt_exch {xs : List Int} {i j : Nat} (hi : i < xs.length) (hj : j < xs.length) (hij : i ≠ j) (k : Nat) : gt (exch xs i j) k = if k = i then min (gt xs i) (gt xs j) else if k = j then max (gt xs i) (gt xs j) else gt xs k := by
  unfold exch
  split
  · rw [gt_swp hi hj]
    by_cases h1 : k = i
    · subst h1; rw [if_neg (by omega), if_pos rfl, if_pos rfl]; omega
    · by_cases h2 : k = j
      · subst h2; rw [if_pos rfl, if_neg h1, if_pos rfl]; omega
      · rw [if_neg h2, if_neg h1, if_neg h1, if_neg h2]
  · by_cases h1 : k = i
    · subst h1; rw [if_pos rfl]; omega
    · by_cases h2 : k = j
      · subst h2; rw [if_neg h1, if_pos rfl]; omega
      · rw [if_neg h1, if_neg h2]
/-- Where the values of the loose network are in the straight one. -/
structure StInv (n : Nat) (w x y : List Int) : Prop where
  lw : w.length = n
  lx : x.length = n
  ly : y.length = n
  rng : ∀ i, i < n → 0 ≤ gt w i ∧ gt w i < (n : Int)
  inj : ∀ i j, i < n → j < n → gt w i = gt w j → i = j
  val : ∀ i, i < n → gt x (gt w i).toNat = gt y i
theorem StInv.step {n a b : Nat} {w x y : List Int} (h : StInv n w x y) (ha : a < n) (hb : b < n) (hab : a ≠ b) :
    StInv n (exch w a b) (exch x (min (gt w a) (gt w b)).toNat (max (gt w a) (gt w b)).toNat) (exch y a b) := by
  obtain ⟨lw, lx, ly, rng, inj, val⟩ := h
  have r1 := rng a ha
  have r2 := rng b hb
  have hne : gt w a ≠ gt w b := fun e => hab (inj a b ha hb e)
  have gw := gt_exch (xs := w) (i := a) (j := b) (by omega) (by omega) hab
  have gy := gt_exch (xs := y) (i := a) (j := b) (by omega) (by omega) hab
  have gx := gt_exch (xs := x) (i := (min (gt w a) (gt w b)).toNat) (j := (max (gt w a) (gt w b)).toNat) (by omega) (by omega) (by omega)
  have va := val a ha
  have vb := val b hb
  refine ⟨by rw [exch_length]; exact lw, by rw [exch_length]; exact lx, by rw [exch_length]; exact ly, fun i hi => ?_, fun i j hi hj e => ?_, fun i hi => ?_⟩
  · have := rng i hi
    rw [gw]; split
    · omega
    · split <;> omega
  · rw [gw, gw] at e
    by_cases h1 : i = a
    · by_cases h2 : j = a
      · omega
      · rw [if_pos h1, if_neg h2] at e
        by_cases h3 : j = b
        · rw [if_pos h3] at e; omega
        · rw [if_neg h3] at e
          have := inj j a hj ha
          have := inj j b hj hb
          omega
    · by_cases h4 : i = b
      · rw [if_neg h1, if_pos h4] at e
        by_cases h2 : j = a
        · rw [if_pos h2] at e; omega
        · rw [if_neg h2] at e
          by_cases h3 : j = b
          · omega
          · rw [if_neg h3] at e
            have := inj j a hj ha
            have := inj j b hj hb
            omega
      · rw [if_neg h1, if_neg h4] at e
        by_cases h2 : j = a
        · rw [if_pos h2] at e
          have := inj i a hi ha
          have := inj i b hi hb
          omega
        · rw [if_neg h2] at e
          by_cases h3 : j = b
          · rw [if_pos h3] at e
            have := inj i a hi ha
            have := inj i b hi hb
            omega
          · rw [if_neg h3] at e; exact inj i j hi hj e
  · rw [gw, gy]
    have key : min (gt x (min (gt w a) (gt w b)).toNat) (gt x (max (gt w a) (gt w b)).toNat) = min (gt y a) (gt y b) ∧ max (gt x (min (gt w a) (gt w b)).toNat) (gt x (max (gt w a) (gt w b)).toNat) = max (gt y a) (gt y b) := by
      rcases Int.lt_or_lt_of_ne hne with hl | hl
      · rw [show min (gt w a) (gt w b) = gt w a from by omega, show max (gt w a) (gt w b) = gt w b from by omega, va, vb]; exact ⟨rfl, rfl⟩
      · rw [show min (gt w a) (gt w b) = gt w b from by omega, show max (gt w a) (gt w b) = gt w a from by omega, va, vb]; omega
    by_cases h1 : i = a
    · rw [if_pos h1, if_pos h1, gx, if_pos rfl]; exact key.1
    · by_cases h2 : i = b
      · rw [if_neg h1, if_pos h2, if_neg h1, if_pos h2, gx, if_neg (by omega), if_pos rfl]; exact key.2
      · rw [if_neg h1, if_neg h2, if_neg h1, if_neg h2, gx]
        have e1 := inj i a hi ha
        have e2 := inj i b hi hb
        have e3 := rng i hi
        rw [if_neg (by omega), if_neg (by omega)]
        exact val i hi
theorem StInv.zero {n : Nat} {x : List Int} (hx : x.length = n) : StInv n (iota n) x x :=
  ⟨iota_length n, hx, hx, fun i hi => by rw [gt_iota hi]; omega, fun i j hi hj e => by rw [gt_iota hi, gt_iota hj] at e; omega, fun i hi => by rw [gt_iota hi]; rfl⟩
end Go.X
namespace Go.X
/-- The sum of 'f' below 'n'. -/
def S (f : Nat → Nat) : Nat → Nat
  | 0 => 0
  | n + 1 => S f n + f n
/-- Two indices for one another. -/
def tr (i j a : Nat) : Nat := if a = i then j else if a = j then i else a
end Go.X
namespace Go.X
end Go.X
namespace Go.X
def NetOk (n : Nat) (ls : List (Int × Int)) : Prop := ∀ c ∈ ls, ∃ a b : Nat, c = ((a : Int), (b : Int)) ∧ a < n ∧ b < n ∧ a ≠ b
def NetLt (n : Nat) (ls : List (Int × Int)) : Prop := ∀ c ∈ ls, ∃ a b : Nat, c = ((a : Int), (b : Int)) ∧ a < b ∧ b < n
theorem NetLt.ok {n : Nat} {ls : List (Int × Int)} (h : NetLt n ls) : NetOk n ls := fun c hc => by
  obtain ⟨a, b, e, h1, h2⟩ := h c hc
  exact ⟨a, b, e, by omega, h2, by omega⟩
theorem NetLt.append {n : Nat} {xs ys : List (Int × Int)} (h : NetLt n xs) (h' : NetLt n ys) : NetLt n (xs ++ ys) := fun c hc => by
  rw [List.mem_append] at hc
  exact hc.elim (h c) (h' c)
theorem NetLt.cons {n : Nat} {x : Int × Int} {xs : List (Int × Int)} (h : NetLt n (x :: xs)) : NetLt n xs := fun c hc => h c (List.mem_cons_of_mem _ hc)
end Go.X
namespace Go.X
end Go.X
namespace Go.X
theorem asc_ext : ∀ {xs ys : List Int}, xs.Pairwise (· < ·) → ys.Pairwise (· < ·) → (∀ x, x ∈ xs ↔ x ∈ ys) → xs = ys
  | [], [], _, _, _ => rfl
  | [], y :: ys, _, _, h => by have := (h y).2 (List.mem_cons_self ..); cases this
  | x :: xs, [], _, _, h => by have := (h x).1 (List.mem_cons_self ..); cases this
  | x :: xs, y :: ys, hx, hy, h => by
    rw [List.pairwise_cons] at hx hy
    have e : x = y := by
      have h1 := (h x).1 (List.mem_cons_self ..)
      have h2 := (h y).2 (List.mem_cons_self ..)
      rw [List.mem_cons] at h1 h2
      rcases h1 with h1 | h1
      · exact h1
      · rcases h2 with h2 | h2
        · exact h2.symm
        · have := hx.1 _ h2; have := hy.1 _ h1; omega
    subst e
    rw [asc_ext hx.2 hy.2 fun z => ?_]
    have := h z
    rw [List.mem_cons, List.mem_cons] at this
    constructor
    · intro hz
      rcases this.1 (.inr hz) with h1 | h1
      · subst h1; have := hx.1 _ hz; omega
      · exact h1
    · intro hz
      rcases this.2 (.inr hz) with h1 | h1
      · subst h1; have := hy.1 _ hz; omega
      · exact h1
theorem compact_asc_aux {zs : List Int} (hs : zs.Pairwise (· ≤ ·)) : ∀ m, m ≤ zs.length → (Lib.compactUpTo zs.toArray m).Pairwise (· < ·) ∧ (∀ x, x ∈ Lib.compactUpTo zs.toArray m ↔ ∃ j, j < m ∧ zs.toArray[j]! = x)
  | 0, _ => ⟨by simp [Lib.compactUpTo], fun x => by simp [Lib.compactUpTo]⟩
  | m + 1, hm => by
    obtain ⟨h1, h2⟩ := compact_asc_aux hs m (by omega)
    have ge : ∀ (i : Nat), i < zs.length → zs.toArray[i]! = zs[i]! := fun i hi => by simp
    have le : ∀ i j : Nat, i ≤ j → j < zs.length → zs.toArray[i]! ≤ zs.toArray[j]! := fun i j hij hj => by
      rw [ge i (by omega), ge j hj, getElem!_pos zs i (by omega), getElem!_pos zs j hj]
      rcases Nat.lt_or_eq_of_le hij with h | h
      · exact List.pairwise_iff_getElem.1 hs i j (by omega) hj h
      · subst h; exact Int.le_refl _
    rw [Lib.compactUpTo_succ]
    cases hk : Lib.keeps zs.toArray m
    · simp only [Bool.false_eq_true, if_false, List.append_nil]
      refine ⟨h1, fun x => ⟨fun hx => ?_, fun hx => ?_⟩⟩
      · obtain ⟨j, hj, e⟩ := (h2 x).1 hx; exact ⟨j, by omega, e⟩
      · obtain ⟨j, hj, e⟩ := hx
        by_cases hjm : j = m
        · subst hjm
          have hj0 : j ≠ 0 := fun h0 => by subst h0; simp [Lib.keeps] at hk
          have he : zs.toArray[j]! = zs.toArray[j - 1]! := Classical.byContradiction fun hne => by rw [Lib.keeps_pos hne] at hk; cases hk
          exact (h2 x).2 ⟨j - 1, by omega, he ▸ e⟩
        · exact (h2 x).2 ⟨j, by omega, e⟩
    · simp only [if_true]
      constructor
      · rw [List.pairwise_append]
        refine ⟨h1, by simp, fun a ha b hb => ?_⟩
        rw [List.mem_singleton] at hb
        subst hb
        obtain ⟨j, hj, rfl⟩ := (h2 a).1 ha
        have h3 := le j (m - 1) (by omega) (by omega)
        have h4 := le (m - 1) m (by omega) (by omega)
        have h5 : zs.toArray[m]! ≠ zs.toArray[m - 1]! := fun e => by rw [Lib.keeps_neg (by omega) e] at hk; cases hk
        omega
      · intro x
        rw [List.mem_append, h2 x, List.mem_singleton]
        constructor
        · rintro (⟨j, hj, e⟩ | e)
          · exact ⟨j, by omega, e⟩
          · exact ⟨m, by omega, e.symm⟩
        · rintro ⟨j, hj, e⟩
          by_cases hjm : j = m
          · subst hjm; exact .inr e.symm
          · exact .inl ⟨j, by omega, e⟩
theorem compact_asc {zs : List Int} (hs : zs.Pairwise (· ≤ ·)) : (Lib.compact zs).Pairwise (· < ·) ∧ (∀ x, x ∈ Lib.compact zs ↔ x ∈ zs) := by
  obtain ⟨h1, h2⟩ := compact_asc_aux hs zs.length (Nat.le_refl _)
  refine ⟨h1, fun x => ?_⟩
  unfold Lib.compact
  rw [h2, List.mem_iff_getElem]
  constructor
  · rintro ⟨j, hj, e⟩; exact ⟨j, hj, by rw [← e, getElem!_pos zs.toArray j (by simpa using hj)]; simp⟩
  · rintro ⟨j, hj, e⟩; exact ⟨j, hj, by rw [← e, getElem!_pos zs.toArray j (by simpa using hj)]; simp⟩
theorem sort_asc (xs : List Int) : (xs.mergeSort fun x y => decide (x ≤ y)).Pairwise (· ≤ ·) ∧ ∀ x, x ∈ xs.mergeSort (fun x y => decide (x ≤ y)) ↔ x ∈ xs := by
  refine ⟨?_, fun x => List.mem_mergeSort⟩
  have := List.pairwise_mergeSort (le := fun x y : Int => decide (x ≤ y)) (by intro a b c h1 h2; simp at *; omega) (by intro a b; simp; omega) xs
  exact this.imp (by intro a b h; simpa using h)
/-- A list of numbers, rising: what a test takes among the first ones. -/
def filtF (N : Nat) (f : Nat → Bool) : List Int := ((List.range N).filter f).map fun q : Nat => (q : Int)
theorem filtF_asc (N : Nat) (f : Nat → Bool) : (filtF N f).Pairwise (· < ·) := by
  unfold filtF
  rw [List.pairwise_map]
  exact (List.pairwise_lt_range.filter _).imp (by intro a b h; omega)
theorem filtF_mem {N : Nat} {f : Nat → Bool} {x : Int} : x ∈ filtF N f ↔ ∃ q : Nat, q < N ∧ f q = true ∧ (q : Int) = x := by
  unfold filtF
  rw [List.mem_map]
  constructor
  · rintro ⟨q, hq, e⟩; rw [List.mem_filter, List.mem_range] at hq; exact ⟨q, hq.1, hq.2, e⟩
  · rintro ⟨q, h1, h2, e⟩; exact ⟨q, by rw [List.mem_filter, List.mem_range]; exact ⟨h1, h2⟩, e⟩
theorem filtF_succ (N : Nat) (f : Nat → Bool) : filtF (N + 1) f = filtF N f ++ if f N then [(N : Int)] else [] := by
  unfold filtF
  have e : List.filter f [N] = if f N then [N] else [] := by simp only [List.filter_cons, List.filter_nil]
  rw [List.range_succ, List.filter_append, List.map_append, e]
  cases f N <;> rfl
theorem filtF_length (N : Nat) (f : Nat → Bool) : (filtF N f).length ≤ N := by
  unfold filtF
  rw [List.length_map]
  exact Nat.le_trans (List.length_filter_le ..) (by simp)
/-- Sorted and compacted. -/
theorem compact_sort_eq {N : Nat} {f : Nat → Bool} {xs : List Int} (h : ∀ x, x ∈ xs ↔ ∃ q : Nat, q < N ∧ f q = true ∧ (q : Int) = x) : Lib.compact (xs.mergeSort fun x y => decide (x ≤ y)) = filtF N f := by
  obtain ⟨h1, h2⟩ := sort_asc xs
  obtain ⟨h3, h4⟩ := compact_asc h1
  refine asc_ext h3 (filtF_asc N f) fun x => ?_
  rw [h4, h2, h, filtF_mem]
/-- The patterns that come out. -/
def colP (n : Nat) (ls : List (Int × Int)) (p : Nat) : Nat := colN n fun i => runF ls (patF n) i p
theorem colP_lt (n : Nat) (ls : List (Int × Int)) (p : Nat) : colP n ls p < 2 ^ n := colN_lt n _
def outB (n : Nat) (ls : List (Int × Int)) (q : Nat) : Bool := (List.range (2 ^ n)).any fun p => colP n ls p == q
theorem outB_iff {n : Nat} {ls : List (Int × Int)} {q : Nat} : outB n ls q = true ↔ ∃ p, p < 2 ^ n ∧ colP n ls p = q := by
  unfold outB
  rw [List.any_eq_true]
  constructor
  · rintro ⟨p, hp, e⟩; exact ⟨p, List.mem_range.1 hp, by simpa using e⟩
  · rintro ⟨p, hp, e⟩; exact ⟨p, List.mem_range.2 hp, by simpa using e⟩
def outsF (n : Nat) (ls : List (Int × Int)) : List Int := filtF (2 ^ n) (outB n ls)
def outL (n : Nat) (ls : List (Int × Int)) (k : Nat) : List Int := (List.range k).map fun p => ((colP n ls p : Nat) : Int)
theorem outL_succ (n : Nat) (ls : List (Int × Int)) (k : Nat) : outL n ls (k + 1) = outL n ls k ++ [((colP n ls k : Nat) : Int)] := by simp [outL, List.range_succ]
theorem outL_length (n : Nat) (ls : List (Int × Int)) (k : Nat) : (outL n ls k).length = k := by simp [outL]
theorem outL_ne {n : Nat} {ls : List (Int × Int)} : outL n ls (2 ^ n) ≠ [] := fun e => by
  have := congrArg List.length e
  rw [outL_length] at this
  have := Nat.two_pow_pos n
  simp at *
theorem outs_eq (n : Nat) (ls : List (Int × Int)) : Lib.compact ((outL n ls (2 ^ n)).mergeSort fun x y => decide (x ≤ y)) = outsF n ls := by
  refine compact_sort_eq fun x => ?_
  unfold outL
  rw [List.mem_map]
  constructor
  · rintro ⟨p, hp, rfl⟩; exact ⟨_, colP_lt n ls p, outB_iff.2 ⟨p, List.mem_range.1 hp, rfl⟩, rfl⟩
  · rintro ⟨q, hq, h1, rfl⟩
    obtain ⟨p, hp, e⟩ := outB_iff.1 h1
    exact ⟨p, List.mem_range.2 hp, by rw [e]⟩
theorem sort_ne {xs : List Int} (h : xs ≠ []) : (xs.mergeSort fun x y => decide (x ≤ y)) ≠ [] := fun e => h (List.eq_nil_of_length_eq_zero (by have := congrArg List.length e; rw [List.length_mergeSort] at this; simpa using this))
theorem sort_len (xs : List Int) : (xs.mergeSort fun x y => decide (x ≤ y)).length = xs.length := List.length_mergeSort _
/-! ### Idle comparators, in their list -/
end Go.X
namespace Go.X
theorem colN_set {n : Nat} {g : Nat → Bool} (h : g n = true) : colN n g ||| 1 * 2 ^ n = colN (n + 1) g := by rw [colN_or]; simp [colN, h]
theorem colN_skip {n : Nat} {g : Nat → Bool} (h : g n = false) : colN n g = colN (n + 1) g := by simp [colN, h]
theorem pow12 {n : Nat} (h : n ≤ 12) : 2 ^ n ≤ 4096 := Nat.pow_le_pow_right (by omega : 0 < 2) h
theorem bit_zero {s x : Nat} : (s / 2 ^ x &&& 1) = 0 ↔ s.testBit x = false := by rw [bit_and_one]; cases s.testBit x <;> simp
theorem bit_nz {s x : Nat} (h : ¬ (s / 2 ^ x &&& 1) = 0) : s.testBit x = true := by
  cases c : s.testBit x
  · exact absurd (bit_zero.2 c) h
  · rfl
def incl (a b : Nat) : Bool := decide (andNot a b = 0)
theorem incl_iff {a b : Nat} : incl a b = true ↔ ∀ q, a.testBit q = true → b.testBit q = true := by unfold incl; rw [decide_eq_true_iff]; exact andNot_zero
theorem andNot_le (a b : Nat) : andNot a b ≤ a := by
  rw [show andNot a b = a &&& andNot a b from Nat.eq_of_testBit_eq fun i => by rw [Nat.testBit_and, testBit_andNot]; cases a.testBit i <;> simp]
  exact Nat.and_le_left
theorem incl_D {a b : Nat} : decide (((andNot a b : Nat) : Int) = 0) = incl a b := by
  unfold incl
  rw [decide_eq_decide]
  omega
def dnF (n : Nat) (f : Nat → Nat → Bool) (x : Nat) : Nat := colN n fun y => f y x
def upF (n : Nat) (f : Nat → Nat → Bool) (x : Nat) : Nat := colN n fun y => f x y
theorem dnF_lt (n : Nat) (f : Nat → Nat → Bool) (x : Nat) : dnF n f x < 2 ^ n := colN_lt n _
theorem upF_lt (n : Nat) (f : Nat → Nat → Bool) (x : Nat) : upF n f x < 2 ^ n := colN_lt n _
theorem upF_bit {n : Nat} {f : Nat → Nat → Bool} {x y : Nat} : (upF n f x).testBit y = (decide (y < n) && f x y) := colN_bit n _ y
theorem rall_succ (k : Nat) (g : Nat → Bool) : (List.range (k + 1)).all g = ((List.range k).all g && g k) := by rw [List.range_succ, List.all_append]; simp
theorem rall_iff {k : Nat} {g : Nat → Bool} : (List.range k).all g = true ↔ ∀ i, i < k → g i = true := by rw [List.all_eq_true]; exact ⟨fun h i hi => h i (List.mem_range.2 hi), fun h i hi => h i (List.mem_range.1 hi)⟩
/-- Ideals: with each element all below it. -/
def idlB (n : Nat) (f : Nat → Nat → Bool) (s : Nat) : Bool := (List.range n).all fun x => !s.testBit x || incl (dnF n f x) s
def idealsF (n : Nat) (f : Nat → Nat → Bool) : List Int := filtF (2 ^ n) (idlB n f)
theorem filtF_yes {N : Nat} {f : Nat → Bool} (h : f N = true) : filtF N f ++ [(N : Int)] = filtF (N + 1) f := by rw [filtF_succ, h]; rfl
theorem filtF_no {N : Nat} {f : Nat → Bool} (h : f N = false) : filtF N f = filtF (N + 1) f := by rw [filtF_succ, h]; simp
theorem up_order {n : Nat} {ls : List (Int × Int)} (h : ∀ d, d ∈ ls → ∃ a b : Nat, d = ((a : Int), (b : Int)) ∧ a < b ∧ b < n) : IsO n (closW n ls) :=
  clos_order (fun x => x) (fun _ _ _ _ e => e) fun x y hm => by
    obtain ⟨a, b, e, h1, h2⟩ := h _ hm
    obtain ⟨e1, e2⟩ := Prod.mk.inj e
    omega
theorem up_closE {n : Nat} (h1 : 1 ≤ n) (h2 : n ≤ 12) {ls : List (Int × Int)} (h : ∀ d, d ∈ ls → ∃ a b : Nat, d = ((a : Int), (b : Int)) ∧ a < b ∧ b < n) : closE n ls = 0 := by
  rw [closE_ok h1 h2 fun i hi => by
    obtain ⟨a, b, e, h3, h4⟩ := h _ (gt_mem hi)
    rw [e]; exact inR_iff.2 ⟨by show (0 : Int) ≤ (a : Int); omega, by show (0 : Int) ≤ (b : Int); omega, by show (a : Int) < n; omega, by show (b : Int) < n; omega⟩, if_pos (ordB_iff.2 (up_order h))]
end Go.X
namespace Go.Proofs.Ytdokijbdnajhgaa
open Go Go.X

set_option maxRecDepth 10000 in
theorem small_spec (h : Heap) (x : Int) (k : Nat) (hp1 : k ≤ 1000000) : Fx Try.prog 65 [.int .i64 x, .int .i64 ((k : Nat) : Int)] h (fun v h' => v = .int .i64 ((ur x % (k + 1) : Nat) : Int) ∧ h = h') := by
  refine fx_intro (n := 12) [(0, .int .i64 x), (1, .int .i64 ((k : Nat) : Int))] Try.func65 rfl rfl (by simp) ⟨rfl, rfl, trivial⟩ fun g0 => ?_
  refine wi_seq <| wi_reg rfl <| lx_assign (.int .i64 0) rfl rfl <| lx_nil <| wi_seq <| wi_reg rfl <| ?_
  have hmd := Nat.mod_lt (ur x) (show 0 < k + 1 by omega)
  refine lx_move (.int .i64 x) rfl rfl <| lx_conv ((ur x : Nat) : Int) rfl Try.underlying3 Try.underlying45 rfl (wrap_ur _) <| lx_move (.int .i64 ((k : Nat) : Int)) rfl rfl <| lx_add (((k + 1 : Nat) : Int)) rfl rfl rfl (by omega) (by omega) (by omega) <| lx_conv ((k + 1 : Nat) : Int) rfl Try.underlying3 Try.underlying45 rfl (wrap_u64 (by omega) (by omega)) <| lx_rem (m := ur x) (n := k + 1) rfl rfl rfl (by omega) <| lx_conv (((ur x) % (k + 1) : Nat) : Int) rfl Try.underlying45 Try.underlying3 rfl (wrap_i64 (by omega) (by omega)) <| lx_assign (.int .i64 (((ur x) % (k + 1) : Nat) : Int)) rfl rfl <| lx_nil <| ?_
  -- R1
  refine wi_ret ⟨.int .i64 (((ur x) % (k + 1) : Nat) : Int), (res_one rfl rfl), ⟨?_, rfl⟩⟩
  · first | rfl | (simp; done) | (simp; omega)

set_option maxRecDepth 10000 in
theorem has_spec (h : Heap) (vl : Value) (xs : List Int) (x : Int) (hr_vl : RdE encI h vl xs) (hp1 : xs.length ≤ 4611686018427387904) : Fx Try.prog 73 [vl, .int .i64 x] h (fun v h' => v = .bool (decide (x ∈ xs)) ∧ h = h') := by
  refine fx_intro (n := 18) [(0, vl), (1, .int .i64 x)] Try.func73 rfl rfl (by simp) ⟨rfl, rfl, trivial⟩ fun g0 => ?_
  refine wi_seq <| wi_reg rfl <| lx_assign (.bool false) rfl rfl <| lx_nil <| wi_seq <| wi_seq <| wi_reg rfl <| lx_assign (.int .i64 0) rfl rfl <| lx_nil <| wi_block <| ?_
  refine wi_loop (σ := Nat) (rngB 4 18 []) (fun (i : Nat) => [(5, .int .i64 ((i : Nat) : Int))]) (fun (i : Nat) (hh : Heap) => (i ≤ xs.length) ∧ (∀ j, j < i → gt xs j ≠ x) ∧ h = hh) (fun (i : Nat) => xs.length - i) 0 ⟨rfl, trivial⟩ ⟨?_, ?_, rfl⟩ ?_
  · try dsimp only
    omega
  · try dsimp only
    intro j hj; omega
  rintro g1 i hh1 ⟨hi, he, rfl⟩ IH1
  refine wi_seq <| wi_seq <| wi_reg rfl <| lx_move (.int .i64 ((i : Nat) : Int)) rfl rfl <| lx_move (vl) rfl rfl <| lx_len rfl Try.underlying25 hr_vl rfl <| lx_lssS rfl rfl rfl (fun c1 => ?_) (fun c1 => ?_)
  · refine lx_nil <| wi_true rfl <| wi_skip <| wi_seq <| wi_block <| wi_seq <| wi_reg rfl <| lx_move (vl) rfl rfl <| lx_move (.int .i64 ((i : Nat) : Int)) rfl rfl <| lx_ix (i := i) rfl eT25 hr_vl rfl rfl (by omega) <| lx_ld (i := i) (j := 0) (.int .i64 (gt xs i)) rfl rfl fl3 hr_vl (by omega) rfl rfl <| lx_move (.int .i64 x) rfl rfl <| lx_eqlS rfl rfl rfl (fun c2 => ?_) (fun c2 => ?_)
    · refine lx_nil <| wi_true rfl <| wi_seq <| wi_reg rfl <| lx_assign (.bool true) rfl rfl <| lx_nil <| ?_
      -- R1
      refine wi_ret ⟨.bool true, (res_one rfl rfl), ⟨?_, rfl⟩⟩
      · have e : x ∈ xs := by rw [← c2]; exact gt_mem (by omega)
        simp [e]
    · refine lx_nil <| wi_false rfl <| wi_skip <| wi_inBlock <| wi_reg rfl <| lx_move (.int .i64 ((i : Nat) : Int)) rfl rfl <| lx_add (((i + 1 : Nat) : Int)) rfl rfl rfl (by omega) (by omega) (by omega) <| lx_assign (.int .i64 ((i + 1 : Nat) : Int)) rfl rfl <| lx_nil <| ?_
      -- L0.1
      refine IH1 _ _ (i + 1) (agree_ups rfl agree_self) ⟨rfl, trivial⟩ ⟨?_, ?_, rfl⟩ ?_
      · try dsimp only
        omega
      · try dsimp only
        intro j hj; by_cases hji : j = i
        · subst hji; simpa using c2
        · exact he j (by omega)
      · first | omega | (dsimp only; omega)
  · refine lx_nil <| wi_false rfl <| wi_exit rfl <| wi_seq <| wi_reg rfl <| lx_assign (.bool false) rfl rfl <| lx_nil <| ?_
    -- R2
    refine wi_ret ⟨.bool false, (res_one rfl rfl), ⟨?_, rfl⟩⟩
    · have e : ¬ x ∈ xs := fun h9 => by obtain ⟨j, h8, h7⟩ := mem_gt h9; exact he j (by omega) h7
      simp [e]

set_option maxRecDepth 10000 in
theorem up_spec (h : Heap) (vp : Value) (hs : List Hdr) (p : List (List Bool)) (x : Nat) (hr_vp : RdE encHd h vp hs) (ht_vp : RT encB h hs p) (hp1 : p.length ≤ 12) (hp2 : Sq p p.length) (hp3 : x < p.length) : Fx Try.prog 80 [vp, .int .i64 ((x : Nat) : Int)] h (fun v h' => v = .int .i64 ((upF p.length (pb p) x : Nat) : Int) ∧ h = h') := by
  have hl_vp := ht_vp.1
  refine fx_intro (n := 26) [(0, vp), (1, .int .i64 ((x : Nat) : Int))] Try.func80 rfl rfl (by simp) ⟨rfl, rfl, trivial⟩ fun g0 => ?_
  refine wi_seq <| wi_reg rfl <| lx_assign (.int .i64 0) rfl rfl <| lx_nil <| wi_seq <| wi_reg rfl <| lx_assign (.int .i64 0) rfl rfl <| lx_nil <| wi_seq <| wi_seq <| wi_reg rfl <| lx_move (vp) rfl rfl <| lx_move (.int .i64 ((x : Nat) : Int)) rfl rfl <| lx_ix (i := x) rfl eT29 hr_vp rfl rfl (by omega) <| lx_ld (i := x) (j := 0) ((gt hs x).v) rfl rfl fl70 hr_vp (by omega) rfl rfl <| lx_len rfl Try.underlying70 (ht_vp.2 x (by omega)) rfl <| lx_move (.int .i64 0) rfl rfl <| lx_nil <| wi_block <| ?_
  refine wi_loop (σ := Nat × Nat) (rngB 13 25 [5, 6, 7]) (fun (ss : Nat × Nat) => [(13, .int .i64 ((ss.1 : Nat) : Int)), (5, .int .i64 ((ss.2 : Nat) : Int))]) (fun (ss : Nat × Nat) (hh : Heap) => h = hh ∧ (ss.1 ≤ p.length) ∧ (ss.2 = colN ss.1 (fun c => pb p x c))) (fun (ss : Nat × Nat) => p.length - ss.1) (0, 0) ⟨rfl, rfl, trivial⟩ ⟨rfl, ?_, ?_⟩ ?_
  · try dsimp only
    omega
  · try dsimp only
    first | done | rfl
  rintro g1 ⟨y, o⟩ hh1 ⟨rfl, hy, ho⟩ IH1
  dsimp only at *
  refine wi_seq <| wi_reg rfl <| ?_
  have hrl := hp2.2 x hp3
  refine lx_lssS rfl rfl rfl (fun c1 => ?_) (fun c1 => ?_)
  · refine lx_nil <| wi_seq <| wi_true rfl <| wi_skip <| wi_seq <| wi_block <| wi_seq <| wi_reg rfl <| lx_move (.int .i64 ((y : Nat) : Int)) rfl rfl <| lx_ix (i := y) rfl eT70 (ht_vp.2 x (by omega)) rfl rfl (by rw [hp2.2 x (by omega)]; omega) <| lx_ld (i := y) (j := 0) (.bool (gt (gt p x) y)) rfl rfl fl4 (ht_vp.2 x (by omega)) (by rw [hp2.2 x (by omega)]; omega) rfl rfl <| lx_assign (.int .i64 ((y : Nat) : Int)) rfl rfl <| lx_assign (.bool (gt (gt p x) y)) rfl rfl <| lx_nil <| wi_seq <| wi_reg rfl <| lx_move (.bool (gt (gt p x) y)) rfl rfl <| lx_nil <| wi_condS (t := gt (gt p x) y) rfl (fun c2 => ?_) (fun c2 => ?_)
    · refine wi_reg rfl <| ?_
      have hpw := pow12 (show y ≤ 12 by omega)
      have hpw1 := pow12 (show y + 1 ≤ 12 by omega)
      have hlt : o < 2 ^ y := by rw [ho]; exact colN_lt _ _
      have hor : o ||| 1 * 2 ^ y < 2 ^ (y + 1) := by rw [ho, colN_set (n := y) (g := fun c => pb p x c) (by assumption)]; exact colN_lt _ _
      refine lx_move (.int .i64 ((o : Nat) : Int)) rfl rfl <| lx_move (.int .i64 ((y : Nat) : Int)) rfl rfl <| lx_conv ((y : Nat) : Int) rfl Try.underlying3 Try.underlying45 rfl (wrap_u64 (by omega) (by omega)) <| lx_shl (m := 1) (n := y) rfl rfl rfl (by show _ ≤ 64; omega) (wrap_i64 (by omega) (by omega)) <| lx_or (m := o) (n := 1 * 2 ^ y) rfl rfl rfl (by show _ < 2 ^ 64; omega) (by show _ < 2 ^ 64; omega) (wrap_i64 (by omega) (by omega)) <| lx_assign (.int .i64 ((o ||| (1 * 2 ^ y) : Nat) : Int)) rfl rfl <| lx_nil <| wi_inBlock <| wi_reg rfl <| lx_add (((y + 1 : Nat) : Int)) rfl rfl rfl (by omega) (by omega) (by omega) <| lx_move (.int .i64 ((y + 1 : Nat) : Int)) rfl rfl <| lx_nil <| ?_
      -- L0.1
      refine IH1 _ _ (y + 1, o ||| (1 * 2 ^ y)) (agree_ups rfl agree_self) ⟨rfl, rfl, trivial⟩ ⟨rfl, ?_, ?_⟩ ?_
      · try dsimp only
        omega
      · try dsimp only
        rw [ho]; first | exact colN_set (by assumption) | exact colN_skip (by assumption)
      · first | omega | (dsimp only; omega)
    · refine wi_skip <| wi_inBlock <| wi_reg rfl <| lx_add (((y + 1 : Nat) : Int)) rfl rfl rfl (by omega) (by omega) (by omega) <| lx_move (.int .i64 ((y + 1 : Nat) : Int)) rfl rfl <| lx_nil <| ?_
      -- L0.2
      refine IH1 _ _ (y + 1, o) (agree_ups rfl agree_self) ⟨rfl, rfl, trivial⟩ ⟨rfl, ?_, ?_⟩ ?_
      · try dsimp only
        omega
      · try dsimp only
        rw [ho]; first | exact colN_set (by assumption) | exact colN_skip (by assumption)
      · first | omega | (dsimp only; omega)
  · refine lx_nil <| wi_seq <| wi_false rfl <| wi_exit rfl <| wi_seq <| wi_reg rfl <| lx_move (.int .i64 ((o : Nat) : Int)) rfl rfl <| lx_assign (.int .i64 ((o : Nat) : Int)) rfl rfl <| lx_nil <| ?_
    -- R1
    refine wi_ret ⟨.int .i64 ((o : Nat) : Int), (res_one rfl rfl), ⟨?_, rfl⟩⟩
    · rw [ho, show y = p.length from by omega]; rfl

set_option maxRecDepth 10000 in
theorem down_spec (h : Heap) (vp : Value) (hs : List Hdr) (p : List (List Bool)) (x : Nat) (hr_vp : RdE encHd h vp hs) (ht_vp : RT encB h hs p) (hp1 : p.length ≤ 12) (hp2 : Sq p p.length) (hp3 : x < p.length) : Fx Try.prog 81 [vp, .int .i64 ((x : Nat) : Int)] h (fun v h' => v = .int .i64 ((dnF p.length (pb p) x : Nat) : Int) ∧ h = h') := by
  have hl_vp := ht_vp.1
  refine fx_intro (n := 26) [(0, vp), (1, .int .i64 ((x : Nat) : Int))] Try.func81 rfl rfl (by simp) ⟨rfl, rfl, trivial⟩ fun g0 => ?_
  refine wi_seq <| wi_reg rfl <| lx_assign (.int .i64 0) rfl rfl <| lx_nil <| wi_seq <| wi_reg rfl <| lx_assign (.int .i64 0) rfl rfl <| lx_nil <| wi_seq <| wi_seq <| wi_reg rfl <| lx_move (vp) rfl rfl <| lx_len rfl Try.underlying29 hr_vp rfl <| lx_move (.int .i64 0) rfl rfl <| lx_nil <| wi_block <| ?_
  refine wi_loop (σ := Nat × Nat) (rngB 9 25 [5, 6]) (fun (ss : Nat × Nat) => [(9, .int .i64 ((ss.1 : Nat) : Int)), (5, .int .i64 ((ss.2 : Nat) : Int))]) (fun (ss : Nat × Nat) (hh : Heap) => h = hh ∧ (ss.1 ≤ p.length) ∧ (ss.2 = colN ss.1 (fun c => pb p c x))) (fun (ss : Nat × Nat) => p.length - ss.1) (0, 0) ⟨rfl, rfl, trivial⟩ ⟨rfl, ?_, ?_⟩ ?_
  · try dsimp only
    omega
  · try dsimp only
    first | done | rfl
  rintro g1 ⟨y, o⟩ hh1 ⟨rfl, hy, ho⟩ IH1
  dsimp only at *
  refine wi_seq <| wi_reg rfl <| lx_lssS rfl rfl rfl (fun c1 => ?_) (fun c1 => ?_)
  · refine lx_nil <| wi_seq <| wi_true rfl <| wi_skip <| wi_seq <| wi_block <| wi_seq <| wi_reg rfl <| lx_move (.int .i64 ((y : Nat) : Int)) rfl rfl <| lx_assign (.int .i64 ((y : Nat) : Int)) rfl rfl <| lx_nil <| wi_seq <| wi_reg rfl <| lx_move (vp) rfl rfl <| lx_move (.int .i64 ((y : Nat) : Int)) rfl rfl <| lx_ix (i := y) rfl eT29 hr_vp rfl rfl (by omega) <| lx_ld (i := y) (j := 0) ((gt hs y).v) rfl rfl fl70 hr_vp (by omega) rfl rfl <| lx_move (.int .i64 ((x : Nat) : Int)) rfl rfl <| lx_ix (i := x) rfl eT70 (ht_vp.2 y (by omega)) rfl rfl (by rw [hp2.2 y (by omega)]; omega) <| lx_ld (i := x) (j := 0) (.bool (gt (gt p y) x)) rfl rfl fl4 (ht_vp.2 y (by omega)) (by rw [hp2.2 y (by omega)]; omega) rfl rfl <| lx_nil <| wi_condS (t := gt (gt p y) x) rfl (fun c2 => ?_) (fun c2 => ?_)
    · refine wi_reg rfl <| ?_
      have hpw := pow12 (show y ≤ 12 by omega)
      have hpw1 := pow12 (show y + 1 ≤ 12 by omega)
      have hlt : o < 2 ^ y := by rw [ho]; exact colN_lt _ _
      have hor : o ||| 1 * 2 ^ y < 2 ^ (y + 1) := by rw [ho, colN_set (n := y) (g := fun c => pb p c x) (by assumption)]; exact colN_lt _ _
      refine lx_move (.int .i64 ((o : Nat) : Int)) rfl rfl <| lx_move (.int .i64 ((y : Nat) : Int)) rfl rfl <| lx_conv ((y : Nat) : Int) rfl Try.underlying3 Try.underlying45 rfl (wrap_u64 (by omega) (by omega)) <| lx_shl (m := 1) (n := y) rfl rfl rfl (by show _ ≤ 64; omega) (wrap_i64 (by omega) (by omega)) <| lx_or (m := o) (n := 1 * 2 ^ y) rfl rfl rfl (by show _ < 2 ^ 64; omega) (by show _ < 2 ^ 64; omega) (wrap_i64 (by omega) (by omega)) <| lx_assign (.int .i64 ((o ||| (1 * 2 ^ y) : Nat) : Int)) rfl rfl <| lx_nil <| wi_inBlock <| wi_reg rfl <| lx_add (((y + 1 : Nat) : Int)) rfl rfl rfl (by omega) (by omega) (by omega) <| lx_move (.int .i64 ((y + 1 : Nat) : Int)) rfl rfl <| lx_nil <| ?_
      -- L0.1
      refine IH1 _ _ (y + 1, o ||| (1 * 2 ^ y)) (agree_ups rfl agree_self) ⟨rfl, rfl, trivial⟩ ⟨rfl, ?_, ?_⟩ ?_
      · try dsimp only
        omega
      · try dsimp only
        rw [ho]; first | exact colN_set (by assumption) | exact colN_skip (by assumption)
      · first | omega | (dsimp only; omega)
    · refine wi_skip <| wi_inBlock <| wi_reg rfl <| lx_add (((y + 1 : Nat) : Int)) rfl rfl rfl (by omega) (by omega) (by omega) <| lx_move (.int .i64 ((y + 1 : Nat) : Int)) rfl rfl <| lx_nil <| ?_
      -- L0.2
      refine IH1 _ _ (y + 1, o) (agree_ups rfl agree_self) ⟨rfl, rfl, trivial⟩ ⟨rfl, ?_, ?_⟩ ?_
      · try dsimp only
        omega
      · try dsimp only
        rw [ho]; first | exact colN_set (by assumption) | exact colN_skip (by assumption)
      · first | omega | (dsimp only; omega)
  · refine lx_nil <| wi_seq <| wi_false rfl <| wi_exit rfl <| wi_seq <| wi_reg rfl <| lx_move (.int .i64 ((o : Nat) : Int)) rfl rfl <| lx_assign (.int .i64 ((o : Nat) : Int)) rfl rfl <| lx_nil <| ?_
    -- R1
    refine wi_ret ⟨.int .i64 ((o : Nat) : Int), (res_one rfl rfl), ⟨?_, rfl⟩⟩
    · rw [ho, show y = p.length from by omega]; rfl

end Go.Proofs.Ytdokijbdnajhgaa
namespace Go.X
section
variable {P : Program} {S : Heap → Prop} {kd : Oper → Kd} {ops : Array Oper} {rest : List Oper} {K : Env → Heap → Prop} {L : List (Nat × Value)} {b : Env} {h : Heap}
variable {d : Nat} {tx ty t : TypeId} {p : String} {af : Array Edge} {g : Option (Nat × Bool)} {x y : Operand}
theorem back_andZ {m : Int} {n : Nat} (hn : n < 2 ^ 64) : ((BitVec.ofInt 64 m &&& BitVec.ofInt 64 (n : Int)).toNat : Nat) = (ur m &&& n : Nat) := by
  rw [BitVec.toNat_and, BitVec.toNat_ofInt, BitVec.toNat_ofInt]
  congr 1
  show ((n : Int) % ((2 ^ 64 : Nat) : Int)).toNat = n
  rw [Int.emod_eq_of_lt (by omega) (by omega)]; simp
theorem lx_andZ {m : Int} {n : Nat} (hw : Region.wanted ⟨some d, .binOp .and tx x y ty, t, p, af, g⟩ (yieldE ops (ups L b)) = true) (hx : ev (ups L b) x = .int .i64 m) (hy : ev (ups L b) y = .int .i64 ((n : Nat) : Int)) (hn' : n < 2 ^ 63)
    (hn : Lx P S kd ops rest K (ups ((d, .int .i64 (((ur m &&& n : Nat) : Nat) : Int)) :: L) b) h) : Lx P S kd ops (⟨some d, .binOp .and tx x y ty, t, p, af, g⟩ :: rest) K (ups L b) h :=
  lx_free _ hw (fo_int hx hy fun w => by
    have hle : (ur m &&& n) ≤ n := Nat.and_le_right
    have hwr : IntKind.i64.wrap (((ur m &&& n : Nat) : Nat) : Int) = (((ur m &&& n : Nat) : Nat) : Int) := wrap_i64 (by omega) (by omega)
    have hb : ((BitVec.ofInt IntKind.i64.bits m &&& BitVec.ofInt IntKind.i64.bits (n : Int)).toNat : Nat) = (ur m &&& n : Nat) := back_andZ (by omega)
    simp only [binOp, Op.intBits, ne_eq, not_true_eq_false, if_false, hb, hwr]
    simp) hn
end
/-- All sets within 'm', rising. -/
def subs (m : Nat) : List Nat := (List.range (m + 1)).filter fun s => s &&& m == s
def nxS (s m : Nat) : Nat := ur ((s : Int) - (m : Int)) &&& m
def subsB (m : Nat) : Bool := decide (0 < (subs m).length ∧ gt (subs m) 0 = 0 ∧ gt (subs m) ((subs m).length - 1) = m) && (List.range ((subs m).length - 1)).all fun j => decide (nxS (gt (subs m) j) m = gt (subs m) (j + 1) ∧ gt (subs m) j ≠ m)
theorem subs_all : ((List.range 128).all subsB) = true := by decide +kernel
theorem subs_ok {m : Nat} (h : m < 128) : 0 < (subs m).length ∧ gt (subs m) 0 = 0 ∧ gt (subs m) ((subs m).length - 1) = m ∧ ∀ j, j + 1 < (subs m).length → nxS (gt (subs m) j) m = gt (subs m) (j + 1) ∧ gt (subs m) j ≠ m := by
  have h1 := rall_iff.1 subs_all m h
  unfold subsB at h1
  rw [Bool.and_eq_true, decide_eq_true_iff, rall_iff] at h1
  exact ⟨h1.1.1, h1.1.2.1, h1.1.2.2, fun j hj => by have := h1.2 j (by omega); rwa [decide_eq_true_iff] at this⟩
theorem mem_subs {m s : Nat} : s ∈ subs m ↔ s &&& m = s := by
  unfold subs
  rw [List.mem_filter, List.mem_range, beq_iff_eq]
  exact ⟨fun h => h.2, fun h => ⟨by have : s &&& m ≤ m := Nat.and_le_right; omega, h⟩⟩
theorem subs_le {m k : Nat} (h : k < (subs m).length) : gt (subs m) k ≤ m := by
  have := mem_subs.1 (gt_mem h)
  have h2 : gt (subs m) k &&& m ≤ m := Nat.and_le_right
  omega
/-- Whether the common parts with 'm' of a family are 's', too. -/
def trB (xs : List Int) (m s : Nat) : Bool := xs.any fun x => x.toNat &&& m == s
def shB (xs : List Int) (m : Nat) : Bool := (List.range (subs m).length).all fun k => trB xs m (gt (subs m) k)
def trBk (xs : List Int) (m k s : Nat) : Bool := (xs.take k).any fun x => x.toNat &&& m == s
theorem trBk_succ {xs : List Int} {m k s : Nat} (hk : k < xs.length) : trBk xs m (k + 1) s = (trBk xs m k s || ((gt xs k).toNat &&& m == s)) := by
  unfold trBk
  rw [List.take_add_one, gt_some hk, List.any_append]; simp
theorem trBk_all {xs : List Int} {m k s : Nat} (hk : k = xs.length) : trBk xs m k s = trB xs m s := by unfold trBk trB; rw [hk, List.take_length]
theorem filtF_len_yes {N : Nat} {f : Nat → Bool} (h : f N = true) : (filtF (N + 1) f).length = (filtF N f).length + 1 := by rw [← filtF_yes h]; simp
theorem filtF_len_no {N : Nat} {f : Nat → Bool} (h : f N = false) : (filtF (N + 1) f).length = (filtF N f).length := by rw [← filtF_no h]
theorem filtF_pre {f : Nat → Bool} {w : Nat} : ∀ d, ∃ r, filtF (w + d) f = filtF w f ++ r
  | 0 => ⟨[], by simp⟩
  | d + 1 => by
    obtain ⟨r, hr⟩ := filtF_pre (f := f) (w := w) d
    rw [show w + (d + 1) = (w + d) + 1 from rfl, filtF_succ, hr, List.append_assoc]
    exact ⟨_, rfl⟩
theorem filtF_at {N w : Nat} {f : Nat → Bool} (hw : w < N) (h : f w = true) : (filtF w f).length < (filtF N f).length ∧ gt (filtF N f) (filtF w f).length = (w : Int) := by
  obtain ⟨r, hr⟩ := filtF_pre (f := f) (w := w + 1) (N - (w + 1))
  rw [show w + 1 + (N - (w + 1)) = N from by omega, ← filtF_yes h] at hr
  rw [hr]
  refine ⟨by rw [List.length_append, List.length_append]; show _ < _ + 1 + _; omega, ?_⟩
  rw [gt_append_left (by rw [List.length_append]; show _ < _ + 1; omega), gt_append_right]
end Go.X
namespace Go.Proofs.Ytdokijbdnajhgaa
open Go Go.X

set_option maxRecDepth 10000 in
theorem within_spec (h : Heap) (w : Nat) : Fx Try.prog 150 [.int .i64 ((w : Nat) : Int)] h (fun v h' => ∃ (bm : Nat), v = .func (.func 172) #[] #[.pointer (some ⟨bm, 0, none⟩)] ∧ h.size ≤ bm ∧ Blk h' bm (#[.int .i64 ((w : Nat) : Int)]) 3 ∧ Ext h.size h h') := by
  refine fx_intro (n := 4) [(0, .int .i64 ((w : Nat) : Int))] Try.func150 rfl rfl (by simp) ⟨rfl, trivial⟩ fun g0 => ?_
  refine wi_seq <| wi_reg rfl <| lx_box #[.int .i64 ((w : Nat) : Int)] rfl rfl rfl (fun _ _ _ => trivial) fun bn1 h1 hbn1 hbk1 hx1 hsz1 => ?_
  have hbb1 : h.size ≤ bn1 := by have := (Nat.le_refl h.size); omega
  refine lx_assign (.nilFunc) rfl rfl <| lx_nil <| wi_seq <| wi_reg rfl <| lx_makeFunc [] [.pointer (some ⟨bn1, 0, none⟩)] rfl rfl rfl <| lx_assign (.func (.func 172) #[] #[.pointer (some ⟨bn1, 0, none⟩)]) rfl rfl <| lx_nil <| ?_
  -- R1
  refine wi_ret ⟨.func (.func 172) #[] #[.pointer (some ⟨bn1, 0, none⟩)], (res_one rfl rfl), ⟨bn1, rfl, ?_, hbk1, hx1⟩⟩
  · omega

set_option maxRecDepth 10000 in
theorem within1_seq (bm w : Nat) (hp1 : w < 128) : SeqC Try.prog 172 [.pointer (some ⟨bm, 0, none⟩)] 26 (fun h => Blk h bm #[.int .i64 ((w : Nat) : Int)] 3) ((subs w).length) (fun k => [.int .i64 ((gt (subs w) k : Nat) : Int)]) := by
  intro l h J hJS hCap hY h0
  obtain ⟨hv1, hv2, hv3, hv4⟩ := subs_ok hp1
  obtain hcp1 := hCap _ _ h0
  refine fx_intro (n := 17) [(0, .func (.yield l) #[] #[]), (1, .pointer (some ⟨bm, 0, none⟩))] Try.func172 rfl rfl (by simp) ⟨rfl, rfl, trivial⟩ fun g0 => ?_
  refine wi_seq <| wi_reg rfl <| lx_assign (.int .i64 0) rfl rfl <| lx_nil <| wi_block <| ?_
  refine wi_loop (σ := Nat × Nat) (rngB 3 17 []) (fun (ss : Nat × Nat) => [(3, .int .i64 ((ss.2 : Nat) : Int))]) (fun (ss : Nat × Nat) (hh : Heap) => h.size ≤ hh.size ∧ J ss.1 hh ∧ (ss.1 < (subs w).length) ∧ (ss.2 = gt (subs w) ss.1)) (fun (ss : Nat × Nat) => (subs w).length - ss.1) (0, 0) ⟨rfl, trivial⟩ ⟨(Nat.le_refl h.size), h0, ?_, ?_⟩ ?_
  · try dsimp only
    exact hv1
  · try dsimp only
    exact hv2.symm
  rintro g1 ⟨k, s⟩ hh1 ⟨hle1, hJ1, hk, hsj⟩ IH1
  dsimp only at *
  obtain hcp2 := hCap _ _ hJ1
  refine wi_seq <| wi_seq <| wi_reg rfl <| ?_
  have hle := subs_le hk
  rw [← hsj] at hle
  have hJk1 := hJ1
  have hy2 := hY _ _ (by omega) hJk1
  dsimp only at hy2
  rw [← hsj] at hy2
  refine lx_move (.func (.yield l) #[] #[]) rfl rfl <| lx_move (.int .i64 ((s : Nat) : Int)) rfl rfl <| lx_yield [.int .i64 ((s : Nat) : Int)] rfl rfl rfl rfl hy2 (fun _ _ => trivial) fun h1 ⟨hty1, hJ2⟩ => ?_
  have hle2 : h.size ≤ h1.size := Nat.le_trans hle1 hty1.1
  obtain hcp3 := hCap _ _ hJ2
  refine lx_move (.bool true) rfl rfl <| lx_move (.int .i64 ((s : Nat) : Int)) rfl rfl <| lx_ldB (.int .i64 ((w : Nat) : Int)) rfl rfl fl3 hcp3 rfl rfl <| lx_neqS rfl rfl rfl (fun c1 => ?_) (fun c1 => ?_)
  · refine lx_pick true (.bool true) rfl rfl rfl <| lx_nil <| wi_true rfl <| wi_skip <| wi_seq <| wi_block <| wi_skip <| wi_inBlock <| wi_reg rfl <| lx_move (.int .i64 ((s : Nat) : Int)) rfl rfl <| lx_ldB (.int .i64 ((w : Nat) : Int)) rfl rfl fl3 hcp3 rfl rfl <| lx_sub ((((s : Nat) : Int)) - (((w : Nat) : Int))) rfl rfl rfl (by omega) (by omega) (by omega) <| lx_ldB (.int .i64 ((w : Nat) : Int)) rfl rfl fl3 hcp3 rfl rfl <| lx_andZ (n := w) rfl rfl rfl (by show _ < 2 ^ 63; omega) <| ?_
    generalize hsn : ur ((((s : Nat) : Int)) - (((w : Nat) : Int))) &&& w = sn
    have hk1 : k + 1 < (subs w).length := by
      rcases Nat.lt_or_ge (k + 1) (subs w).length with h9 | h9
      · exact h9
      · exact absurd (hsj.trans (show gt (subs w) k = w from by rw [show k = (subs w).length - 1 from by omega]; exact hv3)) (by omega)
    have hs2n := hv4 k hk1
    have hs2e : sn = gt (subs w) (k + 1) := by rw [← hs2n.1, ← hsj, ← hsn]; rfl
    refine lx_assign (.int .i64 ((sn : Nat) : Int)) rfl rfl <| lx_nil <| ?_
    -- L0.1
    refine IH1 _ _ (k + 1, sn) (agree_ups rfl agree_self) ⟨rfl, trivial⟩ ⟨hle2, hJ2, ?_, ?_⟩ ?_
    · try dsimp only
      exact hk1
    · try dsimp only
      exact hs2e
    · first | omega | (dsimp only; omega)
  · refine lx_pick true (.bool false) rfl rfl rfl <| lx_nil <| wi_false rfl <| wi_exit rfl <| ?_
    -- R1
    refine wi_end ⟨.tuple #[], (res_none rfl), hle2, ?_⟩
    have hJk := hJ2
    rw [show (subs w).length = k + 1 from by
      rcases Nat.lt_or_ge (k + 1) (subs w).length with h9 | h9
      · exact absurd (show gt (subs w) k = w from by rw [← hsj]; omega) (hv4 k h9).2
      · omega]
    exact hJk

set_option maxRecDepth 10000 in
theorem trace_spec (h : Heap) (vl : Value) (xs : List Int) (w : Nat) (hr_vl : RdE encI h vl xs) (hp1 : xs.length ≤ 4096) (hp2 : ∀ i, i < xs.length → 0 ≤ gt xs i ∧ gt xs i < 1024) (hp3 : w < 1024) : Fx Try.prog 149 [vl, .int .i64 ((w : Nat) : Int)] h (fun v h' => ∃ (bs : List Bool), v = .agg (bc bs) ∧ (bs.length = 1024) ∧ (∀ s, s < 1024 → gt bs s = trB xs w s) ∧ Ext h.size h h') := by
  refine fx_intro (n := 20) [(0, vl), (1, .int .i64 ((w : Nat) : Int))] Try.func149 rfl rfl (by simp) ⟨rfl, rfl, trivial⟩ fun g0 => ?_
  refine wi_seq <| wi_reg rfl <| lx_alloc rfl rfl Try.zeroValue156 (fun _ _ _ => trivial) fun bn1 h1 hbn1 hbk1 hx1 hsz1 => ?_
  have hbb1 : h.size ≤ bn1 := by have := (Nat.le_refl h.size); omega
  have hbk1 : Blk h1 bn1 (bc (List.replicate 1024 false)) 156 := by rw [← zc156]; exact hbk1
  refine lx_nil <| wi_seq <| wi_reg rfl <| lx_alloc rfl rfl Try.zeroValue156 (fun _ _ _ => trivial) fun bn2 h2 hbn2 hbk2 hx2 hsz2 => ?_
  have hbb2 : h.size ≤ bn2 := by have := hx1.size; omega
  have hne1 : bn2 ≠ bn1 := by have := hbk1.lt; omega
  have hx0_1 := hx1.trans2 hx2 hx1.size
  have hb1 := hbk1.extS hx2
  have hbk2 : Blk h2 bn2 (bc (List.replicate 1024 false)) 156 := by rw [← zc156]; exact hbk2
  refine lx_nil <| wi_seq <| wi_seq <| wi_reg rfl <| lx_move (vl) rfl rfl <| lx_len rfl Try.underlying25 hr_vl rfl <| lx_move (.int .i64 0) rfl rfl <| lx_nil <| wi_block <| ?_
  refine wi_loop (σ := Nat × (List Bool)) (rngB 10 19 [7]) (fun (ss : Nat × (List Bool)) => [(10, .int .i64 ((ss.1 : Nat) : Int))]) (fun (ss : Nat × (List Bool)) (hh : Heap) => Blk hh bn2 (bc ss.2) 156 ∧ Blk hh bn1 (bc (List.replicate 1024 false)) 156 ∧ Ext h.size h hh ∧ (ss.1 ≤ xs.length) ∧ (ss.2.length = 1024) ∧ (∀ s, s < 1024 → gt ss.2 s = trBk xs w ss.1 s)) (fun (ss : Nat × (List Bool)) => xs.length - ss.1) (0, List.replicate 1024 false) ⟨rfl, trivial⟩ ⟨?_, ?_, hx0_1, ?_, ?_, ?_⟩ ?_
  · exact hbk2
  · exact hb1
  · try dsimp only
    omega
  · try dsimp only
    simp
  · try dsimp only
    intro s hs; rw [gt_replicate hs]; rfl
  rintro g1 ⟨k, bs⟩ hh1 ⟨hbk3, hbk4, hx0_2, hk, hbl, hbs⟩ IH1
  dsimp only at *
  refine wi_seq <| wi_reg rfl <| lx_lssS rfl rfl rfl (fun c1 => ?_) (fun c1 => ?_)
  · refine lx_nil <| wi_seq <| wi_true rfl <| wi_skip <| wi_seq <| wi_block <| wi_seq <| wi_reg rfl <| ?_
    obtain ⟨a, hga, ha4⟩ : ∃ a : Nat, gt xs k = (a : Int) ∧ a < 1024 := ⟨(gt xs k).toNat, by have := hp2 k (by omega); omega, by have := hp2 k (by omega); omega⟩
    have haw : a &&& w ≤ w := Nat.and_le_right
    refine lx_ix (i := k) rfl eT25 hr_vl rfl rfl (by omega) <| lx_ld (i := k) (j := 0) (.int .i64 ((a : Nat) : Int)) rfl rfl fl3 (hr_vl.extS hx0_2) (by omega) (by show some (Value.int .i64 (gt xs k)) = _; rw [hga]) rfl <| lx_assign (.int .i64 ((a : Nat) : Int)) rfl rfl <| lx_nil <| wi_reg rfl <| lx_move (.int .i64 ((a : Nat) : Int)) rfl rfl <| lx_move (.int .i64 ((w : Nat) : Int)) rfl rfl <| lx_and (m := a) (n := w) rfl rfl rfl (by show _ < 2 ^ 64; omega) (by show _ < 2 ^ 64; omega) (wrap_i64 (by omega) (by omega)) <| lx_ixB (i := a &&& w) ((a &&& w)) rfl Try.underlying156 Try.sizeOf4 rfl rfl (by omega) (by omega) <| lx_stB (.bool true) rfl rfl Try.sizeOf4 hbk3 (by rw [bc_size]; first | omega | (simp only [List.length_set, List.length_append, List.length_cons, List.length_nil, List.length_replicate, List.length_take, swp_length, exch_length]; omega)) rfl rfl rfl rfl (fun _ _ _ _ => trivial) fun h3 hbk5 hc1 => ?_
    have hx0_3 := hx0_2.trans (hc1.ext hbb2)
    have hb2 := hc1.blk hbk4 (Ne.symm hne1)
    rw [bc_set] at hbk5
    refine lx_nil <| wi_inBlock <| wi_reg rfl <| lx_add (((k + 1 : Nat) : Int)) rfl rfl rfl (by omega) (by omega) (by omega) <| lx_move (.int .i64 ((k + 1 : Nat) : Int)) rfl rfl <| lx_nil <| ?_
    -- L0.1
    refine IH1 _ _ (k + 1, bs.set ((a &&& w)) true) (agree_ups rfl agree_self) ⟨rfl, trivial⟩ ⟨?_, ?_, hx0_3, ?_, ?_, ?_⟩ ?_
    · exact hbk5
    · exact hb2
    · try dsimp only
      omega
    · try dsimp only
      simpa using hbl
    · try dsimp only
      intro s hs
      rw [trBk_succ (by omega), gt_set (by omega), hbs s hs, hga, Int.toNat_natCast]
      by_cases e : s = a &&& w
      · rw [if_pos e, e]; simp
      · rw [if_neg e, beq_eq_false_iff_ne.2 (Ne.symm e), Bool.or_false]
    · first | omega | (dsimp only; omega)
  · refine lx_nil <| wi_seq <| wi_false rfl <| wi_exit rfl <| wi_seq <| wi_reg rfl <| lx_ldBA rfl rfl wd156 hbk3 (by rw [bc_size]; first | omega | (simp; done) | (simp; omega)) rfl <| lx_stBA (bc bs) rfl rfl Try.sizeOf156 hbk4 (by rw [bc_size]; first | omega | (simp; done) | (simp; omega)) (by rw [bc_size]; first | omega | (simp; done) | (simp; omega)) rfl rfl (bc_one _) (fun _ _ _ _ => trivial) fun h4 hbk6 hc2 => ?_
    have hx0_4 := hx0_2.trans (hc2.ext hbb1)
    have hb3 := hc2.blk hbk3 hne1
    refine lx_nil <| ?_
    -- R1
    refine wi_ret ⟨.agg (bc bs), (res_cell rfl rfl hbk6 wd156 (by rw [bc_size]; first | omega | (simp; done) | (simp; omega))), ⟨bs, rfl, ?_, ?_, hx0_4⟩⟩
    · exact hbl
    · intro s hs; rw [hbs s hs, trBk_all (by omega)]

set_option maxRecDepth 10000 in
theorem shattered_spec (h : Heap) (n : Nat) (vl : Value) (xs : List Int) (hr_vl : RdE encI h vl xs) : Fx Try.prog 118 [.int .i64 ((n : Nat) : Int), vl] h (fun v h' => ∃ (bn : Nat) (bl : Nat), v = .func (.func 148) #[] #[.pointer (some ⟨bn, 0, none⟩), .pointer (some ⟨bl, 0, none⟩)] ∧ h.size ≤ bn ∧ Blk h' bn (#[.int .i64 ((n : Nat) : Int)]) 3 ∧ h.size ≤ bl ∧ Blk h' bl (#[vl]) 25 ∧ Ext h.size h h') := by
  refine fx_intro (n := 6) [(0, .int .i64 ((n : Nat) : Int)), (1, vl)] Try.func118 rfl rfl (by simp) ⟨rfl, rfl, trivial⟩ fun g0 => ?_
  refine wi_seq <| wi_reg rfl <| lx_box #[.int .i64 ((n : Nat) : Int)] rfl rfl rfl (fun _ _ _ => trivial) fun bn1 h1 hbn1 hbk1 hx1 hsz1 => ?_
  have hbb1 : h.size ≤ bn1 := by have := (Nat.le_refl h.size); omega
  refine lx_box #[vl] rfl rfl (sl_cells hr_vl) (fun _ _ _ => trivial) fun bn2 h2 hbn2 hbk2 hx2 hsz2 => ?_
  have hbb2 : h.size ≤ bn2 := by have := hx1.size; omega
  have hne1 : bn2 ≠ bn1 := by have := hbk1.lt; omega
  have hx0_1 := hx1.trans2 hx2 hx1.size
  have hb1 := hbk1.extS hx2
  refine lx_assign (.nilFunc) rfl rfl <| lx_nil <| wi_seq <| wi_reg rfl <| lx_makeFunc [] [.pointer (some ⟨bn1, 0, none⟩), .pointer (some ⟨bn2, 0, none⟩)] rfl rfl rfl <| lx_assign (.func (.func 148) #[] #[.pointer (some ⟨bn1, 0, none⟩), .pointer (some ⟨bn2, 0, none⟩)]) rfl rfl <| lx_nil <| ?_
  -- R1
  refine wi_ret ⟨.func (.func 148) #[] #[.pointer (some ⟨bn1, 0, none⟩), .pointer (some ⟨bn2, 0, none⟩)], (res_one rfl rfl), ⟨bn1, bn2, rfl, ?_, hb1, ?_, hbk2, hx0_1⟩⟩
  · omega
  · omega

end Go.Proofs.Ytdokijbdnajhgaa
namespace Go.Proofs.Ytdokijbdnajhgaa
open Go Go.X

set_option maxRecDepth 10000 in
theorem shattered1_seq (bn bl n : Nat) (vl : Value) (xs : List Int) (hp1 : n ≤ 7) (hp2 : xs.length ≤ 4096) (hp3 : ∀ i, i < xs.length → 0 ≤ gt xs i ∧ gt xs i < 1024) : SeqC Try.prog 148 [.pointer (some ⟨bn, 0, none⟩), .pointer (some ⟨bl, 0, none⟩)] 26 (fun h => Blk h bn #[.int .i64 ((n : Nat) : Int)] 3 ∧ Blk h bl #[vl] 25 ∧ RdE encI h vl xs) ((filtF (2 ^ n) (shB xs)).length) (fun k => [.int .i64 (gt (filtF (2 ^ n) (shB xs)) k)]) := by
  intro l h J hJS hCap hY h0
  have hpw : 2 ^ n ≤ 128 := Nat.pow_le_pow_right (by omega : 0 < 2) hp1
  obtain ⟨hcp1, hcp2, hcp3⟩ := hCap _ _ h0
  refine fx_intro (n := 34) [(0, .func (.yield l) #[] #[]), (1, .pointer (some ⟨bn, 0, none⟩)), (2, .pointer (some ⟨bl, 0, none⟩))] Try.func148 rfl rfl (by simp) ⟨rfl, rfl, rfl, trivial⟩ fun g0 => ?_
  refine wi_seq <| wi_reg rfl <| lx_ldB (.int .i64 ((n : Nat) : Int)) rfl rfl fl3 hcp1 rfl rfl <| lx_conv ((n : Nat) : Int) rfl Try.underlying3 Try.underlying45 rfl (wrap_u64 (by omega) (by omega)) <| lx_shl (m := 1) (n := n) rfl rfl rfl (by show _ ≤ 64; omega) (wrap_i64 (by omega) (by omega)) <| lx_move (.int .i64 0) rfl rfl <| lx_nil <| wi_block <| ?_
  have hds9 : ([] : List Nat).map markD = [] := rfl
  refine wi_loopD (σ := Nat × (List Nat)) (rngB 20 34 [4, 5, 6, 7, 11, 12, 13, 14, 15, 16, 17, 18]) (fun (ss : Nat × (List Nat)) => [(11, .int .i64 ((ss.1 : Nat) : Int))]) (fun (ss : Nat × (List Nat)) => ss.2) (fun (ss : Nat × (List Nat)) (hh : Heap) => h.size ≤ hh.size ∧ J ((filtF ss.1 (shB xs)).length) hh ∧ DsOk ss.2 hh ∧ (∀ d ∈ ss.2, h.size ≤ d) ∧ ss.2.Nodup ∧ (ss.1 ≤ 2 ^ n)) (fun (ss : Nat × (List Nat)) => 2 ^ n - ss.1) (0, []) ⟨rfl, trivial⟩ ⟨(Nat.le_refl h.size), h0, (DsOk.nil _), (fun d hd9 => by cases hd9), List.nodup_nil, ?_⟩ ?_
  · try dsimp only
    exact Nat.zero_le _
  rintro g1 ⟨w, ds⟩ hh1 ⟨hle1, hJ1, hdd1, hdb1, hdn1, hw⟩ IH1
  dsimp only at *
  obtain ⟨hcp4, hcp5, hcp6⟩ := hCap _ _ hJ1
  have hlt1 : ∀ d ∈ ds, d < hh1.size := fun d hd9 => (Array.getElem?_eq_some_iff.1 (hdd1 d hd9)).1
  refine wi_seq <| wi_reg rfl <| lx_lssS rfl rfl rfl (fun c1 => ?_) (fun c1 => ?_)
  · refine lx_nil <| wi_seq <| wi_true rfl <| wi_skip <| wi_seq <| wi_block <| wi_seq <| wi_reg rfl <| lx_move (.int .i64 ((w : Nat) : Int)) rfl rfl <| lx_assign (.int .i64 ((w : Nat) : Int)) rfl rfl <| lx_nil <| wi_seq <| wi_reg rfl <| lx_ldB (vl) rfl rfl fl25 hcp5 rfl rfl <| lx_move (.int .i64 ((w : Nat) : Int)) rfl rfl <| lx_call [vl, .int .i64 ((w : Nat) : Int)] rfl rfl Try.call149 rfl (trace_spec hh1 vl xs w hcp6 (by omega) (by first | with_reducible assumption | omega) (by omega)) (fun _ _ _ => trivial) ?_
    rintro _ h1 ⟨bs, rfl, hbl, hbs, hx1⟩
    have hch1 := (Qk.of_ext hx1 : Qk 26 (hh1).size _ _)
    have hsz_hch1 := hch1.1
    have hch2 := Nc.of_ext hx1
    have hsz_hch2 := hch2.1
    have hx0_1 := hx1.mono hle1
    have hb1 := hcp4.extS hx1
    have hb2 := hcp5.extS hx1
    have hxr1 := (Ext.refl hh1.size hh1).trans2 hx1 (Ext.refl hh1.size hh1).size
    refine lx_alloc rfl rfl Try.zeroValue156 (fun _ _ _ => trivial) fun bn1 h2 hbn1 hbk1 hx2 hsz1 => ?_
    have hbb1 : h.size ≤ bn1 := by have := (Nat.le_trans hle1 hx0_1.size); omega
    have hne1 : bn1 ≠ bn := by have := hb1.lt; omega
    have hne2 : bn1 ≠ bl := by have := hb2.lt; omega
    have hch3 := hch1.trans ((Qk.of_ext hx2 : Qk 26 (hh1).size _ _))
    have hsz_hch3 := hch3.1
    have hch4 := hch2.trans (Nc.of_ext hx2)
    have hsz_hch4 := hch4.1
    have hx0_2 := hx0_1.trans (hx2.mono (Nat.le_trans hle1 hx0_1.size))
    have hb3 := hb1.extS hx2
    have hb4 := hb2.extS hx2
    have hxr2 := hxr1.trans2 hx2 hxr1.size
    have hbk1 : Blk h2 bn1 (bc (List.replicate 1024 false)) 156 := by rw [← zc156]; exact hbk1
    refine lx_stBA (bc bs) rfl rfl Try.sizeOf156 hbk1 (by rw [bc_size]; first | omega | (simp; done) | (simp; omega)) (by rw [bc_size]; first | omega | (simp; done) | (simp; omega)) rfl rfl (bc_one _) (fun _ _ _ _ => trivial) fun h3 hbk2 hc1 => ?_
    have hch5 := hch3.trans ((Qk.of_new hc1 (by omega) : Qk 26 (hh1).size _ _))
    have hsz_hch5 := hch5.1
    have hch6 := hch4.trans (Nc.of_chgB hc1 hbk1)
    have hsz_hch6 := hch6.1
    have hx0_3 := hx0_2.trans (hc1.ext hbb1)
    have hb5 := hc1.blk hb3 (Ne.symm hne1)
    have hb6 := hc1.blk hb4 (Ne.symm hne2)
    have hxr3 := hxr2.trans (hc1.ext (by omega))
    refine lx_nil <| wi_seq <| wi_reg rfl <| lx_alloc rfl rfl Try.zeroValue4 (fun _ _ _ => trivial) fun bn2 h4 hbn2 hbk3 hx3 hsz2 => ?_
    have hbb2 : h.size ≤ bn2 := by have := (Nat.le_trans hle1 hx0_3.size); omega
    have hne3 : bn2 ≠ bn := by have := hb5.lt; omega
    have hne4 : bn2 ≠ bl := by have := hb6.lt; omega
    have hne5 : bn2 ≠ bn1 := by have := hbk2.lt; omega
    have hch7 := hch5.trans ((Qk.of_ext hx3 : Qk 26 (hh1).size _ _))
    have hsz_hch7 := hch7.1
    have hch8 := hch6.trans (Nc.of_ext hx3)
    have hsz_hch8 := hch8.1
    have hx0_4 := hx0_3.trans (hx3.mono (Nat.le_trans hle1 hx0_3.size))
    have hb7 := hb5.extS hx3
    have hb8 := hb6.extS hx3
    have hb9 := hbk2.extS hx3
    have hxr4 := hxr3.trans2 hx3 hxr3.size
    have hbk3 : Blk h4 bn2 #[.bool false] 4 := hbk3
    refine lx_stB (.bool true) rfl rfl Try.sizeOf4 hbk3 (by simp) rfl rfl rfl rfl (fun _ _ _ _ => trivial) fun h5 hbk4 hc2 => ?_
    have hch9 := hch7.trans ((Qk.of_new hc2 (by omega) : Qk 26 (hh1).size _ _))
    have hsz_hch9 := hch9.1
    have hch10 := hch8.trans (Nc.of_chgB hc2 hbk3)
    have hsz_hch10 := hch10.1
    have hx0_5 := hx0_4.trans (hc2.ext hbb2)
    have hb10 := hc2.blk hb7 (Ne.symm hne3)
    have hb11 := hc2.blk hb8 (Ne.symm hne4)
    have hb12 := hc2.blk hb9 (Ne.symm hne5)
    have hxr5 := hxr4.trans (hc2.ext (by omega))
    have hbk4 : Blk h5 bn2 #[.bool true] 4 := hbk4
    refine lx_nil <| wi_seq <| wi_seq <| wi_reg rfl <| lx_move (.int .i64 ((w : Nat) : Int)) rfl rfl <| lx_call [.int .i64 ((w : Nat) : Int)] rfl rfl Try.call150 rfl (within_spec h5 w ) (fun _ _ _ => trivial) ?_
    rintro _ h6 ⟨bm, rfl, ho1, hot1, hx4⟩
    have hch11 := hch9.trans ((Qk.of_ext hx4 : Qk 26 (hh1).size _ _))
    have hsz_hch11 := hch11.1
    have hch12 := hch10.trans (Nc.of_ext hx4)
    have hsz_hch12 := hch12.1
    have hx0_6 := hx0_5.trans (hx4.mono (Nat.le_trans hle1 hx0_5.size))
    have hb13 := hb10.extS hx4
    have hb14 := hb11.extS hx4
    have hb15 := hb12.extS hx4
    have hb16 := hbk4.extS hx4
    have hxr6 := hxr5.trans2 hx4 hxr5.size
    have hbx1 : h.size ≤ bm := Nat.le_trans (Nat.le_trans hle1 hx0_5.size) ho1
    refine lx_nil <| wi_block <| ?_
    refine wi_range (Ds := ds) (gf := 172) (lb := [.pointer (some ⟨bm, 0, none⟩)]) Try.call172 rfl (fun l1 D1 h7 rc1 hlD1 hll1 hDl1 hx5 hlr1 hDr1 hLo1 => ?_)
    have hbl1 : h.size ≤ l1 := Nat.le_trans (Nat.le_trans hle1 hx0_6.size) hll1
    have hbD1 : h.size ≤ D1 := Nat.le_trans (Nat.le_trans hle1 hx0_6.size) hlD1
    have hch13 := hch11.trans ((Qk.of_ext hx5 : Qk 26 (hh1).size _ _))
    have hsz_hch13 := hch13.1
    have hch14 := hch12.trans (Nc.of_ext hx5)
    have hsz_hch14 := hch14.1
    have hx0_7 := hx0_6.trans (hx5.mono (Nat.le_trans hle1 hx0_6.size))
    have hb17 := hb13.extS hx5
    have hb18 := hb14.extS hx5
    have hb19 := hb15.extS hx5
    have hb20 := hb16.extS hx5
    have hb21 := hot1.extS hx5
    have hxr7 := hxr6.trans2 hx5 hxr6.size
    refine Fx.mono (within1_seq bm w (by omega) l1 h7 (fun j hh => hh[l1]? = some (.loop rc1) ∧ DsOk (D1 :: ds) hh ∧ ∃ (a : Bool), Quiet 26 h.size hh1 hh ∧ Blk hh bn1 (bc bs) 156 ∧ Blk hh bn2 #[.bool a] 4 ∧ Blk hh bm #[.int .i64 ((w : Nat) : Int)] 3 ∧ (bm ≠ bn2) ∧ (a = (List.range j).all fun q => trB xs w (gt (subs w) q))) ?_ ?_ ?_ ?_) ?_
    · rintro j ha hb9 ⟨hr9, hd9, a, hjq1, hbk5, hbk6, hbk7, hnm, ha⟩ hq1
      exact ⟨hq1.obj hr9 (Array.getElem?_eq_some_iff.1 hlr1).1, hq1.dso hd9 (fun d hd8 => (Array.getElem?_eq_some_iff.1 (DsOk.cons hDr1 (hdd1.nc (hch12.trans (Nc.of_ext hx5))) d hd8)).1), a, hq1.up hjq1 (Nat.le_trans hle1 hx0_7.size), hq1.blk hbk5 (by decide), hq1.blk hbk6 (by decide), hq1.blk hbk7 (by decide), hnm, ha⟩
    · rintro j ha ⟨hr9, hd9, a, hjq2, hbk8, hbk9, hbk10, hnm, ha⟩
      exact hbk10
    · rintro j ha1 hk1 ⟨hr1, hd1, a, hjq3, hbk11, hbk12, hbk13, hnm, ha⟩
      refine yield_ok hLo1 hr1 rfl (by decide) ?_
      refine wi_forget [(5, .pointer (some ⟨bn1, 0, none⟩)), (6, .pointer (some ⟨bn2, 0, none⟩)), (19, .int .i64 ((gt (subs w) j : Nat) : Int))] ⟨rfl, rfl, rfl, trivial⟩ fun g2 => ?_
      refine wi_reg rfl <| lx_assign (.int .i64 ((gt (subs w) j : Nat) : Int)) rfl rfl <| lx_nil <| ?_
      refine wi_begin hr1 hLo1.st (fun h8 hc3 hbu1 => ?_)
      have hcel1 := cel_loop hc3 hr1
      have hch15 := hjq3.2.trans (Qk.of_loop hc3 hr1 : Qk 26 (hh1).size _ _)
      have hx0_8 := hjq3.1.trans (hc3.ext hbl1)
      have hb22 := hcel1.blk hbk11
      have hb23 := hcel1.blk hbk12
      have hb24 := hcel1.blk hbk13
      have hch16 := (Tk.of_loop hc3 hr1 : Tk 26 _ _)
      have hd2 := hd1.chgL hr1 hc3
      refine wi_block <| wi_reg rfl <| ?_
      have hsl := subs_le hk1
      refine lx_ldB (.bool a) rfl rfl fl4 hb23 rfl rfl <| lx_move (.bool a) rfl rfl <| ?_
      cases c2 : a
      · refine lx_skip rfl <| lx_skip rfl <| lx_skip rfl <| lx_pick false (.bool false) rfl rfl rfl <| lx_stB (.bool false) rfl rfl Try.sizeOf4 hb23 (by simp) rfl rfl rfl rfl (fun _ _ _ _ => trivial) fun h9 hbk14 hc4 => ?_
        have hch17 := hch16.trans ((Tk.of_chgB hc4 hb23 (by decide) : Tk 26 _ _))
        have hsz_hch17 := hch17.1
        have hch18 := Nc.of_chgB hc4 hb23
        have hsz_hch18 := hch18.1
        have hch19 := hch15.trans ((Qk.of_new hc4 (by omega) : Qk 26 (hh1).size _ _))
        have hsz_hch19 := hch19.1
        have hx0_9 := hx0_8.trans (hc4.ext hbb2)
        have hb25 := hc4.blk hb22 (Ne.symm hne5)
        have hb26 := hc4.blk hb24 (by omega)
        have hbk14 : Blk h9 bn2 #[.bool false] 4 := hbk14
        refine lx_nil <| wi_inBlock <| ?_
        have hbu2 := (nc_loop hch18 hbu1)
        have hd3 := (hd2.nc hch18)
        -- Q2.1
        refine wi_end ⟨rfl, hbu2, fun h10 hc5 hlr2 => ?_⟩
        have hcel2 := cel_loop hc5 hbu2
        have hch20 := hch19.trans (Qk.of_loop hc5 hbu2 : Qk 26 (hh1).size _ _)
        have hx0_10 := hx0_9.trans (hc5.ext hbl1)
        have hb27 := hcel2.blk hb25
        have hb28 := hcel2.blk hbk14
        have hb29 := hcel2.blk hb26
        refine ⟨hch17.trans (Tk.of_loop hc5 hbu2), hlr2, hd3.chgL hbu2 hc5, (false), (⟨hx0_10, hch20⟩ : Quiet 26 h.size hh1 h10), ?_, ?_, ?_, ?_, ?_⟩
        · exact hb27
        · exact hb28
        · exact hb29
        · try dsimp only
          omega
        · try dsimp only
          rw [rall_succ, ← ha]
          first
          | (rw [show a = false from by assumption]; rfl)
          | (rw [show a = true from by assumption, hbs _ (by omega)]; rfl)
      · refine lx_move (.int .i64 ((gt (subs w) j : Nat) : Int)) rfl rfl <| lx_ixB (i := gt (subs w) j) ((gt (subs w) j)) rfl Try.underlying156 Try.sizeOf4 rfl rfl (by omega) (by omega) <| lx_ldB (.bool (gt bs ((gt (subs w) j)))) rfl rfl fl4 hb22 (bc_get (by omega)) rfl <| lx_pick true (.bool (gt bs ((gt (subs w) j)))) rfl rfl rfl <| lx_stB (.bool (gt bs ((gt (subs w) j)))) rfl rfl Try.sizeOf4 hb23 (by simp) rfl rfl rfl rfl (fun _ _ _ _ => trivial) fun h11 hbk15 hc6 => ?_
        have hch21 := hch16.trans ((Tk.of_chgB hc6 hb23 (by decide) : Tk 26 _ _))
        have hsz_hch21 := hch21.1
        have hch22 := Nc.of_chgB hc6 hb23
        have hsz_hch22 := hch22.1
        have hch23 := hch15.trans ((Qk.of_new hc6 (by omega) : Qk 26 (hh1).size _ _))
        have hsz_hch23 := hch23.1
        have hx0_11 := hx0_8.trans (hc6.ext hbb2)
        have hb30 := hc6.blk hb22 (Ne.symm hne5)
        have hb31 := hc6.blk hb24 (by omega)
        have hbk15 : Blk h11 bn2 #[.bool (gt bs ((gt (subs w) j)))] 4 := hbk15
        refine lx_nil <| wi_inBlock <| ?_
        have hbu3 := (nc_loop hch22 hbu1)
        have hd4 := (hd2.nc hch22)
        -- Q2.2
        refine wi_end ⟨rfl, hbu3, fun h12 hc7 hlr3 => ?_⟩
        have hcel3 := cel_loop hc7 hbu3
        have hch24 := hch23.trans (Qk.of_loop hc7 hbu3 : Qk 26 (hh1).size _ _)
        have hx0_12 := hx0_11.trans (hc7.ext hbl1)
        have hb32 := hcel3.blk hb30
        have hb33 := hcel3.blk hbk15
        have hb34 := hcel3.blk hb31
        refine ⟨hch21.trans (Tk.of_loop hc7 hbu3), hlr3, hd4.chgL hbu3 hc7, (gt bs ((gt (subs w) j))), (⟨hx0_12, hch24⟩ : Quiet 26 h.size hh1 h12), ?_, ?_, ?_, ?_, ?_⟩
        · exact hb32
        · exact hb33
        · exact hb34
        · try dsimp only
          omega
        · try dsimp only
          rw [rall_succ, ← ha]
          first
          | (rw [show a = false from by assumption]; rfl)
          | (rw [show a = true from by assumption, hbs _ (by omega)]; rfl)
    · refine ⟨hlr1, DsOk.cons hDr1 (hdd1.nc (hch12.trans (Nc.of_ext hx5))), (true), (⟨hx0_7, hch13⟩ : Quiet 26 h.size hh1 h7), ?_, ?_, ?_, ?_, ?_⟩
      · exact hb19
      · exact hb20
      · exact hb21
      · try dsimp only
        have h8 := hbk4.lt; omega
      · try dsimp only
        first | done | rfl
    rintro _ h13 ⟨_, hr2, hd5, a, hjq4, hbk16, hbk17, hbk18, hnm, ha⟩
    refine ⟨hr2, fun h14 hc8 => ?_⟩
    have hcel4 := cel_loop hc8 hr2
    have hch25 := hjq4.2.trans (Qk.of_loop hc8 hr2 : Qk 26 (hh1).size _ _)
    have hx0_13 := hjq4.1.trans (hc8.ext hbl1)
    have hb35 := hcel4.blk hbk16
    have hb36 := hcel4.blk hbk17
    have hb37 := hcel4.blk hbk18
    have hd6 := hd5.chgL hr2 hc8
    have hbDs1 : ∀ d ∈ D1 :: ds, h.size ≤ d := fun d hd9 => by
      rw [List.mem_cons] at hd9
      rcases hd9 with rfl | hd9
      · exact hbD1
      · exact hdb1 d hd9
    have hnd1 : (D1 :: ds).Nodup := List.nodup_cons.2 ⟨fun hd9 => (by have := hlt1 _ hd9; omega), hdn1⟩
    have hlt2 : ∀ d ∈ D1 :: ds, d < h14.size := fun d hd9 => (Array.getElem?_eq_some_iff.1 (hd6 d hd9)).1
    refine wi_inBlock <| wi_seq <| wi_reg rfl <| ?_
    have hsh : a = shB xs w := ha
    refine lx_ldB (.bool a) rfl rfl fl4 hb36 rfl rfl <| lx_move (.bool a) rfl rfl <| ?_
    cases c3 : a
    · refine lx_skip rfl <| lx_skip rfl <| lx_skip rfl <| lx_skip rfl <| lx_pick false (.bool false) rfl rfl rfl <| lx_nil <| wi_false rfl <| wi_skip <| wi_inBlock <| wi_reg rfl <| lx_add (((w + 1 : Nat) : Int)) rfl rfl rfl (by omega) (by omega) (by omega) <| lx_move (.int .i64 ((w + 1 : Nat) : Int)) rfl rfl <| lx_nil <| ?_
      -- L0.1
      refine IH1 _ _ (w + 1, D1 :: ds) (agree_ups rfl agree_self) ⟨rfl, trivial⟩ ⟨(Nat.le_trans hle1 hx0_13.size), (by first | (rw [filtF_len_yes (by rw [← hsh]; assumption)]; exact (hJS _ _ _ hJ1 ⟨hx0_13, hch25⟩)) | (rw [filtF_len_no (by rw [← hsh]; assumption)]; exact (hJS _ _ _ hJ1 ⟨hx0_13, hch25⟩))), hd6, hbDs1, hnd1, ?_⟩ ?_
      · try dsimp only
        omega
      · first | omega | (dsimp only; omega)
    · have hJk1 := (hJS _ _ _ hJ1 ⟨hx0_13, hch25⟩)
      have hy2 := hY _ _ (filtF_at (by omega) (by rw [← hsh]; assumption)).1 hJk1
      dsimp only at hy2
      rw [(filtF_at (f := shB xs) (show w < 2 ^ n by omega) (by rw [← hsh]; assumption)).2] at hy2
      refine lx_move (.func (.yield l) #[] #[]) rfl rfl <| lx_move (.int .i64 ((w : Nat) : Int)) rfl rfl <| lx_yield [.int .i64 ((w : Nat) : Int)] rfl rfl rfl rfl hy2 (fun _ _ => trivial) fun h15 ⟨hty1, hJ2⟩ => ?_
      have hle2 : h.size ≤ h15.size := Nat.le_trans (Nat.le_trans hle1 hx0_13.size) hty1.1
      have hd7 := hty1.dso hd6
      obtain ⟨hcp7, hcp8, hcp9⟩ := hCap _ _ hJ2
      refine lx_notB false rfl rfl rfl <| lx_pick true (.bool false) rfl rfl rfl <| lx_nil <| wi_false rfl <| wi_skip <| wi_inBlock <| wi_reg rfl <| lx_add (((w + 1 : Nat) : Int)) rfl rfl rfl (by omega) (by omega) (by omega) <| lx_move (.int .i64 ((w + 1 : Nat) : Int)) rfl rfl <| lx_nil <| ?_
      -- L0.2
      refine IH1 _ _ (w + 1, D1 :: ds) (agree_ups rfl agree_self) ⟨rfl, trivial⟩ ⟨hle2, (by first | (rw [filtF_len_yes (by rw [← hsh]; assumption)]; exact hJ2) | (rw [filtF_len_no (by rw [← hsh]; assumption)]; exact hJ2)), hd7, hbDs1, hnd1, ?_⟩ ?_
      · try dsimp only
        omega
      · first | omega | (dsimp only; omega)
  · refine lx_nil <| wi_seq <| wi_false rfl <| wi_exit rfl <| ?_
    -- R1
    have hd8 := hdd1
    refine wi_endD (Ds := ds) hdn1 hd8 (fun h16 hcel5 hsz3 hbb3 => ?_)
    have hx0_14 := ext_marks2 (Ext.refl _ _) hd8 hdb1 hsz3 hbb3
    have hch26 := (Qk.of_marks hd8 hsz3 hbb3 : Qk 26 (hh1).size _ _)
    refine ⟨.tuple #[], (res_none rfl), (Nat.le_trans hle1 hx0_14.size), ?_⟩
    have hJk := (hJS _ _ _ hJ1 ⟨hx0_14, hch26⟩)
    rw [show 2 ^ n = w from by omega]; exact hJk

set_option maxRecDepth 10000 in
theorem appendSeq_spec (h : Heap) (n : Nat) (vl : Value) (xs : List Int) (bn : Nat) (bl : Nat) (hb_bn : Blk h bn (#[.int .i64 ((n : Nat) : Int)]) 3) (hb_bl : Blk h bl (#[vl]) 25) (hr_vl : RdE encI h vl xs) (hp1 : n ≤ 7) (hp2 : xs.length ≤ 4096) (hp3 : ∀ i, i < xs.length → 0 ≤ gt xs i ∧ gt xs i < 1024) : Fx Try.prog 147 [.slice none 0 0, .func (.func 148) #[] #[.pointer (some ⟨bn, 0, none⟩), .pointer (some ⟨bl, 0, none⟩)]] h (fun v h' => ∃ (s : Value), v = s ∧ OwE encI h' h.size 3 s (filtF (2 ^ n) (shB xs)) ∧ Ext h.size h h') := by
  refine fx_intro (n := 13) [(0, .slice none 0 0), (1, .func (.func 148) #[] #[.pointer (some ⟨bn, 0, none⟩), .pointer (some ⟨bl, 0, none⟩)])] Try.func147 rfl rfl (by simp) ⟨rfl, rfl, trivial⟩ fun g0 => ?_
  refine wi_seq <| wi_reg rfl <| lx_box #[.slice none 0 0] rfl rfl rfl (fun _ _ _ => trivial) fun bn1 h1 hbn1 hbk1 hx1 hsz1 => ?_
  have hbb1 : h.size ≤ bn1 := by have := (Nat.le_refl h.size); omega
  have hne1 : bn1 ≠ bn := by have := hb_bn.lt; omega
  have hne2 : bn1 ≠ bl := by have := hb_bl.lt; omega
  have hb1 := hb_bn.extS hx1
  have hb2 := hb_bl.extS hx1
  refine lx_assign (.slice none 0 0) rfl rfl <| lx_nil <| wi_seq <| wi_seq <| wi_reg rfl <| lx_move (.func (.func 148) #[] #[.pointer (some ⟨bn, 0, none⟩), .pointer (some ⟨bl, 0, none⟩)]) rfl rfl <| lx_nil <| wi_block <| ?_
  refine wi_range (Ds := []) (gf := 148) (lb := [.pointer (some ⟨bn, 0, none⟩), .pointer (some ⟨bl, 0, none⟩)]) Try.call148 rfl (fun l1 D1 h2 rc1 hlD1 hll1 hDl1 hx2 hlr1 hDr1 hLo1 => ?_)
  have hbl1 : h.size ≤ l1 := Nat.le_trans hx1.size hll1
  have hbD1 : h.size ≤ D1 := Nat.le_trans hx1.size hlD1
  have hx0_1 := hx1.trans2 hx2 hx1.size
  have hb3 := hb1.extS hx2
  have hb4 := hb2.extS hx2
  have hb5 := hbk1.extS hx2
  refine Fx.mono (shattered1_seq bn bl n vl xs hp1 hp2 hp3 l1 h2 (fun k hh => hh[l1]? = some (.loop rc1) ∧ DsOk (D1 :: []) hh ∧ ∃ (v : Value), Blk hh bn1 #[v] 25 ∧ OwE encI hh h.size 3 v ((filtF (2 ^ n) (shB xs)).take k) ∧ Ext h.size h hh) ?_ ?_ ?_ ?_) ?_
  · rintro k ha hb9 ⟨hr9, hd9, v, hbk2, ho1, hx0_2⟩ hq1
    exact ⟨hq1.obj hr9 (Array.getElem?_eq_some_iff.1 hlr1).1, hq1.dso hd9 (fun d hd8 => (Array.getElem?_eq_some_iff.1 (DsOk.cons hDr1 (DsOk.nil _) d hd8)).1), v, hq1.blk hbk2 (by decide), hq1.owE ho1 (by decide), hq1.ext hx0_2 hx0_1.size⟩
  · rintro k ha ⟨hr9, hd9, v, hbk3, ho2, hx0_3⟩
    exact ⟨hb_bn.extS hx0_3, hb_bl.extS hx0_3, hr_vl.extS hx0_3⟩
  · rintro k ha1 hk1 ⟨hr1, hd1, v, hbk4, ho3, hx0_4⟩
    refine yield_ok hLo1 hr1 rfl (by decide) ?_
    refine wi_forget [(2, .pointer (some ⟨bn1, 0, none⟩)), (7, .int .i64 (gt (filtF (2 ^ n) (shB xs)) k))] ⟨rfl, rfl, trivial⟩ fun g1 => ?_
    refine wi_reg rfl <| lx_assign (.int .i64 (gt (filtF (2 ^ n) (shB xs)) k)) rfl rfl <| lx_nil <| ?_
    refine wi_begin hr1 hLo1.st (fun h3 hc1 hbu1 => ?_)
    have hcel1 := cel_loop hc1 hr1
    have hx0_5 := hx0_4.trans (hc1.ext hbl1)
    have ho4 := hcel1.owE ho3
    have hb6 := hcel1.blk hbk4
    have hch1 := (Tk.of_loop hc1 hr1 : Tk 26 _ _)
    have hd2 := hd1.chgL hr1 hc1
    refine wi_block <| wi_reg rfl <| ?_
    have hpw : 2 ^ n ≤ 128 := Nat.pow_le_pow_right (by omega : 0 < 2) hp1
    have hfl := filtF_length (2 ^ n) (shB xs)
    have htk : ((filtF (2 ^ n) (shB xs)).take k).length = k := by rw [List.length_take]; omega
    refine lx_ldB (v) rfl rfl fl25 hb6 rfl rfl <| lx_move (.int .i64 (gt (filtF (2 ^ n) (shB xs)) k)) rfl rfl <| lx_appendL (E := encI) (B := h.size) [gt (filtF (2 ^ n) (shB xs)) k] [.int .i64 (gt (filtF (2 ^ n) (shB xs)) k)] rfl rfl (fun _ => rfl) rfl eT25 rfl rfl rfl rfl ho4 (fun _ => rfl) (by show ((filtF (2 ^ n) (shB xs)).take k).length + 1 ≤ _; omega) (by show (((filtF (2 ^ n) (shB xs)).take k).length + 1) * 8 ≤ _; omega) hx0_5.size (fun _ _ => trivial) fun u1 v1 h4 ho5 hc2 hg1 => ?_
    have hch2 := hch1.trans ((Tk.of_chg hc2 ho4 (by decide) : Tk 26 _ _))
    have hsz_hch2 := hch2.1
    have hch3 := Nc.of_chg hc2 ho4
    have hsz_hch3 := hch3.1
    have hx0_6 := hx0_5.trans (ho4.ext hc2 hx0_5.size)
    have hb7 := hb6.chg hc2 (nb_ty ho4 hb6 (by decide))
    refine lx_stB (v1) rfl rfl Try.sizeOf25 hb7 (by simp) rfl rfl (sl_cells ho5.rd) (sl_one ho5.rd) (fun _ _ _ _ => trivial) fun h5 hbk5 hc3 => ?_
    have hch4 := hch2.trans ((Tk.of_chgB hc3 hb7 (by decide) : Tk 26 _ _))
    have hsz_hch4 := hch4.1
    have hch5 := hch3.trans (Nc.of_chgB hc3 hb7)
    have hsz_hch5 := hch5.1
    have hx0_7 := hx0_6.trans (hc3.ext hbb1)
    have ho6 := hc3.owE ho5 (nb_ty ho5 hb7 (by decide))
    have hbk5 : Blk h5 bn1 #[v1] 25 := hbk5
    refine lx_nil <| wi_inBlock <| ?_
    have hbu2 := (nc_loop hch5 hbu1)
    have hd3 := (hd2.nc hch5)
    -- Q0.1
    refine wi_end ⟨rfl, hbu2, fun h6 hc4 hlr2 => ?_⟩
    have hcel2 := cel_loop hc4 hbu2
    have hx0_8 := hx0_7.trans (hc4.ext hbl1)
    have ho7 := hcel2.owE ho6
    have hb8 := hcel2.blk hbk5
    refine ⟨hch4.trans (Tk.of_loop hc4 hbu2), hlr2, hd3.chgL hbu2 hc4, (v1), ?_, ?_, hx0_8⟩
    · exact hb8
    · rw [List.take_add_one, gt_some hk1]; exact ho7
  · refine ⟨hlr1, DsOk.cons hDr1 (DsOk.nil _), (.slice none 0 0), ?_, ?_, hx0_1⟩
    · exact hb5
    · rw [List.take_zero]; exact (owE_nil encI _ h.size 3)
  rintro _ h7 ⟨_, hr2, hd4, v, hbk6, ho8, hx0_9⟩
  refine ⟨hr2, fun h8 hc5 => ?_⟩
  have hcel3 := cel_loop hc5 hr2
  have hx0_10 := hx0_9.trans (hc5.ext hbl1)
  have ho9 := hcel3.owE ho8
  have hb9 := hcel3.blk hbk6
  have hd5 := hd4.chgL hr2 hc5
  have hbDs1 : ∀ d ∈ D1 :: [], h.size ≤ d := fun d hd9 => by
    rw [List.mem_cons] at hd9
    rcases hd9 with rfl | hd9
    · exact hbD1
    · exact (fun d hd9 => by cases hd9) d hd9
  have hnd1 : (D1 :: []).Nodup := List.nodup_cons.2 ⟨fun hd9 => (by cases hd9), List.nodup_nil⟩
  have hlt1 : ∀ d ∈ D1 :: [], d < h8.size := fun d hd9 => (Array.getElem?_eq_some_iff.1 (hd5 d hd9)).1
  refine wi_inBlock <| wi_seq <| wi_reg rfl <| lx_ldB (v) rfl rfl fl25 hb9 rfl rfl <| lx_assign (v) rfl rfl <| lx_nil <| ?_
  -- R1
  have hd6 := hd5
  refine wi_retD (Ds := D1 :: []) hnd1 hd6 (fun h9 hcel4 hsz2 hbb2 => ?_)
  have hx0_11 := ext_marks2 hx0_10 hd6 hbDs1 hsz2 hbb2
  have ho10 := hcel4.owE ho9
  have hb10 := hcel4.blk hb9
  refine ⟨v, (res_one rfl rfl), ⟨v, rfl, ?_, hx0_11⟩⟩
  · rw [List.take_length] at *; exact ho10

set_option maxRecDepth 10000 in
theorem collect_spec (h : Heap) (n : Nat) (vl : Value) (xs : List Int) (bn : Nat) (bl : Nat) (hb_bn : Blk h bn (#[.int .i64 ((n : Nat) : Int)]) 3) (hb_bl : Blk h bl (#[vl]) 25) (hr_vl : RdE encI h vl xs) (hp1 : n ≤ 7) (hp2 : xs.length ≤ 4096) (hp3 : ∀ i, i < xs.length → 0 ≤ gt xs i ∧ gt xs i < 1024) : Fx Try.prog 117 [.func (.func 148) #[] #[.pointer (some ⟨bn, 0, none⟩), .pointer (some ⟨bl, 0, none⟩)]] h (fun v h' => ∃ (s : Value), v = s ∧ OwE encI h' h.size 3 s (filtF (2 ^ n) (shB xs)) ∧ Ext h.size h h') := by
  refine fx_intro (n := 5) [(0, .func (.func 148) #[] #[.pointer (some ⟨bn, 0, none⟩), .pointer (some ⟨bl, 0, none⟩)])] Try.func117 rfl rfl (by simp) ⟨rfl, trivial⟩ fun g0 => ?_
  refine wi_seq <| wi_reg rfl <| lx_assign (.slice none 0 0) rfl rfl <| lx_nil <| wi_seq <| wi_reg rfl <| lx_move (.func (.func 148) #[] #[.pointer (some ⟨bn, 0, none⟩), .pointer (some ⟨bl, 0, none⟩)]) rfl rfl <| lx_call [.slice none 0 0, .func (.func 148) #[] #[.pointer (some ⟨bn, 0, none⟩), .pointer (some ⟨bl, 0, none⟩)]] rfl rfl Try.call147 rfl (appendSeq_spec h n vl xs bn bl hb_bn hb_bl hr_vl (by omega) (by omega) (by first | with_reducible assumption | omega)) (fun _ _ _ => trivial) ?_
  rintro v1 h1 ⟨_, rfl, ho1, hx1⟩
  have hb1 := hb_bn.extS hx1
  have hb2 := hb_bl.extS hx1
  have ho2 := ho1.base (Nat.le_refl h.size)
  refine lx_assign (v1) rfl rfl <| lx_nil <| ?_
  -- R1
  refine wi_ret ⟨v1, (res_one rfl rfl), ⟨v1, rfl, ho2, hx1⟩⟩

/-- What shat.Check answers. -/
def chkS (n : Int) (xs : List Int) : Int := if n < 0 ∨ 10 < n then 1 else if (∀ i, i < xs.length → (if i = 0 then -1 else gt xs (i - 1)) < gt xs i ∧ gt xs i < ((2 ^ n.toNat : Nat) : Int)) then 0 else 80
theorem chkS_size {n : Int} {xs : List Int} (h : n < 0 ∨ 10 < n) : chkS n xs = 1 := if_pos h
theorem chkS_bad {n : Int} {xs : List Int} {i : Nat} (h : ¬ (n < 0 ∨ 10 < n)) (hi : i < xs.length) (hb : ¬ ((if i = 0 then -1 else gt xs (i - 1)) < gt xs i ∧ gt xs i < ((2 ^ n.toNat : Nat) : Int))) : chkS n xs = 80 := by
  unfold chkS; rw [if_neg h, if_neg fun h9 => hb (h9 i hi)]
theorem chkS_ok {n : Int} {xs : List Int} (h : ¬ (n < 0 ∨ 10 < n)) (hb : ∀ i, i < xs.length → (if i = 0 then -1 else gt xs (i - 1)) < gt xs i ∧ gt xs i < ((2 ^ n.toNat : Nat) : Int)) : chkS n xs = 0 := by
  unfold chkS; rw [if_neg h, if_pos hb]
theorem chkS_zero {n : Int} {xs : List Int} (h : chkS n xs = 0) : 0 ≤ n ∧ n ≤ 10 ∧ ∀ i, i < xs.length → (if i = 0 then -1 else gt xs (i - 1)) < gt xs i ∧ gt xs i < ((2 ^ n.toNat : Nat) : Int) := by
  unfold chkS at h
  split at h
  · cases h
  · split at h
    · rename_i h1 h2; exact ⟨by omega, by omega, h2⟩
    · cases h
theorem chkS_nonneg {n : Int} {xs : List Int} (h : ∀ i, i < xs.length → (if i = 0 then -1 else gt xs (i - 1)) < gt xs i ∧ gt xs i < ((2 ^ n.toNat : Nat) : Int)) : ∀ i, i < xs.length → 0 ≤ gt xs i
  | 0, hi => by have := (h 0 hi).1; rw [if_pos rfl] at this; omega
  | i + 1, hi => by have h1 := (h (i + 1) hi).1; rw [if_neg (by omega)] at h1; have h2 := chkS_nonneg h i (by omega); rw [show i + 1 - 1 = i from rfl] at h1; omega

set_option maxRecDepth 10000 in
theorem shcheck_spec (h : Heap) (n : Int) (vl : Value) (xs : List Int) (hr_vl : RdE encI h vl xs) (hp1 : xs.length ≤ 4611686018427387904) : Fx Try.prog 72 [.int .i64 n, vl] h (fun v h' => v = .int .i64 (chkS n xs) ∧ h = h') := by
  refine fx_intro (n := 32) [(0, .int .i64 n), (1, vl)] Try.func72 rfl rfl (by simp) ⟨rfl, rfl, trivial⟩ fun g0 => ?_
  refine wi_seq <| wi_reg rfl <| lx_assign (.int .i64 0) rfl rfl <| lx_nil <| wi_seq <| wi_seq <| wi_reg rfl <| lx_move (.int .i64 n) rfl rfl <| lx_lssS rfl rfl rfl (fun c1 => ?_) (fun c1 => ?_)
  · refine lx_move (.bool true) rfl rfl <| lx_skip rfl <| lx_skip rfl <| lx_pick true (.bool true) rfl rfl rfl <| lx_nil <| wi_true rfl <| wi_seq <| wi_reg rfl <| lx_assign (.int .i64 1) rfl rfl <| lx_nil <| ?_
    -- R1
    refine wi_ret ⟨.int .i64 1, (res_one rfl rfl), ⟨?_, rfl⟩⟩
    · congr 1
      first
      | rw [chkS_size (by omega)]
      | (rw [chkS_bad (i := i) hn1 (by omega) (by rw [← hla, Int.toNat_natCast]; omega)]; done)
      | rw [chkS_ok hn1 fun j hj => hall j (by omega)]
  · refine lx_move (.bool false) rfl rfl <| lx_move (.int .i64 n) rfl rfl <| lx_gtrS rfl rfl rfl (fun c2 => ?_) (fun c2 => ?_)
    · refine lx_pick false (.bool true) rfl rfl rfl <| lx_nil <| wi_true rfl <| wi_seq <| wi_reg rfl <| lx_assign (.int .i64 1) rfl rfl <| lx_nil <| ?_
      -- R2
      refine wi_ret ⟨.int .i64 1, (res_one rfl rfl), ⟨?_, rfl⟩⟩
      · congr 1
        first
        | rw [chkS_size (by omega)]
        | (rw [chkS_bad (i := i) hn1 (by omega) (by rw [← hla, Int.toNat_natCast]; omega)]; done)
        | rw [chkS_ok hn1 fun j hj => hall j (by omega)]
    · refine lx_pick false (.bool false) rfl rfl rfl <| lx_nil <| wi_false rfl <| wi_skip <| wi_seq <| wi_reg rfl <| ?_
      have hn1 : ¬ (n < 0 ∨ 10 < n) := by omega
      obtain ⟨m, rfl⟩ : ∃ m : Nat, n = ((m : Nat) : Int) := ⟨n.toNat, by omega⟩
      have hpw := pow10 (show m ≤ 10 by omega)
      refine lx_assign (.int .i64 (-1)) rfl rfl <| lx_nil <| wi_seq <| wi_seq <| wi_reg rfl <| lx_move (vl) rfl rfl <| lx_len rfl Try.underlying25 hr_vl rfl <| lx_move (.int .i64 0) rfl rfl <| lx_nil <| wi_block <| ?_
      refine wi_loop (σ := Nat × Int) (rngB 16 32 [4, 5, 7]) (fun (ss : Nat × Int) => [(16, .int .i64 ((ss.1 : Nat) : Int)), (5, .int .i64 ss.2)]) (fun (ss : Nat × Int) (hh : Heap) => h = hh ∧ (ss.1 ≤ xs.length) ∧ (ss.2 = if ss.1 = 0 then -1 else gt xs (ss.1 - 1)) ∧ (∀ j, j < ss.1 → (if j = 0 then -1 else gt xs (j - 1)) < gt xs j ∧ gt xs j < ((2 ^ m : Nat) : Int))) (fun (ss : Nat × Int) => xs.length - ss.1) (0, -1) ⟨rfl, rfl, trivial⟩ ⟨rfl, ?_, ?_, ?_⟩ ?_
      · try dsimp only
        omega
      · try dsimp only
        first | done | rfl
      · try dsimp only
        intro j hj; omega
      rintro g1 ⟨i, la⟩ hh1 ⟨rfl, hi, hla, hall⟩ IH1
      dsimp only at *
      refine wi_seq <| wi_reg rfl <| lx_lssS rfl rfl rfl (fun c3 => ?_) (fun c3 => ?_)
      · refine lx_nil <| wi_seq <| wi_true rfl <| wi_skip <| wi_seq <| wi_block <| wi_seq <| wi_reg rfl <| lx_ix (i := i) rfl eT25 hr_vl rfl rfl (by omega) <| lx_ld (i := i) (j := 0) (.int .i64 (gt xs i)) rfl rfl fl3 hr_vl (by omega) rfl rfl <| lx_assign (.int .i64 (gt xs i)) rfl rfl <| lx_nil <| wi_seq <| wi_seq <| wi_reg rfl <| lx_move (.int .i64 (gt xs i)) rfl rfl <| lx_move (.int .i64 la) rfl rfl <| lx_leqS rfl rfl rfl (fun c4 => ?_) (fun c4 => ?_)
        · refine lx_move (.bool true) rfl rfl <| lx_skip rfl <| lx_skip rfl <| lx_skip rfl <| lx_skip rfl <| lx_skip rfl <| lx_pick true (.bool true) rfl rfl rfl <| lx_nil <| wi_true rfl <| wi_seq <| wi_reg rfl <| lx_assign (.int .i64 80) rfl rfl <| lx_nil <| ?_
          -- R3
          refine wi_ret ⟨.int .i64 80, (res_one rfl rfl), ⟨?_, rfl⟩⟩
          · congr 1
            first
            | rw [chkS_size (by omega)]
            | (rw [chkS_bad (i := i) hn1 (by omega) (by rw [← hla, Int.toNat_natCast]; omega)]; done)
            | rw [chkS_ok hn1 fun j hj => hall j (by omega)]
        · refine lx_move (.bool false) rfl rfl <| lx_move (.int .i64 (gt xs i)) rfl rfl <| lx_move (.int .i64 ((m : Nat) : Int)) rfl rfl <| lx_conv ((m : Nat) : Int) rfl Try.underlying3 Try.underlying45 rfl (wrap_u64 (by omega) (by omega)) <| lx_shl (m := 1) (n := m) rfl rfl rfl (by show _ ≤ 64; omega) (wrap_i64 (by omega) (by omega)) <| lx_geqS rfl rfl rfl (fun c5 => ?_) (fun c5 => ?_)
          · refine lx_pick false (.bool true) rfl rfl rfl <| lx_nil <| wi_true rfl <| wi_seq <| wi_reg rfl <| lx_assign (.int .i64 80) rfl rfl <| lx_nil <| ?_
            -- R4
            refine wi_ret ⟨.int .i64 80, (res_one rfl rfl), ⟨?_, rfl⟩⟩
            · congr 1
              first
              | rw [chkS_size (by omega)]
              | (rw [chkS_bad (i := i) hn1 (by omega) (by rw [← hla, Int.toNat_natCast]; omega)]; done)
              | rw [chkS_ok hn1 fun j hj => hall j (by omega)]
          · refine lx_pick false (.bool false) rfl rfl rfl <| lx_nil <| wi_false rfl <| wi_skip <| wi_reg rfl <| lx_move (.int .i64 (gt xs i)) rfl rfl <| lx_assign (.int .i64 (gt xs i)) rfl rfl <| lx_nil <| wi_inBlock <| wi_reg rfl <| lx_add (((i + 1 : Nat) : Int)) rfl rfl rfl (by omega) (by omega) (by omega) <| lx_move (.int .i64 ((i + 1 : Nat) : Int)) rfl rfl <| lx_nil <| ?_
            -- L0.1
            refine IH1 _ _ (i + 1, gt xs i) (agree_ups rfl agree_self) ⟨rfl, rfl, trivial⟩ ⟨rfl, ?_, ?_, ?_⟩ ?_
            · try dsimp only
              omega
            · try dsimp only
              first | done | rfl
            · try dsimp only
              intro j hj
              by_cases e : j = i
              · subst e; rw [← hla]; exact ⟨by omega, by omega⟩
              · exact hall j (by omega)
            · first | omega | (dsimp only; omega)
      · refine lx_nil <| wi_seq <| wi_false rfl <| wi_exit rfl <| wi_seq <| wi_reg rfl <| lx_assign (.int .i64 0) rfl rfl <| lx_nil <| ?_
        -- R5
        refine wi_ret ⟨.int .i64 0, (res_one rfl rfl), ⟨?_, rfl⟩⟩
        · congr 1
          first
          | rw [chkS_size (by omega)]
          | (rw [chkS_bad (i := i) hn1 (by omega) (by rw [← hla, Int.toNat_natCast]; omega)]; done)
          | rw [chkS_ok hn1 fun j hj => hall j (by omega)]

set_option maxRecDepth 10000 in
theorem shattered_all_spec (h : Heap) (n : Nat) (vl : Value) (xs : List Int) (hr_vl : RdE encI h vl xs) (hp1 : n ≤ 7) (hp2 : xs.length ≤ 4096) : Fx Try.prog 67 [.int .i64 ((n : Nat) : Int), vl] h (fun v h' => ∃ (s : Value) (ys : List Int), v = .tuple #[s, .int .i64 (chkS n xs)] ∧ OwE encI h' h.size 3 s ys ∧ ((chkS n xs ≠ 0 ∧ ys = []) ∨ (chkS n xs = 0 ∧ ys = filtF (2 ^ n) (shB xs))) ∧ Ext h.size h h') := by
  refine fx_intro (n := 17) [(0, .int .i64 ((n : Nat) : Int)), (1, vl)] Try.func67 rfl rfl (by simp) ⟨rfl, rfl, trivial⟩ fun g0 => ?_
  refine wi_seq <| wi_reg rfl <| lx_assign (.slice none 0 0) rfl rfl <| lx_assign (.int .i64 0) rfl rfl <| lx_nil <| wi_seq <| wi_seq <| wi_reg rfl <| lx_move (.int .i64 ((n : Nat) : Int)) rfl rfl <| lx_move (vl) rfl rfl <| lx_call [.int .i64 ((n : Nat) : Int), vl] rfl rfl Try.call72 rfl (shcheck_spec h (((n : Nat) : Int)) vl xs hr_vl (by omega)) (fun _ _ _ => trivial) ?_
  rintro _ h1 ⟨rfl, rfl⟩
  refine lx_assign (.int .i64 (chkS (((n : Nat) : Int)) xs)) rfl rfl <| lx_nil <| wi_seq <| wi_reg rfl <| lx_move (.int .i64 (chkS (((n : Nat) : Int)) xs)) rfl rfl <| lx_neqS rfl rfl rfl (fun c1 => ?_) (fun c1 => ?_)
  · refine lx_nil <| wi_true rfl <| wi_seq <| wi_reg rfl <| lx_move (.int .i64 (chkS (((n : Nat) : Int)) xs)) rfl rfl <| lx_assign (.slice none 0 0) rfl rfl <| lx_assign (.int .i64 (chkS (((n : Nat) : Int)) xs)) rfl rfl <| lx_nil <| ?_
    -- R1
    refine wi_ret ⟨.tuple #[.slice none 0 0, .int .i64 (chkS (((n : Nat) : Int)) xs)], (res_two rfl rfl rfl), ⟨.slice none 0 0, [], ?_, (owE_nil encI _ h.size 3), ?_, (Ext.refl _ _)⟩⟩
    · first | rfl | (simp; done) | (simp; omega)
    · exact .inl ⟨by omega, rfl⟩
  · refine lx_nil <| wi_false rfl <| wi_skip <| wi_seq <| wi_reg rfl <| ?_
    obtain ⟨_, _, hz3⟩ := chkS_zero (n := n) (xs := xs) (by omega)
    have hz4 := chkS_nonneg hz3
    have hz5 : ∀ i, i < xs.length → 0 ≤ gt xs i ∧ gt xs i < 1024 := fun i hi => ⟨hz4 i hi, by have := (hz3 i hi).2; rw [Int.toNat_natCast] at this; have h9 := pow10 (show n ≤ 10 by omega); omega⟩
    refine lx_move (.int .i64 ((n : Nat) : Int)) rfl rfl <| lx_move (vl) rfl rfl <| lx_call [.int .i64 ((n : Nat) : Int), vl] rfl rfl Try.call118 rfl (shattered_spec h n vl xs hr_vl) (fun _ _ _ => trivial) ?_
    rintro _ h2 ⟨bn_1, bl_1, rfl, ho1, hot1, ho2, hot2, hx1⟩
    have hbx1 : h.size ≤ bn_1 := Nat.le_trans (Nat.le_refl h.size) ho1
    have hbx2 : h.size ≤ bl_1 := Nat.le_trans (Nat.le_refl h.size) ho2
    refine lx_call [.func (.func 148) #[] #[.pointer (some ⟨bn_1, 0, none⟩), .pointer (some ⟨bl_1, 0, none⟩)]] rfl rfl Try.call117 rfl (collect_spec h2 n vl xs bn_1 bl_1 hot1 hot2 (hr_vl.extS hx1) (by omega) (by omega) hz5) (fun _ _ _ => trivial) ?_
    rintro v1 h3 ⟨_, rfl, ho3, hx2⟩
    have hx0_1 := hx1.trans2 hx2 hx1.size
    have hb1 := hot1.extS hx2
    have hb2 := hot2.extS hx2
    have ho4 := ho3.base hx1.size
    refine lx_assign (v1) rfl rfl <| lx_assign (.int .i64 0) rfl rfl <| lx_nil <| ?_
    -- R2
    refine wi_ret ⟨.tuple #[v1, .int .i64 0], (res_two rfl rfl rfl), ⟨v1, filtF (2 ^ n) (shB xs), ?_, ho4, ?_, hx0_1⟩⟩
    · rw [show chkS n xs = 0 from by omega]
    · exact .inr ⟨by omega, rfl⟩

end Go.Proofs.Ytdokijbdnajhgaa
namespace Go.Proofs.Ytdokijbdnajhgaa
open Go Go.X

set_option maxRecDepth 10000 in
theorem ideals_spec (h : Heap) (vp : Value) (hs : List Hdr) (p : List (List Bool)) (hr_vp : RdE encHd h vp hs) (ht_vp : RT encB h hs p) (hp1 : p.length ≤ 12) (hp2 : Sq p p.length) : Fx Try.prog 76 [vp] h (fun v h' => ∃ (s : Value), v = s ∧ OwE encI h' h.size 3 s (idealsF p.length (pb p)) ∧ Ext h.size h h') := by
  have hl_vp := ht_vp.1
  refine fx_intro (n := 44) [(0, vp)] Try.func76 rfl rfl (by simp) ⟨rfl, trivial⟩ fun g0 => ?_
  refine wi_seq <| wi_reg rfl <| lx_assign (.slice none 0 0) rfl rfl <| lx_nil <| wi_seq <| wi_reg rfl <| lx_assign (.slice none 0 0) rfl rfl <| lx_nil <| wi_seq <| wi_seq <| wi_reg rfl <| ?_
  have hpw := pow12 hp1
  have hpe : 2 ^ hs.length = 2 ^ p.length := by rw [hl_vp]
  refine lx_move (vp) rfl rfl <| lx_len rfl Try.underlying29 hr_vp rfl <| lx_conv ((hs.length : Nat) : Int) rfl Try.underlying3 Try.underlying45 rfl (wrap_u64 (by omega) (by omega)) <| lx_shl (m := 1) (n := hs.length) rfl rfl rfl (by show _ ≤ 64; omega) (wrap_i64 (by omega) (by omega)) <| lx_move (.int .i64 0) rfl rfl <| lx_nil <| wi_block <| ?_
  refine wi_loop (σ := Nat × Value × (List Int)) (rngB 11 43 [3, 4, 5, 6]) (fun (ss : Nat × Value × (List Int)) => [(11, .int .i64 ((ss.1 : Nat) : Int)), (3, ss.2.1)]) (fun (ss : Nat × Value × (List Int)) (hh : Heap) => OwE encI hh h.size 3 ss.2.1 ss.2.2 ∧ Ext h.size h hh ∧ (ss.1 ≤ 2 ^ p.length) ∧ (ss.2.2 = filtF ss.1 (idlB p.length (pb p)))) (fun (ss : Nat × Value × (List Int)) => 2 ^ p.length - ss.1) (0, .slice none 0 0, []) ⟨rfl, rfl, trivial⟩ ⟨?_, (Ext.refl _ _), ?_, ?_⟩ ?_
  · first | exact (owE_nil encI _ h.size 3) | (simpa using (owE_nil encI _ h.size 3))
  · try dsimp only
    exact Nat.zero_le _
  · try dsimp only
    first | done | rfl
  rintro g1 ⟨t, v, xs⟩ hh1 ⟨ho1, hx0_1, hsl, hxs⟩ IH1
  dsimp only at *
  refine wi_seq <| wi_reg rfl <| lx_lssS rfl rfl rfl (fun c1 => ?_) (fun c1 => ?_)
  · refine lx_nil <| wi_seq <| wi_true rfl <| wi_skip <| wi_seq <| wi_block <| wi_seq <| wi_reg rfl <| lx_move (.int .i64 ((t : Nat) : Int)) rfl rfl <| lx_assign (.int .i64 ((t : Nat) : Int)) rfl rfl <| lx_nil <| wi_seq <| wi_reg rfl <| ?_
    have hxl : xs.length ≤ t := by rw [hxs]; exact filtF_length _ _
    refine lx_assign (.bool true) rfl rfl <| lx_nil <| wi_seq <| wi_seq <| wi_reg rfl <| lx_move (vp) rfl rfl <| lx_len rfl Try.underlying29 hr_vp rfl <| lx_move (.int .i64 0) rfl rfl <| lx_nil <| wi_block <| ?_
    refine wi_loop (σ := Nat × Bool) (rngB 16 37 [5, 6]) (fun (ss : Nat × Bool) => [(16, .int .i64 ((ss.1 : Nat) : Int)), (5, .bool ss.2)]) (fun (ss : Nat × Bool) (hh : Heap) => hh1 = hh ∧ (ss.1 ≤ p.length) ∧ (ss.2 = (List.range ss.1).all (fun q => !t.testBit q || incl (dnF p.length (pb p) q) t))) (fun (ss : Nat × Bool) => p.length - ss.1) (0, true) ⟨rfl, rfl, trivial⟩ ⟨rfl, ?_, ?_⟩ ?_
    · try dsimp only
      omega
    · try dsimp only
      first | done | rfl
    rintro g2 ⟨x, w⟩ hh2 ⟨rfl, hx, hw⟩ IH2
    dsimp only at *
    refine wi_seq <| wi_reg rfl <| lx_lssS rfl rfl rfl (fun c2 => ?_) (fun c2 => ?_)
    · refine lx_nil <| wi_seq <| wi_true rfl <| wi_skip <| wi_seq <| wi_block <| wi_seq <| wi_reg rfl <| lx_move (.int .i64 ((x : Nat) : Int)) rfl rfl <| lx_assign (.int .i64 ((x : Nat) : Int)) rfl rfl <| lx_nil <| wi_reg rfl <| ?_
      have hdv := Nat.div_le_self t (2 ^ x)
      have hdl := dnF_lt p.length (pb p) x
      have hbl : t / 2 ^ x &&& 1 ≤ 1 := Nat.and_le_right
      refine lx_move (.bool w) rfl rfl <| lx_move (.bool w) rfl rfl <| ?_
      cases c3 : w
      · refine lx_skip rfl <| lx_skip rfl <| lx_skip rfl <| lx_skip rfl <| lx_skip rfl <| lx_skip rfl <| lx_skip rfl <| lx_skip rfl <| lx_skip rfl <| lx_skip rfl <| lx_skip rfl <| lx_skip rfl <| lx_skip rfl <| lx_skip rfl <| lx_pick false (.bool false) rfl rfl rfl <| lx_assign (.bool false) rfl rfl <| lx_nil <| wi_inBlock <| wi_reg rfl <| lx_add (((x + 1 : Nat) : Int)) rfl rfl rfl (by omega) (by omega) (by omega) <| lx_move (.int .i64 ((x + 1 : Nat) : Int)) rfl rfl <| lx_nil <| ?_
        -- L2.1
        refine IH2 _ _ (x + 1, false) (agree_ups rfl agree_self) ⟨rfl, rfl, trivial⟩ ⟨rfl, ?_, ?_⟩ ?_
        · try dsimp only
          omega
        · try dsimp only
          rw [rall_succ, ← hw]
          first
          | (rw [show w = false from by assumption]; rfl)
          | (rw [show w = true from by assumption, show t.testBit x = false from bit_zero.1 (by omega)]; rfl)
          | (rw [show w = true from by assumption, show t.testBit x = true from bit_nz (by omega)]; exact incl_D)
        · first | omega | (dsimp only; omega)
      · refine lx_move (.int .i64 ((t : Nat) : Int)) rfl rfl <| lx_move (.int .i64 ((x : Nat) : Int)) rfl rfl <| lx_conv ((x : Nat) : Int) rfl Try.underlying3 Try.underlying45 rfl (wrap_u64 (by omega) (by omega)) <| lx_shr (m := t) (n := x) rfl rfl rfl (by show _ ≤ 64; omega) <| lx_and (m := t / 2 ^ x) (n := 1) rfl rfl rfl (by show _ < 2 ^ 64; omega) (by show _ < 2 ^ 64; omega) (wrap_i64 (by omega) (by omega)) <| lx_eqlS rfl rfl rfl (fun c4 => ?_) (fun c4 => ?_)
        · refine lx_move (.bool true) rfl rfl <| lx_skip rfl <| lx_skip rfl <| lx_skip rfl <| lx_skip rfl <| lx_skip rfl <| lx_skip rfl <| lx_pick true (.bool true) rfl rfl rfl <| lx_pick true (.bool true) rfl rfl rfl <| lx_assign (.bool true) rfl rfl <| lx_nil <| wi_inBlock <| wi_reg rfl <| lx_add (((x + 1 : Nat) : Int)) rfl rfl rfl (by omega) (by omega) (by omega) <| lx_move (.int .i64 ((x + 1 : Nat) : Int)) rfl rfl <| lx_nil <| ?_
          -- L2.2
          refine IH2 _ _ (x + 1, true) (agree_ups rfl agree_self) ⟨rfl, rfl, trivial⟩ ⟨rfl, ?_, ?_⟩ ?_
          · try dsimp only
            omega
          · try dsimp only
            rw [rall_succ, ← hw]
            first
            | (rw [show w = false from by assumption]; rfl)
            | (rw [show w = true from by assumption, show t.testBit x = false from bit_zero.1 (by omega)]; rfl)
            | (rw [show w = true from by assumption, show t.testBit x = true from bit_nz (by omega)]; exact incl_D)
          · first | omega | (dsimp only; omega)
        · refine lx_move (.bool false) rfl rfl <| lx_move (vp) rfl rfl <| lx_move (.int .i64 ((x : Nat) : Int)) rfl rfl <| lx_call [vp, .int .i64 ((x : Nat) : Int)] rfl rfl Try.call81 rfl (down_spec hh1 vp hs p x (hr_vp.extS hx0_1) (ht_vp.extS hx0_1) (by omega) (by first | with_reducible assumption | omega) (by omega)) (fun _ _ _ => trivial) ?_
          rintro _ h1 ⟨rfl, rfl⟩
          refine lx_move (.int .i64 ((t : Nat) : Int)) rfl rfl <| lx_andNot (m := dnF p.length (pb p) x) (n := t) rfl rfl rfl (by show _ < 2 ^ 64; omega) (by show _ < 2 ^ 64; omega) (wrap_i64 (by omega) (by have := andNot_le (dnF p.length (pb p) x) t; omega)) <| lx_eql rfl rfl rfl <| lx_pick false (.bool (decide (((andNot (dnF p.length (pb p) x) t : Nat) : Int) = (0 : Int)))) rfl rfl rfl <| lx_pick true (.bool (decide (((andNot (dnF p.length (pb p) x) t : Nat) : Int) = (0 : Int)))) rfl rfl rfl <| lx_assign (.bool (decide (((andNot (dnF p.length (pb p) x) t : Nat) : Int) = (0 : Int)))) rfl rfl <| lx_nil <| wi_inBlock <| wi_reg rfl <| lx_add (((x + 1 : Nat) : Int)) rfl rfl rfl (by omega) (by omega) (by omega) <| lx_move (.int .i64 ((x + 1 : Nat) : Int)) rfl rfl <| lx_nil <| ?_
          -- L2.3
          refine IH2 _ _ (x + 1, decide (((andNot (dnF p.length (pb p) x) t : Nat) : Int) = (0 : Int))) (agree_ups rfl agree_self) ⟨rfl, rfl, trivial⟩ ⟨rfl, ?_, ?_⟩ ?_
          · try dsimp only
            omega
          · try dsimp only
            rw [rall_succ, ← hw]
            first
            | (rw [show w = false from by assumption]; rfl)
            | (rw [show w = true from by assumption, show t.testBit x = false from bit_zero.1 (by omega)]; rfl)
            | (rw [show w = true from by assumption, show t.testBit x = true from bit_nz (by omega)]; exact incl_D)
          · first | omega | (dsimp only; omega)
    · refine lx_nil <| wi_seq <| wi_false rfl <| wi_exit rfl <| wi_seq <| wi_reg rfl <| lx_move (.bool w) rfl rfl <| lx_nil <| wi_condS (t := w) rfl (fun c5 => ?_) (fun c5 => ?_)
      · refine wi_reg rfl <| lx_move (v) rfl rfl <| lx_move (.int .i64 ((t : Nat) : Int)) rfl rfl <| lx_appendL (E := encI) (B := h.size) [((t : Nat) : Int)] [.int .i64 ((t : Nat) : Int)] rfl rfl (fun _ => rfl) rfl eT25 rfl rfl rfl rfl ho1 (fun _ => rfl) (by show xs.length + 1 ≤ _; omega) (by show (xs.length + 1) * 8 ≤ _; omega) hx0_1.size (fun _ _ => trivial) fun u1 v1 h2 ho2 hc1 hg1 => ?_
        have hx0_2 := hx0_1.trans (ho1.ext hc1 hx0_1.size)
        refine lx_assign (v1) rfl rfl <| lx_nil <| wi_inBlock <| wi_reg rfl <| lx_add (((t + 1 : Nat) : Int)) rfl rfl rfl (by omega) (by omega) (by omega) <| lx_move (.int .i64 ((t + 1 : Nat) : Int)) rfl rfl <| lx_nil <| ?_
        -- L0.1
        refine IH1 _ _ (t + 1, v1, xs ++ [((t : Nat) : Int)]) (agree_ups rfl (agree_mix (rngB_sub (by decide) (by decide) rfl) (agree_ups rfl agree_self))) ⟨rfl, rfl, trivial⟩ ⟨?_, hx0_2, ?_, ?_⟩ ?_
        · first | exact ho2 | (simpa using ho2)
        · try dsimp only
          omega
        · try dsimp only
          rw [hxs]
          have hid : w = idlB p.length (pb p) t := by rw [hw, show x = p.length from by omega]; rfl
          first
          | exact filtF_yes (by rw [← hid]; assumption)
          | exact filtF_no (by rw [← hid]; assumption)
        · first | omega | (dsimp only; omega)
      · refine wi_skip <| wi_inBlock <| wi_reg rfl <| lx_add (((t + 1 : Nat) : Int)) rfl rfl rfl (by omega) (by omega) (by omega) <| lx_move (.int .i64 ((t + 1 : Nat) : Int)) rfl rfl <| lx_nil <| ?_
        -- L0.2
        refine IH1 _ _ (t + 1, v, xs) (agree_ups rfl (agree_mix (rngB_sub (by decide) (by decide) rfl) (agree_ups rfl agree_self))) ⟨rfl, rfl, trivial⟩ ⟨?_, hx0_1, ?_, ?_⟩ ?_
        · first | exact ho1 | (simpa using ho1)
        · try dsimp only
          omega
        · try dsimp only
          rw [hxs]
          have hid : w = idlB p.length (pb p) t := by rw [hw, show x = p.length from by omega]; rfl
          first
          | exact filtF_yes (by rw [← hid]; assumption)
          | exact filtF_no (by rw [← hid]; assumption)
        · first | omega | (dsimp only; omega)
  · refine lx_nil <| wi_seq <| wi_false rfl <| wi_exit rfl <| wi_seq <| wi_reg rfl <| lx_move (v) rfl rfl <| lx_assign (v) rfl rfl <| lx_nil <| ?_
    -- R1
    refine wi_ret ⟨v, (res_one rfl rfl), ⟨v, rfl, ?_, hx0_1⟩⟩
    · rw [show idealsF p.length (pb p) = xs from by rw [hxs, show t = 2 ^ p.length from by omega]; rfl]; exact ho1

set_option maxRecDepth 10000 in
theorem oideals_spec (h : Heap) (vp : Value) (hs : List Hdr) (p : List (List Bool)) (hr_vp : RdE encHd h vp hs) (ht_vp : RT encB h hs p) (hp1 : p.length ≤ 1000000) (hp2 : ∀ i, i < p.length → (gt p i).length ≤ 1000000) : Fx Try.prog 16 [vp] h (fun v h' => ∃ (s : Value) (xs : List Int), v = .tuple #[s, .int .i64 (chkT p)] ∧ OwE encI h' h.size 3 s xs ∧ ((chkT p ≠ 0 ∧ xs = []) ∨ (chkT p = 0 ∧ xs = idealsF p.length (pb p))) ∧ Ext h.size h h') := by
  have hl_vp := ht_vp.1
  refine fx_intro (n := 12) [(0, vp)] Try.func16 rfl rfl (by simp) ⟨rfl, trivial⟩ fun g0 => ?_
  refine wi_seq <| wi_reg rfl <| lx_assign (.slice none 0 0) rfl rfl <| lx_assign (.int .i64 0) rfl rfl <| lx_nil <| wi_seq <| wi_seq <| wi_reg rfl <| lx_move (vp) rfl rfl <| lx_call [vp] rfl rfl Try.call62 rfl (ocheck_spec h vp hs p hr_vp ht_vp (by omega) (by first | with_reducible assumption | omega)) (fun _ _ _ => trivial) ?_
  rintro _ h1 ⟨rfl, hx1⟩
  refine lx_assign (.int .i64 (chkT p)) rfl rfl <| lx_nil <| wi_seq <| wi_reg rfl <| lx_move (.int .i64 (chkT p)) rfl rfl <| lx_neqS rfl rfl rfl (fun c1 => ?_) (fun c1 => ?_)
  · refine lx_nil <| wi_true rfl <| wi_seq <| wi_reg rfl <| lx_move (.int .i64 (chkT p)) rfl rfl <| lx_assign (.slice none 0 0) rfl rfl <| lx_assign (.int .i64 (chkT p)) rfl rfl <| lx_nil <| ?_
    -- R1
    refine wi_ret ⟨.tuple #[.slice none 0 0, .int .i64 (chkT p)], (res_two rfl rfl rfl), ⟨.slice none 0 0, [], rfl, (owE_nil encI _ h.size 3), ?_, hx1⟩⟩
    · exact .inl ⟨by omega, rfl⟩
  · refine lx_nil <| wi_false rfl <| wi_skip <| wi_seq <| wi_reg rfl <| ?_
    have hok := chkT_ok (p := p) (by omega)
    have hp12 : p.length ≤ 12 := hok.2.1
    have hpq : Sq p p.length := isT_sq hok.2.2
    refine lx_move (vp) rfl rfl <| lx_call [vp] rfl rfl Try.call76 rfl (ideals_spec h1 vp hs p (hr_vp.extS hx1) (ht_vp.extS hx1) (by omega) (by first | with_reducible assumption | omega)) (fun _ _ _ => trivial) ?_
    rintro v1 h2 ⟨_, rfl, ho1, hx2⟩
    have hx0_1 := hx1.trans2 hx2 hx1.size
    have ho2 := ho1.base hx1.size
    refine lx_assign (v1) rfl rfl <| lx_assign (.int .i64 0) rfl rfl <| lx_nil <| ?_
    -- R2
    refine wi_ret ⟨.tuple #[v1, .int .i64 0], (res_two rfl rfl rfl), ⟨v1, idealsF p.length (pb p), ?_, ho2, ?_, hx0_1⟩⟩
    · rw [show chkT p = 0 from by omega]
    · exact .inr ⟨by omega, rfl⟩

end Go.Proofs.Ytdokijbdnajhgaa
namespace Go.X
theorem count_lt {p q : Nat → Bool} (h : ∀ i, q i = true → p i = true) : ∀ {n : Nat}, (∃ j, j < n ∧ p j = true ∧ q j = false) → (List.range n).countP q < (List.range n).countP p
  | 0, ⟨j, hj, _⟩ => absurd hj (by omega)
  | n + 1, ⟨j, hj, h1, h2⟩ => by
    rw [List.range_succ, List.countP_append, List.countP_append]
    have hle : ∀ m, (List.range m).countP q ≤ (List.range m).countP p := fun m => List.countP_mono_left fun x _ => h x
    simp only [List.countP_cons, List.countP_nil]
    by_cases e : j = n
    · subst e
      rw [h1, h2]
      have := hle j
      simp; omega
    · have := count_lt h (n := n) ⟨j, by omega, h1, h2⟩
      cases c : q n
      · simp; split <;> omega
      · rw [h n c]; simp; omega

end Go.X
namespace Go.X
/-- Sums over 0, 1, .. below 'n'. -/
def sumI : Nat → (Nat → Int) → Int
  | 0, _ => 0
  | n + 1, g => sumI n g + g n
theorem sumI_congr : ∀ {n : Nat} {f g : Nat → Int}, (∀ i, i < n → f i = g i) → sumI n f = sumI n g
  | 0, _, _, _ => rfl
  | n + 1, f, g, h => by
    show sumI n f + f n = sumI n g + g n
    rw [sumI_congr fun i hi => h i (by omega), h n (by omega)]
theorem sumI_bound {B : Int} (hB : 0 ≤ B) : ∀ {n : Nat} {g : Nat → Int}, (∀ i, i < n → -B ≤ g i ∧ g i ≤ B) → -(n * B) ≤ sumI n g ∧ sumI n g ≤ n * B
  | 0, _, _ => by simp [sumI]
  | n + 1, g, h => by
    have h1 := sumI_bound hB (n := n) (g := g) fun i hi => h i (by omega)
    have h2 := h n (by omega)
    have h3 : ((n + 1 : Nat) : Int) * B = n * B + B := by rw [Int.natCast_add, Int.add_mul]; simp
    show -(((n + 1 : Nat) : Int) * B) ≤ sumI n g + g n ∧ sumI n g + g n ≤ ((n + 1 : Nat) : Int) * B
    rw [h3]
    omega
/-- How many are at most an element. -/
def cntD (n : Nat) (f : Nat → Nat → Bool) (y : Nat) : Nat := (List.range n).countP fun z => f z y
theorem cntD_le (n : Nat) (f : Nat → Nat → Bool) (y : Nat) : cntD n f y ≤ n := by
  have := List.countP_le_length (p := fun z => f z y) (l := List.range n)
  simpa [cntD] using this
theorem cntD_pos {n y : Nat} {f : Nat → Nat → Bool} (ho : IsO n f) (hy : y < n) : 0 < cntD n f y := List.countP_pos_iff.2 ⟨y, List.mem_range.2 hy, ho.refl hy⟩
theorem cntD_lt {n y z : Nat} {f : Nat → Nat → Bool} (ho : IsO n f) (hz : z < n) (hy : y < n) (h : f z y = true) (hne : z ≠ y) : cntD n f z < cntD n f y := by
  have h9 : (List.range n).countP (fun i => decide (i < n) && f i z) < (List.range n).countP (fun i => decide (i < n) && f i y) := count_lt (fun i hi => by
    rw [Bool.and_eq_true, decide_eq_true_iff] at hi ⊢
    exact ⟨hi.1, ho.trans hi.1 hz hy hi.2 h⟩) ⟨y, hy, by rw [decide_eq_true hy, ho.refl hy]; rfl, by
      cases c : f y z
      · simp
      · exact absurd (ho.anti hz hy h c) hne⟩
  have e : ∀ g : Nat → Bool, (List.range n).countP (fun i => decide (i < n) && g i) = (List.range n).countP g := fun g => List.countP_congr fun i hi => by rw [decide_eq_true (List.mem_range.1 hi)]; simp
  rw [e, e] at h9
  exact h9
/-- What is strictly between, with the lower end. -/
def btw (f : Nat → Nat → Bool) (x y z : Nat) : Bool := f x z && f z y && decide (z ≠ y)
def muA (n : Nat) (f : Nat → Nat → Bool) : Nat → Nat → Nat → Int
  | 0, _, _ => 0
  | k + 1, x, y => if x = y then 1 else if f x y then -sumI n fun z => if btw f x y z then muA n f k x z else 0 else 0
theorem muA_stable {n : Nat} {f : Nat → Nat → Bool} (ho : IsO n f) : ∀ (k l : Nat) {x y : Nat}, x < n → y < n → cntD n f y ≤ k → cntD n f y ≤ l → muA n f k x y = muA n f l x y
  | 0, _, x, y, hx, hy, h1, _ => absurd (cntD_pos ho hy) (by omega)
  | _ + 1, 0, x, y, hx, hy, _, h2 => absurd (cntD_pos ho hy) (by omega)
  | k + 1, l + 1, x, y, hx, hy, h1, h2 => by
    unfold muA
    by_cases e : x = y
    · rw [if_pos e, if_pos e]
    · rw [if_neg e, if_neg e]
      split
      · congr 1
        refine sumI_congr fun z hz => ?_
        cases hb : btw f x y z
        · rfl
        · rw [if_pos rfl, if_pos rfl]
          unfold btw at hb
          simp only [Bool.and_eq_true, decide_eq_true_iff] at hb
          have := cntD_lt ho hz hy hb.1.2 hb.2
          exact muA_stable ho k l hx hz (by omega) (by omega)
      · rfl
def muF (n : Nat) (f : Nat → Nat → Bool) (x y : Nat) : Int := muA n f (n + 1) x y
theorem muF_self {n x : Nat} {f : Nat → Nat → Bool} : muF n f x x = 1 := by unfold muF muA; rw [if_pos rfl]
theorem muF_out {n x y : Nat} {f : Nat → Nat → Bool} (hne : x ≠ y) (h : f x y = false) : muF n f x y = 0 := by unfold muF muA; rw [if_neg hne, h]; rfl
theorem muF_in {n x y : Nat} {f : Nat → Nat → Bool} (ho : IsO n f) (hx : x < n) (hy : y < n) (hne : x ≠ y) (h : f x y = true) : muF n f x y = -sumI n fun z => if btw f x y z then muF n f x z else 0 := by
  rw [show muF n f x y = muA n f (n + 1) x y from rfl]
  rw [muA, if_neg hne, if_pos h]
  congr 1
  refine sumI_congr fun z hz => ?_
  cases hb : btw f x y z
  · rfl
  · rw [if_pos rfl, if_pos rfl]
    unfold btw at hb
    simp only [Bool.and_eq_true, decide_eq_true_iff] at hb
    have h1 := cntD_lt ho hz hy hb.1.2 hb.2
    have h2 := cntD_le n f y
    have h3 := cntD_le n f z
    exact muA_stable ho n (n + 1) hx hz (by omega) (by omega)
theorem muA_bound {n : Nat} {f : Nat → Nat → Bool} : ∀ (k x y : Nat), -(((n + 1) ^ k : Nat) : Int) ≤ muA n f k x y ∧ muA n f k x y ≤ (((n + 1) ^ k : Nat) : Int)
  | 0, x, y => by simp [muA]
  | k + 1, x, y => by
    have hp : 0 < (n + 1) ^ (k + 1) := Nat.pow_pos (by omega)
    have hp0 : 0 < (n + 1) ^ k := Nat.pow_pos (by omega)
    unfold muA
    split
    · omega
    · split
      · have h := sumI_bound (B := (((n + 1) ^ k : Nat) : Int)) (by omega) (n := n) (g := fun z => if btw f x y z then muA n f k x z else 0) fun i _ => by
          skip
          split
          · exact muA_bound k x i
          · omega
        have e : ((n : Nat) : Int) * (((n + 1) ^ k : Nat) : Int) ≤ (((n + 1) ^ (k + 1) : Nat) : Int) := by
          rw [Nat.pow_succ, ← Int.natCast_mul]
          have : n * (n + 1) ^ k ≤ (n + 1) ^ k * (n + 1) := by rw [Nat.mul_comm]; exact Nat.mul_le_mul_left _ (by omega)
          omega
        omega
      · omega
theorem muF_bound {n : Nat} {f : Nat → Nat → Bool} (hn : n ≤ 12) (x y : Nat) : -302875106592253 ≤ muF n f x y ∧ muF n f x y ≤ 302875106592253 := by
  have h := muA_bound (n := n) (f := f) (n + 1) x y
  have h1 : (n + 1) ^ (n + 1) ≤ 13 ^ 13 := Nat.le_trans (Nat.pow_le_pow_left (by omega) _) (Nat.pow_le_pow_right (by omega) (by omega))
  have h2 : (13 : Nat) ^ 13 = 302875106592253 := by decide
  unfold muF
  omega
/-- A list of all elements, in which none comes before one below it. -/
structure LinL (n : Nat) (f : Nat → Nat → Bool) (xs : List Int) : Prop where
  len : xs.length = n
  rng : ∀ i, i < n → ∃ a : Nat, gt xs i = (a : Int) ∧ a < n
  all : ∀ a : Nat, a < n → ∃ i, i < n ∧ gt xs i = (a : Int)
  ord : ∀ i j, i < n → j < n → f (gt xs i).toNat (gt xs j).toNat = true → i ≠ j → i < j
  inj : ∀ i j, i < n → j < n → gt xs i = gt xs j → i = j
end Go.X
namespace Go.X
/-- All numbers below 'n', in some order. -/
structure PermL (n : Nat) (xs : List Int) : Prop where
  len : xs.length = n
  rng : ∀ i, i < n → ∃ a : Nat, gt xs i = (a : Int) ∧ a < n
  inj : ∀ i j, i < n → j < n → gt xs i = gt xs j → i = j
  all : ∀ a : Nat, a < n → ∃ i, i < n ∧ gt xs i = (a : Int)
def swI (i j k : Nat) : Nat := if k = j then i else if k = i then j else k
theorem swI_lt {i j k n : Nat} (hi : i < n) (hj : j < n) (hk : k < n) : swI i j k < n := by unfold swI; split <;> (try split) <;> omega
theorem swI_swI (i j k : Nat) : swI i j (swI i j k) = k := by unfold swI; split <;> (try split) <;> (try split) <;> (try split) <;> omega
theorem gt_swI {xs : List Int} {i j : Nat} (hi : i < xs.length) (hj : j < xs.length) (k : Nat) : gt ((xs.set i (gt xs j)).set j (gt xs i)) k = gt xs (swI i j k) := by
  rw [gt_set (by simpa using hj), gt_set hi]
  unfold swI
  split
  · rfl
  · split <;> rfl
theorem PermL.swap {n : Nat} {xs : List Int} (h : PermL n xs) {i j : Nat} (hi : i < n) (hj : j < n) : PermL n ((xs.set i (gt xs j)).set j (gt xs i)) := by
  have hl := h.len
  have hg := fun k => gt_swI (xs := xs) (i := i) (j := j) (by omega) (by omega) k
  refine ⟨by simp [hl], fun k hk => ?_, fun a b ha hb e => ?_, fun a ha => ?_⟩
  · rw [hg]; exact h.rng _ (swI_lt hi hj hk)
  · rw [hg, hg] at e
    have := h.inj _ _ (swI_lt hi hj ha) (swI_lt hi hj hb) e
    rw [← swI_swI i j a, this, swI_swI]
  · obtain ⟨k, hk, e⟩ := h.all a ha
    exact ⟨swI i j k, swI_lt hi hj hk, by rw [hg, swI_swI]; exact e⟩
theorem permL_iota (n : Nat) (xs : List Int) (hl : xs.length = n) (hg : ∀ i, i < n → gt xs i = ((i : Nat) : Int)) : PermL n xs :=
  ⟨hl, fun i hi => ⟨i, hg i hi, hi⟩, fun i j hi hj e => by rw [hg i hi, hg j hj] at e; omega, fun a ha => ⟨a, ha, hg a ha⟩⟩
abbrev kyF (K : Nat → Nat) (xs : List Int) (i : Nat) : Nat := K (gt xs i).toNat
/-- The first 'm' rise. -/
def RiseK (K : Nat → Nat) (xs : List Int) (m : Nat) : Prop := ∀ a b, a < b → b < m → kyF K xs a ≤ kyF K xs b
/-- The first 'm' rise but for what stands at 'j', which may be too great for those before it. -/
def RiseJ (K : Nat → Nat) (xs : List Int) (m j : Nat) : Prop := ∀ a b, a < b → b < m → b ≠ j → kyF K xs a ≤ kyF K xs b
theorem riseJ_start {K : Nat → Nat} {xs : List Int} {i : Nat} (h : RiseK K xs i) : RiseJ K xs (i + 1) i := fun a b hab hb hne => h a b hab (by omega)
theorem riseJ_stop {K : Nat → Nat} {xs : List Int} {i j : Nat} (h : RiseJ K xs (i + 1) j) (hj : j = 0 ∨ ¬ kyF K xs j < kyF K xs (j - 1)) : RiseK K xs (i + 1) := fun a b hab hb => by
  by_cases e : b = j
  · subst e
    rcases hj with h0 | h0
    · omega
    · by_cases ea : a = b - 1
      · subst ea; omega
      · have := h a (b - 1) (by omega) (by omega) (by omega); omega
  · exact h a b hab hb e
theorem riseJ_step {K : Nat → Nat} {n : Nat} {xs : List Int} {i j : Nat} (hp : PermL n xs) (hi : i < n) (hji : j ≤ i) (h : RiseJ K xs (i + 1) j) (hj : 0 < j) (hlt : kyF K xs j < kyF K xs (j - 1)) :
    RiseJ K ((xs.set j (gt xs (j - 1))).set (j - 1) (gt xs j)) (i + 1) (j - 1) := fun a b hab hb hne => by
  have hl := hp.len
  have hg := fun k => gt_swI (xs := xs) (i := j) (j := j - 1) (by omega) (by omega) k
  show K _ ≤ K _
  rw [hg, hg]
  have hs : ∀ k, swI j (j - 1) k = if k = j - 1 then j else if k = j then j - 1 else k := fun k => rfl
  rw [hs, hs, if_neg hne]
  by_cases e1 : b = j
  · rw [if_pos e1]
    by_cases e2 : a = j - 1
    · rw [if_pos e2]; exact Nat.le_of_lt hlt
    · rw [if_neg e2, if_neg (by omega)]; exact h a (j - 1) (by omega) (by omega) (by omega)
  · rw [if_neg e1]
    by_cases e2 : a = j - 1
    · rw [if_pos e2]; exact h j b (by omega) hb e1
    · rw [if_neg e2]
      by_cases e3 : a = j
      · rw [if_pos e3]; exact h (j - 1) b (by omega) hb e1
      · rw [if_neg e3]; exact h a b hab hb e1
/-- What rises by the number of elements at most it is a list in which none comes before one below it. -/
theorem linL {n : Nat} {f : Nat → Nat → Bool} (ho : IsO n f) {xs : List Int} (hp : PermL n xs) (hr : RiseK (cntD n f) xs n) : LinL n f xs :=
  ⟨hp.len, hp.rng, hp.all, fun i j hi hj hf hne => by
    refine Classical.byContradiction fun hc => ?_
    obtain ⟨a, ha, ha2⟩ := hp.rng i hi
    obtain ⟨b, hb, hb2⟩ := hp.rng j hj
    have h1 := hr j i (by omega) hi
    rw [ha, hb, Int.toNat_natCast, Int.toNat_natCast] at hf
    unfold kyF at h1
    rw [ha, hb, Int.toNat_natCast, Int.toNat_natCast] at h1
    have := cntD_lt ho ha2 hb2 hf (fun e => hne (hp.inj i j hi hj (by rw [ha, hb, e])))
    omega, hp.inj⟩
end Go.X
namespace Go.Proofs.Ytdokijbdnajhgaa
open Go Go.X

set_option maxRecDepth 10000 in
theorem below_spec (h : Heap) (vp : Value) (hs : List Hdr) (p : List (List Bool)) (x : Nat) (y : Nat) (hr_vp : RdE encHd h vp hs) (ht_vp : RT encB h hs p) (hp1 : p.length ≤ 12) (hp2 : Sq p p.length) (hp3 : x < p.length) (hp4 : y < p.length) : Fx Try.prog 106 [vp, .int .i64 ((x : Nat) : Int), .int .i64 ((y : Nat) : Int)] h (fun v h' => v = .bool (decide (x ≠ y) && pb p x y) ∧ h = h') := by
  have hl_vp := ht_vp.1
  refine fx_intro (n := 19) [(0, vp), (1, .int .i64 ((x : Nat) : Int)), (2, .int .i64 ((y : Nat) : Int))] Try.func106 rfl rfl (by simp) ⟨rfl, rfl, rfl, trivial⟩ fun g0 => ?_
  refine wi_seq <| wi_reg rfl <| lx_assign (.bool false) rfl rfl <| lx_nil <| wi_seq <| wi_reg rfl <| lx_move (.int .i64 ((x : Nat) : Int)) rfl rfl <| lx_move (.int .i64 ((y : Nat) : Int)) rfl rfl <| lx_neqS rfl rfl rfl (fun c1 => ?_) (fun c1 => ?_)
  · refine lx_move (.bool true) rfl rfl <| lx_move (vp) rfl rfl <| lx_move (.int .i64 ((x : Nat) : Int)) rfl rfl <| lx_ix (i := x) rfl eT29 hr_vp rfl rfl (by omega) <| lx_ld (i := x) (j := 0) ((gt hs x).v) rfl rfl fl70 hr_vp (by omega) rfl rfl <| lx_move (.int .i64 ((y : Nat) : Int)) rfl rfl <| lx_ix (i := y) rfl eT70 (ht_vp.2 x (by omega)) rfl rfl (by rw [hp2.2 x (by omega)]; omega) <| lx_ld (i := y) (j := 0) (.bool (gt (gt p x) y)) rfl rfl fl4 (ht_vp.2 x (by omega)) (by rw [hp2.2 x (by omega)]; omega) rfl rfl <| lx_pick true (.bool (gt (gt p x) y)) rfl rfl rfl <| lx_assign (.bool (gt (gt p x) y)) rfl rfl <| lx_nil <| ?_
    -- R1
    refine wi_ret ⟨.bool (gt (gt p x) y), (res_one rfl rfl), ⟨?_, rfl⟩⟩
    · congr 1
      first
      | (rw [decide_eq_true (show x ≠ y by omega)]; simp; done)
      | (rw [decide_eq_false (show ¬ x ≠ y by omega)]; rfl)
      | (rw [show pb p x y = true from by assumption, decide_eq_true (show x ≠ y by omega)]; rfl)
      | (rw [show pb p x y = false from by assumption]; simp)
  · refine lx_move (.bool false) rfl rfl <| lx_skip rfl <| lx_skip rfl <| lx_skip rfl <| lx_skip rfl <| lx_skip rfl <| lx_skip rfl <| lx_skip rfl <| lx_pick false (.bool false) rfl rfl rfl <| lx_assign (.bool false) rfl rfl <| lx_nil <| ?_
    -- R2
    refine wi_ret ⟨.bool false, (res_one rfl rfl), ⟨?_, rfl⟩⟩
    · congr 1
      first
      | (rw [decide_eq_true (show x ≠ y by omega)]; simp; done)
      | (rw [decide_eq_false (show ¬ x ≠ y by omega)]; rfl)
      | (rw [show pb p x y = true from by assumption, decide_eq_true (show x ≠ y by omega)]; rfl)
      | (rw [show pb p x y = false from by assumption]; simp)

set_option maxRecDepth 10000 in
theorem size_up_spec (h : Heap) (x : Nat) (vp : Value) (hs : List Hdr) (p : List (List Bool)) (b1 : Nat) (hb_b1 : Blk h b1 (#[vp]) 29) (hr_vp : RdE encHd h vp hs) (ht_vp : RT encB h hs p) (hp1 : p.length ≤ 12) (hp2 : Sq p p.length) (hp3 : x < p.length) : Fx Try.prog 136 [.int .i64 ((x : Nat) : Int), .pointer (some ⟨b1, 0, none⟩)] h (fun v h' => v = .int .i64 ((cntD p.length (pb p) x : Nat) : Int) ∧ h = h') := by
  have hl_vp := ht_vp.1
  refine fx_intro (n := 22) [(0, .int .i64 ((x : Nat) : Int)), (1, .pointer (some ⟨b1, 0, none⟩))] Try.func136 rfl rfl (by simp) ⟨rfl, rfl, trivial⟩ fun g0 => ?_
  refine wi_seq <| wi_reg rfl <| lx_assign (.int .i64 0) rfl rfl <| lx_nil <| wi_seq <| wi_reg rfl <| lx_assign (.int .i64 0) rfl rfl <| lx_nil <| wi_seq <| wi_seq <| wi_reg rfl <| lx_ldB (vp) rfl rfl fl29 hb_b1 rfl rfl <| lx_len rfl Try.underlying29 hr_vp rfl <| lx_move (.int .i64 0) rfl rfl <| lx_nil <| wi_block <| ?_
  refine wi_loop (σ := Nat × Nat) (rngB 8 21 [4, 5]) (fun (ss : Nat × Nat) => [(8, .int .i64 ((ss.1 : Nat) : Int)), (4, .int .i64 ((ss.2 : Nat) : Int))]) (fun (ss : Nat × Nat) (hh : Heap) => h = hh ∧ (ss.1 ≤ p.length) ∧ (ss.2 = (List.range ss.1).countP fun z => pb p z x)) (fun (ss : Nat × Nat) => p.length - ss.1) (0, 0) ⟨rfl, rfl, trivial⟩ ⟨rfl, ?_, ?_⟩ ?_
  · try dsimp only
    omega
  · try dsimp only
    first | done | rfl
  rintro g1 ⟨y, n⟩ hh1 ⟨rfl, hy, hn⟩ IH1
  dsimp only at *
  have hnl : n ≤ y := by rw [hn]; have := List.countP_le_length (p := fun z => pb p z x) (l := List.range y); simpa using this
  refine wi_seq <| wi_reg rfl <| lx_lssS rfl rfl rfl (fun c1 => ?_) (fun c1 => ?_)
  · refine lx_nil <| wi_seq <| wi_true rfl <| wi_skip <| wi_seq <| wi_block <| wi_seq <| wi_reg rfl <| lx_move (.int .i64 ((y : Nat) : Int)) rfl rfl <| lx_assign (.int .i64 ((y : Nat) : Int)) rfl rfl <| lx_nil <| wi_seq <| wi_reg rfl <| lx_ldB (vp) rfl rfl fl29 hb_b1 rfl rfl <| lx_move (.int .i64 ((y : Nat) : Int)) rfl rfl <| lx_ix (i := y) rfl eT29 hr_vp rfl rfl (by omega) <| lx_ld (i := y) (j := 0) ((gt hs y).v) rfl rfl fl70 hr_vp (by omega) rfl rfl <| lx_move (.int .i64 ((x : Nat) : Int)) rfl rfl <| lx_ix (i := x) rfl eT70 (ht_vp.2 y (by omega)) rfl rfl (by rw [hp2.2 y (by omega)]; omega) <| lx_ld (i := x) (j := 0) (.bool (gt (gt p y) x)) rfl rfl fl4 (ht_vp.2 y (by omega)) (by rw [hp2.2 y (by omega)]; omega) rfl rfl <| lx_nil <| wi_condS (t := gt (gt p y) x) rfl (fun c2 => ?_) (fun c2 => ?_)
    · refine wi_reg rfl <| lx_move (.int .i64 ((n : Nat) : Int)) rfl rfl <| lx_add (((n + 1 : Nat) : Int)) rfl rfl rfl (by omega) (by omega) (by omega) <| lx_assign (.int .i64 ((n + 1 : Nat) : Int)) rfl rfl <| lx_nil <| wi_inBlock <| wi_reg rfl <| lx_add (((y + 1 : Nat) : Int)) rfl rfl rfl (by omega) (by omega) (by omega) <| lx_move (.int .i64 ((y + 1 : Nat) : Int)) rfl rfl <| lx_nil <| ?_
      -- L0.1
      refine IH1 _ _ (y + 1, n + 1) (agree_ups rfl agree_self) ⟨rfl, rfl, trivial⟩ ⟨rfl, ?_, ?_⟩ ?_
      · try dsimp only
        omega
      · try dsimp only
        rw [List.range_succ, List.countP_append, ← hn]
        first
        | (rw [List.countP_cons, show pb p y x = true from by assumption]; rfl)
        | (rw [List.countP_cons, show pb p y x = false from by assumption]; rfl)
      · first | omega | (dsimp only; omega)
    · refine wi_skip <| wi_inBlock <| wi_reg rfl <| lx_add (((y + 1 : Nat) : Int)) rfl rfl rfl (by omega) (by omega) (by omega) <| lx_move (.int .i64 ((y + 1 : Nat) : Int)) rfl rfl <| lx_nil <| ?_
      -- L0.2
      refine IH1 _ _ (y + 1, n) (agree_ups rfl agree_self) ⟨rfl, rfl, trivial⟩ ⟨rfl, ?_, ?_⟩ ?_
      · try dsimp only
        omega
      · try dsimp only
        rw [List.range_succ, List.countP_append, ← hn]
        first
        | (rw [List.countP_cons, show pb p y x = true from by assumption]; rfl)
        | (rw [List.countP_cons, show pb p y x = false from by assumption]; rfl)
      · first | omega | (dsimp only; omega)
  · refine lx_nil <| wi_seq <| wi_false rfl <| wi_exit rfl <| wi_seq <| wi_reg rfl <| lx_move (.int .i64 ((n : Nat) : Int)) rfl rfl <| lx_assign (.int .i64 ((n : Nat) : Int)) rfl rfl <| lx_nil <| ?_
    -- R1
    refine wi_ret ⟨.int .i64 ((n : Nat) : Int), (res_one rfl rfl), ⟨?_, rfl⟩⟩
    · rw [hn, show y = p.length from by omega]; rfl

set_option maxRecDepth 10000 in
theorem cmp_up_spec (h : Heap) (x : Nat) (y : Nat) (vp : Value) (hs : List Hdr) (p : List (List Bool)) (b5 : Nat) (b1 : Nat) (hb_b5 : Blk h b5 (#[.func (.func 136) #[] #[.pointer (some ⟨b1, 0, none⟩)]]) 111) (hb_b1 : Blk h b1 (#[vp]) 29) (hr_vp : RdE encHd h vp hs) (ht_vp : RT encB h hs p) (hp1 : p.length ≤ 12) (hp2 : Sq p p.length) (hp3 : x < p.length) (hp4 : y < p.length) : Fx Try.prog 138 [.int .i64 ((x : Nat) : Int), .int .i64 ((y : Nat) : Int), .pointer (some ⟨b5, 0, none⟩)] h (fun v h' => v = .int .i64 (((cntD p.length (pb p) x : Nat) : Int) - ((cntD p.length (pb p) y : Nat) : Int)) ∧ h = h') := by
  have hl_vp := ht_vp.1
  refine fx_intro (n := 13) [(0, .int .i64 ((x : Nat) : Int)), (1, .int .i64 ((y : Nat) : Int)), (2, .pointer (some ⟨b5, 0, none⟩))] Try.func138 rfl rfl (by simp) ⟨rfl, rfl, rfl, trivial⟩ fun g0 => ?_
  refine wi_seq <| wi_reg rfl <| lx_assign (.int .i64 0) rfl rfl <| lx_nil <| wi_seq <| wi_drawS (fun h9 => h = h9) (fun o => match o.dst with | some 6 | some 9 => .free | _ => kindOf o) mo rfl (by decide +kernel) rfl <| ?_
  have h1 := cntD_le p.length (pb p) x
  have h2 := cntD_le p.length (pb p) y
  refine lx_ldBF (.func (.func 136) #[] #[.pointer (some ⟨b1, 0, none⟩)]) rfl fl111 (fun _ e9 => e9 ▸ hb_b5) rfl rfl <| lx_move (.int .i64 ((x : Nat) : Int)) rfl rfl <| lx_callV [] [.pointer (some ⟨b1, 0, none⟩)] [.int .i64 ((x : Nat) : Int)] rfl rfl Try.call136 rfl rfl (size_up_spec h x vp hs p b1 hb_b1 hr_vp ht_vp (by omega) (by first | with_reducible assumption | omega) (by omega)) (by rintro _ _ ⟨_, e⟩; exact e) ?_
  rintro _ h1 ⟨rfl, rfl⟩
  refine lx_ldBF (.func (.func 136) #[] #[.pointer (some ⟨b1, 0, none⟩)]) rfl fl111 (fun _ e9 => e9 ▸ hb_b5) rfl rfl <| lx_move (.int .i64 ((y : Nat) : Int)) rfl rfl <| lx_callV [] [.pointer (some ⟨b1, 0, none⟩)] [.int .i64 ((y : Nat) : Int)] rfl rfl Try.call136 rfl rfl (size_up_spec h y vp hs p b1 hb_b1 hr_vp ht_vp (by omega) (by first | with_reducible assumption | omega) (by omega)) (by rintro _ _ ⟨_, e⟩; exact e) ?_
  rintro _ h2 ⟨rfl, rfl⟩
  refine lx_sub ((((cntD p.length (pb p) x : Nat) : Int)) - (((cntD p.length (pb p) y : Nat) : Int))) rfl rfl rfl (by omega) (by omega) (by omega) <| lx_assign (.int .i64 ((((cntD p.length (pb p) x : Nat) : Int)) - (((cntD p.length (pb p) y : Nat) : Int)))) rfl rfl <| lx_nil <| ?_
  -- R1
  refine wi_ret ⟨.int .i64 ((((cntD p.length (pb p) x : Nat) : Int)) - (((cntD p.length (pb p) y : Nat) : Int))), (res_one rfl rfl), ⟨?_, rfl⟩⟩
  · first | rfl | (simp; done) | (simp; omega)

end Go.Proofs.Ytdokijbdnajhgaa
