/-
  Gaps, plain: sums over indices, pairs out of order, what is sorted by a gap, and sums of two numbers.
-/
import Derived.Test.YtdokijbdnajhgaaXPlain
set_option linter.unusedSimpArgs false
set_option linter.unusedVariables false
namespace Go.X
/-- The sum of 'f' below 'n'. -/
def S (f : Nat → Nat) : Nat → Nat
  | 0 => 0
  | n + 1 => S f n + f n
theorem S_congr {f g : Nat → Nat} : ∀ {n : Nat}, (∀ i, i < n → f i = g i) → S f n = S g n
  | 0, _ => rfl
  | n + 1, h => by unfold S; rw [S_congr fun i hi => h i (by omega), h n (by omega)]
theorem S_add (f g : Nat → Nat) : ∀ n : Nat, S (fun i => f i + g i) n = S f n + S g n
  | 0 => rfl
  | n + 1 => by unfold S; rw [S_add f g n]; omega
theorem S_le {f g : Nat → Nat} : ∀ {n : Nat}, (∀ i, i < n → f i ≤ g i) → S f n ≤ S g n
  | 0, _ => Nat.le_refl _
  | n + 1, h => by unfold S; have := S_le (f := f) (g := g) (n := n) fun i hi => h i (by omega); have := h n (by omega); omega
theorem S_lt {f g : Nat → Nat} {n p : Nat} (h : ∀ i, i < n → f i ≤ g i) (hp : p < n) (hl : f p < g p) : S f n < S g n := by
  induction n with
  | zero => omega
  | succ n ih =>
    unfold S
    have h1 := S_le (f := f) (g := g) (n := n) fun i hi => h i (by omega)
    have h2 := h n (by omega)
    by_cases e : p = n
    · subst e; omega
    · have := ih (fun i hi => h i (by omega)) (by omega); omega
theorem S_zero {f : Nat → Nat} {n : Nat} (h : ∀ i, i < n → f i = 0) : S f n = 0 := by
  induction n with
  | zero => rfl
  | succ n ih => unfold S; rw [ih fun i hi => h i (by omega), h n (by omega)]
theorem S_split (f : Nat → Nat) (m : Nat) : ∀ n : Nat, S f (m + n) = S f m + S (fun i => f (m + i)) n
  | 0 => rfl
  | n + 1 => by show S f (m + n) + f (m + n) = S f m + (S (fun i => f (m + i)) n + f (m + n)); rw [S_split f m n]; omega
theorem S_mono (f : Nat → Nat) {m n : Nat} (h : m ≤ n) : S f m ≤ S f n := by
  obtain ⟨k, rfl⟩ : ∃ k, n = m + k := ⟨n - m, by omega⟩
  rw [S_split]; omega
theorem S_delta (i : Nat) (c : Nat) : ∀ {n : Nat}, i < n → S (fun a => if a = i then c else 0) n = c := by
  intro n hi
  induction n with
  | zero => omega
  | succ n ih =>
    unfold S
    by_cases e : i = n
    · subst e
      rw [if_pos rfl, S_zero fun a ha => if_neg (by omega)]; omega
    · rw [ih (by omega), if_neg (by omega)]; rfl
/-- Two indices for one another. -/
def tr (i j a : Nat) : Nat := if a = i then j else if a = j then i else a
theorem S_upd (f : Nat → Nat) (i c : Nat) {n : Nat} (hi : i < n) : S (fun a => if a = i then c else f a) n + f i = S f n + c := by
  induction n with
  | zero => omega
  | succ n ih =>
    unfold S
    by_cases e : i = n
    · subst e
      rw [if_pos rfl, S_congr (g := f) fun a ha => if_neg (by omega)]; omega
    · have := ih (by omega)
      rw [if_neg (by omega)]; omega
theorem S_tr (f : Nat → Nat) {i j n : Nat} (hi : i < n) (hj : j < n) : S (fun a => f (tr i j a)) n = S f n := by
  by_cases e : i = j
  · subst e
    refine S_congr fun a _ => ?_
    unfold tr; split <;> simp [*]
  have h1 := S_upd f i (f j) hi
  have h2 := S_upd (fun a => if a = i then f j else f a) j (f i) hj
  rw [if_neg (by omega)] at h2
  have h3 : S (fun a => f (tr i j a)) n = S (fun a => if a = j then f i else if a = i then f j else f a) n := by
    refine S_congr fun a _ => ?_
    unfold tr
    by_cases h : a = i
    · subst h; simp [e]
    · by_cases h' : a = j
      · subst h'; simp [h]
      · simp [h, h']
  rw [h3]; omega

/-- Whether a pair is out of order by a gap. -/
def wp (k : Nat) (xs : List Int) (a b : Nat) : Nat := if a < b ∧ a % k = b % k ∧ gt xs b < gt xs a then 1 else 0
def pairs (k : Nat) (xs : List Int) : Nat := S (fun a => S (fun b => wp k xs a b) xs.length) xs.length
theorem gap_ge {k a b : Nat} (h : a < b) (e : a % k = b % k) : a + k ≤ b := by
  have h1 := Nat.div_add_mod a k
  have h2 := Nat.div_add_mod b k
  rw [e] at h1
  have : a / k < b / k := by
    refine Nat.lt_of_not_le fun hl => ?_
    have := Nat.mul_le_mul_left k hl
    omega
  have h3 : k * (a / k + 1) ≤ k * (b / k) := Nat.mul_le_mul_left k this
  rw [Nat.mul_add] at h3
  omega
theorem gt_tr {xs : List Int} {i j : Nat} (hi : i < xs.length) (hj : j < xs.length) (a : Nat) : gt (swp xs i j) a = gt xs (tr i j a) := by
  rw [gt_swp hi hj]
  unfold tr
  by_cases h : a = i
  · subst h
    by_cases h' : a = j
    · subst h'; simp
    · simp [h']
  · by_cases h' : a = j
    · subst h'; simp [h]
    · simp [h, h']
theorem tr_mod {k i a : Nat} : tr i (i + k) a % k = a % k := by
  unfold tr
  split
  · rename_i h; subst h; simp
  · split
    · rename_i h; subst h; simp
    · rfl
theorem wp_swp {k i : Nat} {xs : List Int} (hk : 1 ≤ k) (hi : i + k < xs.length) (hl : gt xs (i + k) < gt xs i) (a b : Nat) :
    wp k xs (tr i (i + k) a) (tr i (i + k) b) = wp k (swp xs i (i + k)) a b + if a = i + k then (if b = i then 1 else 0) else 0 := by
  unfold wp
  rw [gt_tr (by omega) hi, gt_tr (by omega) hi, tr_mod, tr_mod]
  rcases Decidable.em (¬ a % k = b % k) with hm | hm
  · rw [if_neg (by omega), if_neg (by omega)]
    by_cases h1 : a = i + k
    · by_cases h2 : b = i
      · subst h1; subst h2; simp at hm
      · simp [h2]
    · simp [h1]
  have hm : a % k = b % k := Decidable.not_not.1 hm
  by_cases ha : a = i + k
  · by_cases hb : b = i
    · subst ha hb
      have e1 : tr b (b + k) (b + k) = b := by unfold tr; rw [if_neg (by omega), if_pos rfl]
      have e2 : tr b (b + k) b = b + k := by unfold tr; rw [if_pos rfl]
      rw [e1, e2, if_pos ⟨by omega, hm, hl⟩, if_neg (by omega), if_pos rfl, if_pos rfl]
    · rw [if_pos ha, if_neg hb, Nat.add_zero]
      have e1 : tr i (i + k) a = i := by unfold tr; rw [if_neg (by omega), if_pos ha]
      rw [e1]
      by_cases hb2 : b = a
      · subst hb2; rw [e1, if_neg (by omega), if_neg (by omega)]
      have e2 : tr i (i + k) b = b := by unfold tr; rw [if_neg hb, if_neg (by omega)]
      rw [e2]
      have : i % k = b % k := by rw [← hm, ha]; simp
      by_cases h1 : i < b
      · have := gap_ge h1 this
        have h2 : a < b := by omega
        simp only [h1, h2, hm, this, true_and, ‹i % k = b % k›]
      · have h2 : ¬ a < b := by omega
        simp only [h1, h2, false_and]
  · rw [if_neg ha, Nat.add_zero]
    by_cases ha2 : a = i
    · have e1 : tr i (i + k) a = i + k := by unfold tr; rw [if_pos ha2]
      rw [e1]
      by_cases hb : b = i
      · have e2 : tr i (i + k) b = i + k := by unfold tr; rw [if_pos hb]
        rw [e2, if_neg (by omega), if_neg (by omega)]
      by_cases hb2 : b = i + k
      · have e2 : tr i (i + k) b = i := by unfold tr; rw [if_neg hb, if_pos hb2]
        rw [e2, if_neg (by omega), if_neg (by intro h; omega)]
      have e2 : tr i (i + k) b = b := by unfold tr; rw [if_neg hb, if_neg hb2]
      rw [e2]
      by_cases h1 : a < b
      · have := gap_ge h1 hm
        have h2 : i + k < b := by omega
        simp only [h1, h2]
      · have h2 : ¬ i + k < b := by omega
        simp only [h1, h2, false_and]
    · have e1 : tr i (i + k) a = a := by unfold tr; rw [if_neg ha2, if_neg ha]
      rw [e1]
      by_cases hb : b = i
      · have e2 : tr i (i + k) b = i + k := by unfold tr; rw [if_pos hb]
        rw [e2]
        have h3 : a % k = (i + k) % k := by rw [hm, hb]; simp
        by_cases h1 : a < b
        · have h2 : a < i + k := by omega
          simp only [h1, h2]
        · have h2 : ¬ a < i + k := by
            intro h2; have := gap_ge h2 h3; omega
          simp only [h1, h2, false_and]
      by_cases hb2 : b = i + k
      · have e2 : tr i (i + k) b = i := by unfold tr; rw [if_neg hb, if_pos hb2]
        rw [e2]
        by_cases h1 : a < b
        · have := gap_ge h1 hm
          have h2 : a < i := by omega
          simp only [h1, h2]
        · have h2 : ¬ a < i := by omega
          simp only [h1, h2, false_and]
      have e2 : tr i (i + k) b = b := by unfold tr; rw [if_neg hb, if_neg hb2]
      rw [e2]
theorem pairs_swp {k i : Nat} {xs : List Int} (hk : 1 ≤ k) (hi : i + k < xs.length) (hl : gt xs (i + k) < gt xs i) : pairs k xs = pairs k (swp xs i (i + k)) + 1 := by
  unfold pairs
  rw [swp_length]
  rw [← S_tr (fun a => S (fun b => wp k xs a b) xs.length) (show i < xs.length by omega) hi]
  have : ∀ a, a < xs.length → S (fun b => wp k xs (tr i (i + k) a) b) xs.length = S (fun b => wp k (swp xs i (i + k)) a b) xs.length + if a = i + k then 1 else 0 := by
    intro a _
    rw [← S_tr (fun b => wp k xs (tr i (i + k) a) b) (show i < xs.length by omega) hi, S_congr fun b _ => wp_swp hk hi hl a b, S_add]
    congr 1
    by_cases h : a = i + k
    · simp only [if_pos h]; exact S_delta i 1 (by omega)
    · simp only [if_neg h]; exact S_zero fun _ _ => rfl
  rw [S_congr this, S_add, S_delta _ 1 hi]
theorem GS_pairs {k : Nat} (hk : 1 ≤ k) : ∀ {n : Nat} {xs ys : List Int}, GS k n xs ys → pairs k xs = pairs k ys + n
  | 0, _, _, h => by rw [h]; rfl
  | n + 1, xs, ys, ⟨i, h1, h2, h⟩ => by rw [pairs_swp hk h1 h2, GS_pairs hk h]; omega
theorem sorted_le {k : Nat} {ys : List Int} (hs : SortedBy k ys) {a p : Nat} (hap : a ≤ p) (hp : p < ys.length) (hm : a % k = p % k) : gt ys a ≤ gt ys p := by
  induction p using Nat.strongRecOn with
  | _ p ih =>
    by_cases e : a = p
    · subst e; exact Int.le_refl _
    · have h1 := gap_ge (by omega) hm
      by_cases hk : k = 0
      · subst hk; simp at hm; omega
      have h2 := ih (p - k) (by omega) (by omega) (by omega) (by rw [hm]; exact Nat.mod_eq_sub_mod (by omega))
      have h3 := hs (p - k) (by omega)
      rw [show p - k + k = p from by omega] at h3
      omega
theorem sorted_pairs {k : Nat} {ys : List Int} (hs : SortedBy k ys) : pairs k ys = 0 :=
  S_zero fun a _ => S_zero fun b hb => if_neg fun ⟨h1, h2, h3⟩ => by have := sorted_le hs (by omega) hb h2; omega
theorem GS_count {k n : Nat} {xs ys : List Int} (hk : 1 ≤ k) (h : GS k n xs ys) (hs : SortedBy k ys) : pairs k xs = n := by
  rw [GS_pairs hk h, sorted_pairs hs]; omega
/-- How many elements of a class are not greater than a value. -/
def cnt (k r : Nat) (v : Int) (xs : List Int) : Nat := S (fun a => if a % k = r ∧ gt xs a ≤ v then 1 else 0) xs.length
theorem cnt_swp {k i r : Nat} {v : Int} {xs : List Int} (hi : i + k < xs.length) : cnt k r v (swp xs i (i + k)) = cnt k r v xs := by
  unfold cnt
  rw [swp_length, ← S_tr (fun a => if a % k = r ∧ gt xs a ≤ v then 1 else 0) (show i < xs.length by omega) hi]
  refine S_congr fun a _ => ?_
  rw [tr_mod, gt_tr (by omega) hi]
theorem GS_cnt {k r : Nat} {v : Int} : ∀ {n : Nat} {xs ys : List Int}, GS k n xs ys → cnt k r v ys = cnt k r v xs
  | 0, _, _, h => by rw [h]
  | n + 1, xs, ys, ⟨i, h1, _, h⟩ => by rw [GS_cnt h, cnt_swp h1]
theorem sorted_uniq_le {k : Nat} {ys zs : List Int} (hl : ys.length = zs.length) (hy : SortedBy k ys) (hz : SortedBy k zs) (hc : ∀ r v, cnt k r v ys = cnt k r v zs) {p : Nat} (hp : p < ys.length) : gt zs p ≤ gt ys p := by
  refine Int.not_lt.1 fun hlt => ?_
  have := hc (p % k) (gt ys p)
  unfold cnt at this
  rw [← hl] at this
  have := S_lt (f := fun a => if a % k = p % k ∧ gt zs a ≤ gt ys p then 1 else 0) (g := fun a => if a % k = p % k ∧ gt ys a ≤ gt ys p then 1 else 0) (n := ys.length) (p := p) (fun a ha => by
    by_cases h : a % k = p % k ∧ gt zs a ≤ gt ys p
    · rw [if_pos h]
      have h1 : a ≤ p := by
        refine Nat.le_of_not_lt fun h1 => ?_
        have := sorted_le hz (Nat.le_of_lt h1) (by omega) h.1.symm
        omega
      rw [if_pos ⟨h.1, sorted_le hy h1 hp h.1⟩]; omega
    · rw [if_neg h]; omega) hp (by
    rw [if_neg (by omega), if_pos ⟨rfl, Int.le_refl _⟩]; omega)
  omega
theorem GS_uniq {k n m : Nat} {xs ys zs : List Int} (h1 : GS k n xs ys) (h2 : GS k m xs zs) (hy : SortedBy k ys) (hz : SortedBy k zs) : ys = zs := by
  have l1 := GS_length h1
  have l2 := GS_length h2
  have hc : ∀ r v, cnt k r v ys = cnt k r v zs := fun r v => by rw [GS_cnt h1, GS_cnt h2]
  refine gt_ext (by omega) fun p hp => Int.le_antisymm ?_ ?_
  · exact sorted_uniq_le (by omega) hz hy (fun r v => (hc r v).symm) (by omega)
  · exact sorted_uniq_le (by omega) hy hz hc hp

/-- A sum of some times 'a' and some times 'b'. -/
def Rep (a b n : Nat) : Prop := ∃ x y, n = x * a + y * b
def lastNo (a b n : Nat) (o : Int) : Prop := (o = -1 ∧ ∀ q, q < n → Rep a b q) ∨ ∃ m : Nat, o = m ∧ m < n ∧ ¬ Rep a b m ∧ ∀ q, m < q → q < n → Rep a b q
theorem Rep_zero (a b : Nat) : Rep a b 0 := ⟨0, 0, by simp⟩
theorem Rep_a {a b n : Nat} (h : a ≤ n) (hr : Rep a b (n - a)) : Rep a b n := by
  obtain ⟨x, y, e⟩ := hr
  exact ⟨x + 1, y, by rw [Nat.add_mul]; omega⟩
theorem Rep_b {a b n : Nat} (h : b ≤ n) (hr : Rep a b (n - b)) : Rep a b n := by
  obtain ⟨x, y, e⟩ := hr
  exact ⟨x, y + 1, by rw [Nat.add_mul]; omega⟩
theorem Rep_inv {a b n : Nat} (hr : Rep a b n) : n = 0 ∨ (a ≤ n ∧ Rep a b (n - a)) ∨ (b ≤ n ∧ Rep a b (n - b)) := by
  obtain ⟨x, y, e⟩ := hr
  cases x with
  | zero =>
    cases y with
    | zero => left; simpa using e
    | succ y => right; right; rw [Nat.add_mul] at e; exact ⟨by omega, 0, y, by omega⟩
  | succ x => right; left; rw [Nat.add_mul] at e; exact ⟨by omega, x, y, by omega⟩
theorem bezout (a b : Nat) : ∃ x y : Int, x * a + y * b = (Nat.gcd a b : Nat) := by
  induction a, b using Nat.gcd.induction with
  | H0 n => exact ⟨0, 1, by simp⟩
  | H1 m n hm ih =>
    obtain ⟨x, y, e⟩ := ih
    rw [Nat.gcd_rec]
    refine ⟨y - x * ((n / m : Nat) : Int), x, ?_⟩
    rw [← e]
    have h := Nat.div_add_mod n m
    have h' : ((n : Nat) : Int) = (m : Int) * ((n / m : Nat) : Int) + ((n % m : Nat) : Int) := by rw [← Int.natCast_mul, ← Int.natCast_add, h]
    rw [h', Int.sub_mul, Int.mul_add, Int.mul_assoc, Int.mul_comm (m : Int)]
    omega
theorem rep_big {a b n : Nat} (ha : 1 ≤ a) (hg : Nat.gcd a b = 1) (hn : a * b < n + a + b) : Rep a b n := by
  obtain ⟨x, y, e⟩ := bezout a b
  rw [hg] at e
  have hy1 := Int.emod_nonneg ((n : Int) * y) (show (a : Int) ≠ 0 by omega)
  have hy2 := Int.emod_lt_of_pos ((n : Int) * y) (show (0 : Int) < a by omega)
  have hy3 := Int.mul_ediv_add_emod ((n : Int) * y) (a : Int)
  obtain ⟨w, hw⟩ : ∃ w : Nat, ((n : Int) * y) % (a : Int) = w := ⟨(((n : Int) * y) % (a : Int)).toNat, by omega⟩
  rw [hw] at hy1 hy2 hy3
  -- n = a * (n x + b q) + w b
  have key : (n : Int) = (a : Int) * ((n : Int) * x + (b : Int) * (((n : Int) * y) / (a : Int))) + (w : Int) * (b : Int) := by
    have h1 : (n : Int) = (n : Int) * (x * a + y * b) := by rw [e]; simp
    have h2 : (n : Int) * (x * a + y * b) = (n : Int) * x * a + ((n : Int) * y) * b := by rw [Int.mul_add, Int.mul_assoc, Int.mul_assoc]
    rw [h2, ← hy3, Int.add_mul] at h1
    rw [Int.mul_add]
    have h3 : (n : Int) * x * a = (a : Int) * ((n : Int) * x) := Int.mul_comm _ _
    have h4 : (a : Int) * (((n : Int) * y) / (a : Int)) * b = (a : Int) * ((b : Int) * (((n : Int) * y) / (a : Int))) := by rw [Int.mul_assoc, Int.mul_comm (((n : Int) * y) / (a : Int))]
    omega
  have hwa : w + 1 ≤ a := by omega
  have hwb : (w + 1) * b ≤ a * b := Nat.mul_le_mul_right b hwa
  rw [Nat.add_mul] at hwb
  have hpos : -(a : Int) < (a : Int) * ((n : Int) * x + (b : Int) * (((n : Int) * y) / (a : Int))) := by
    have h5 : ((w * b : Nat) : Int) = (w : Int) * (b : Int) := Int.natCast_mul w b
    omega
  have hpos2 : 0 ≤ (n : Int) * x + (b : Int) * (((n : Int) * y) / (a : Int)) := by
    refine Int.not_lt.1 fun hneg => ?_
    have : (a : Int) * ((n : Int) * x + (b : Int) * (((n : Int) * y) / (a : Int))) ≤ (a : Int) * (-1) := Int.mul_le_mul_of_nonneg_left (by omega) (by omega)
    omega
  obtain ⟨u, hu⟩ : ∃ u : Nat, (n : Int) * x + (b : Int) * (((n : Int) * y) / (a : Int)) = u := ⟨_, (Int.toNat_of_nonneg hpos2).symm⟩
  rw [hu, ← Int.natCast_mul, ← Int.natCast_mul, ← Int.natCast_add] at key
  have key' := Int.ofNat_inj.1 key
  exact ⟨u, w, by rw [key', Nat.mul_comm a u]⟩
theorem rep_no {a b n : Nat} (ha : 1 ≤ a) (hb : 1 ≤ b) (hg : Nat.gcd a b = 1) (hn : n + a + b = a * b) : ¬ Rep a b n := by
  rintro ⟨x, y, e⟩
  have h1 : (x + 1) * a + (y + 1) * b = a * b := by rw [Nat.add_mul, Nat.add_mul]; omega
  have h2 : a ∣ (y + 1) * b := (Nat.dvd_add_right (Nat.dvd_mul_left a (x + 1))).1 (by rw [h1]; exact Nat.dvd_mul_right a b)
  have h3 : a ∣ (y + 1) := Nat.Coprime.dvd_of_dvd_mul_right (show Nat.Coprime a b from hg) h2
  have h4 := Nat.le_of_dvd (by omega) h3
  have h5 := Nat.mul_le_mul_right b h4
  have h6 : 1 * 1 ≤ (x + 1) * a := Nat.mul_le_mul (by omega) ha
  omega
theorem sylvester {a b : Nat} {o : Int} (ha : 1 ≤ a) (hb : 1 ≤ b) (hg : Nat.gcd a b = 1) (h : lastNo a b (a * b + 1) o) : o = ((a * b : Nat) : Int) - a - b := by
  rcases h with ⟨rfl, h⟩ | ⟨m, rfl, h1, h2, h3⟩
  · have hlt : a * b < a + b := by
      refine Nat.lt_of_not_le fun hle => ?_
      exact rep_no ha hb hg (n := a * b - a - b) (by omega) (h _ (by omega))
    obtain ⟨c, rfl⟩ : ∃ c, a = c + 1 := ⟨a - 1, by omega⟩
    obtain ⟨d, rfl⟩ : ∃ d, b = d + 1 := ⟨b - 1, by omega⟩
    have e : (c + 1) * (d + 1) = c * d + c + d + 1 := by rw [Nat.add_mul, Nat.mul_add]; omega
    omega
  · have h4 : m + a + b ≤ a * b := Nat.le_of_not_lt fun hl => h2 (rep_big ha hg hl)
    by_cases e : m + a + b = a * b
    · omega
    · exact absurd (h3 (a * b - a - b) (by omega) (by omega)) (rep_no ha hb hg (by omega))
end Go.X
