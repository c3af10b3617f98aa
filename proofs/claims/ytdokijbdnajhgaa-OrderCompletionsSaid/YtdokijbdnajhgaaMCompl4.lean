/-
  Texts in one: XGaps, XGale, XZero, XMake, XOut, XSet, OF, OG, XWith, XAnti, XMu, XIns.
-/
import Derived.Test.YtdokijbdnajhgaaMCompl3
import Derived.Lib.SlicesCompact
set_option linter.unusedSimpArgs false
set_option linter.unusedVariables false
namespace Go.X
/-- The sum of 'f' below 'n'. -/
def S (f : Nat → Nat) : Nat → Nat
  | 0 => 0
  | n + 1 => S f n + f n
theorem S_congr {f g : Nat → Nat} : ∀ {n : Nat}, (∀ i, i < n → f i = g i) → S f n = S g n
  | 0, _ => rfl
  | n + 1, h => by unfold S; rw [S_congr fun i hi => h i (by omega), h n (by omega)]
theorem S_add (f g : Nat → Nat) : ∀ n : Nat, S (fun i => f i + g i) n = S f n + S g n
  | 0 => rfl
  | n + 1 => by unfold S; rw [S_add f g n]; omega
theorem S_le {f g : Nat → Nat} : ∀ {n : Nat}, (∀ i, i < n → f i ≤ g i) → S f n ≤ S g n
  | 0, _ => Nat.le_refl _
  | n + 1, h => by unfold S; have := S_le (f := f) (g := g) (n := n) fun i hi => h i (by omega); have := h n (by omega); omega
theorem S_lt {f g : Nat → Nat} {n p : Nat} (h : ∀ i, i < n → f i ≤ g i) (hp : p < n) (hl : f p < g p) : S f n < S g n := by
  induction n with
  | zero => omega
  | succ n ih =>
    unfold S
    have h1 := S_le (f := f) (g := g) (n := n) fun i hi => h i (by omega)
    have h2 := h n (by omega)
    by_cases e : p = n
    · subst e; omega
    · have := ih (fun i hi => h i (by omega)) (by omega); omega
theorem S_zero {f : Nat → Nat} {n : Nat} (h : ∀ i, i < n → f i = 0) : S f n = 0 := by
  induction n with
  | zero => rfl
  | succ n ih => unfold S; rw [ih fun i hi => h i (by omega), h n (by omega)]
theorem S_split (f : Nat → Nat) (m : Nat) : ∀ n : Nat, S f (m + n) = S f m + S (fun i => f (m + i)) n
  | 0 => rfl
  | n + 1 => by show S f (m + n) + f (m + n) = S f m + (S (fun i => f (m + i)) n + f (m + n)); rw [S_split f m n]; omega
theorem S_mono (f : Nat → Nat) {m n : Nat} (h : m ≤ n) : S f m ≤ S f n := by
  obtain ⟨k, rfl⟩ : ∃ k, n = m + k := ⟨n - m, by omega⟩
  rw [S_split]; omega
theorem S_delta (i : Nat) (c : Nat) : ∀ {n : Nat}, i < n → S (fun a => if a = i then c else 0) n = c := by
  intro n hi
  induction n with
  | zero => omega
  | succ n ih =>
    unfold S
    by_cases e : i = n
    · subst e
      rw [if_pos rfl, S_zero fun a ha => if_neg (by omega)]; omega
    · rw [ih (by omega), if_neg (by omega)]; rfl
/-- Two indices for one another. -/
def tr (i j a : Nat) : Nat := if a = i then j else if a = j then i else a
theorem S_upd (f : Nat → Nat) (i c : Nat) {n : Nat} (hi : i < n) : S (fun a => if a = i then c else f a) n + f i = S f n + c := by
  induction n with
  | zero => omega
  | succ n ih =>
    unfold S
    by_cases e : i = n
    · subst e
      rw [if_pos rfl, S_congr (g := f) fun a ha => if_neg (by omega)]; omega
    · have := ih (by omega)
      rw [if_neg (by omega)]; omega
theorem S_tr (f : Nat → Nat) {i j n : Nat} (hi : i < n) (hj : j < n) : S (fun a => f (tr i j a)) n = S f n := by
  by_cases e : i = j
  · subst e
    refine S_congr fun a _ => ?_
    unfold tr; split <;> simp [*]
  have h1 := S_upd f i (f j) hi
  have h2 := S_upd (fun a => if a = i then f j else f a) j (f i) hj
  rw [if_neg (by omega)] at h2
  have h3 : S (fun a => f (tr i j a)) n = S (fun a => if a = j then f i else if a = i then f j else f a) n := by
    refine S_congr fun a _ => ?_
    unfold tr
    by_cases h : a = i
    · subst h; simp [e]
    · by_cases h' : a = j
      · subst h'; simp [h]
      · simp [h, h']
  rw [h3]; omega

/-- Whether a pair is out of order by a gap. -/
def wp (k : Nat) (xs : List Int) (a b : Nat) : Nat := if a < b ∧ a % k = b % k ∧ gt xs b < gt xs a then 1 else 0
def pairs (k : Nat) (xs : List Int) : Nat := S (fun a => S (fun b => wp k xs a b) xs.length) xs.length
theorem gap_ge {k a b : Nat} (h : a < b) (e : a % k = b % k) : a + k ≤ b := by
  have h1 := Nat.div_add_mod a k
  have h2 := Nat.div_add_mod b k
  rw [e] at h1
  have : a / k < b / k := by
    refine Nat.lt_of_not_le fun hl => ?_
    have := Nat.mul_le_mul_left k hl
    omega
  have h3 : k * (a / k + 1) ≤ k * (b / k) := Nat.mul_le_mul_left k this
  rw [Nat.mul_add] at h3
  omega
theorem gt_tr {xs : List Int} {i j : Nat} (hi : i < xs.length) (hj : j < xs.length) (a : Nat) : gt (swp xs i j) a = gt xs (tr i j a) := by
  rw [gt_swp hi hj]
  unfold tr
  by_cases h : a = i
  · subst h
    by_cases h' : a = j
    · subst h'; simp
    · simp [h']
  · by_cases h' : a = j
    · subst h'; simp [h]
    · simp [h, h']
theorem tr_mod {k i a : Nat} : tr i (i + k) a % k = a % k := by
  unfold tr
  split
  · rename_i h; subst h; simp
  · split
    · rename_i h; subst h; simp
    · rfl
theorem wp_swp {k i : Nat} {xs : List Int} (hk : 1 ≤ k) (hi : i + k < xs.length) (hl : gt xs (i + k) < gt xs i) (a b : Nat) :
    wp k xs (tr i (i + k) a) (tr i (i + k) b) = wp k (swp xs i (i + k)) a b + if a = i + k then (if b = i then 1 else 0) else 0 := by
  unfold wp
  rw [gt_tr (by omega) hi, gt_tr (by omega) hi, tr_mod, tr_mod]
  rcases Decidable.em (¬ a % k = b % k) with hm | hm
  · rw [if_neg (by omega), if_neg (by omega)]
    by_cases h1 : a = i + k
    · by_cases h2 : b = i
      · subst h1; subst h2; simp at hm
      · simp [h2]
    · simp [h1]
  have hm : a % k = b % k := Decidable.not_not.1 hm
  by_cases ha : a = i + k
  · by_cases hb : b = i
    · subst ha hb
      have e1 : tr b (b + k) (b + k) = b := by unfold tr; rw [if_neg (by omega), if_pos rfl]
      have e2 : tr b (b + k) b = b + k := by unfold tr; rw [if_pos rfl]
      rw [e1, e2, if_pos ⟨by omega, hm, hl⟩, if_neg (by omega), if_pos rfl, if_pos rfl]
    · rw [if_pos ha, if_neg hb, Nat.add_zero]
      have e1 : tr i (i + k) a = i := by unfold tr; rw [if_neg (by omega), if_pos ha]
      rw [e1]
      by_cases hb2 : b = a
      · subst hb2; rw [e1, if_neg (by omega), if_neg (by omega)]
      have e2 : tr i (i + k) b = b := by unfold tr; rw [if_neg hb, if_neg (by omega)]
      rw [e2]
      have : i % k = b % k := by rw [← hm, ha]; simp
      by_cases h1 : i < b
      · have := gap_ge h1 this
        have h2 : a < b := by omega
        simp only [h1, h2, hm, this, true_and, ‹i % k = b % k›]
      · have h2 : ¬ a < b := by omega
        simp only [h1, h2, false_and]
  · rw [if_neg ha, Nat.add_zero]
    by_cases ha2 : a = i
    · have e1 : tr i (i + k) a = i + k := by unfold tr; rw [if_pos ha2]
      rw [e1]
      by_cases hb : b = i
      · have e2 : tr i (i + k) b = i + k := by unfold tr; rw [if_pos hb]
        rw [e2, if_neg (by omega), if_neg (by omega)]
      by_cases hb2 : b = i + k
      · have e2 : tr i (i + k) b = i := by unfold tr; rw [if_neg hb, if_pos hb2]
        rw [e2, if_neg (by omega), if_neg (by intro h; omega)]
      have e2 : tr i (i + k) b = b := by unfold tr; rw [if_neg hb, if_neg hb2]
      rw [e2]
      by_cases h1 : a < b
      · have := gap_ge h1 hm
        have h2 : i + k < b := by omega
        simp only [h1, h2]
      · have h2 : ¬ i + k < b := by omega
        simp only [h1, h2, false_and]
    · have e1 : tr i (i + k) a = a := by unfold tr; rw [if_neg ha2, if_neg ha]
      rw [e1]
      by_cases hb : b = i
      · have e2 : tr i (i + k) b = i + k := by unfold tr; rw [if_pos hb]
        rw [e2]
        have h3 : a % k = (i + k) % k := by rw [hm, hb]; simp
        by_cases h1 : a < b
        · have h2 : a < i + k := by omega
          simp only [h1, h2]
        · have h2 : ¬ a < i + k := by
            intro h2; have := gap_ge h2 h3; omega
          simp only [h1, h2, false_and]
      by_cases hb2 : b = i + k
      · have e2 : tr i (i + k) b = i := by unfold tr; rw [if_neg hb, if_pos hb2]
        rw [e2]
        by_cases h1 : a < b
        · have := gap_ge h1 hm
          have h2 : a < i := by omega
          simp only [h1, h2]
        · have h2 : ¬ a < i := by omega
          simp only [h1, h2, false_and]
      have e2 : tr i (i + k) b = b := by unfold tr; rw [if_neg hb, if_neg hb2]
      rw [e2]
theorem pairs_swp {k i : Nat} {xs : List Int} (hk : 1 ≤ k) (hi : i + k < xs.length) (hl : gt xs (i + k) < gt xs i) : pairs k xs = pairs k (swp xs i (i + k)) + 1 := by
  unfold pairs
  rw [swp_length]
  rw [← S_tr (fun a => S (fun b => wp k xs a b) xs.length) (show i < xs.length by omega) hi]
  have : ∀ a, a < xs.length → S (fun b => wp k xs (tr i (i + k) a) b) xs.length = S (fun b => wp k (swp xs i (i + k)) a b) xs.length + if a = i + k then 1 else 0 := by
    intro a _
    rw [← S_tr (fun b => wp k xs (tr i (i + k) a) b) (show i < xs.length by omega) hi, S_congr fun b _ => wp_swp hk hi hl a b, S_add]
    congr 1
    by_cases h : a = i + k
    · simp only [if_pos h]; exact S_delta i 1 (by omega)
    · simp only [if_neg h]; exact S_zero fun _ _ => rfl
  rw [S_congr this, S_add, S_delta _ 1 hi]
theorem GS_pairs {k : Nat} (hk : 1 ≤ k) : ∀ {n : Nat} {xs ys : List Int}, GS k n xs ys → pairs k xs = pairs k ys + n
  | 0, _, _, h => by rw [h]; rfl
  | n + 1, xs, ys, ⟨i, h1, h2, h⟩ => by rw [pairs_swp hk h1 h2, GS_pairs hk h]; omega
theorem sorted_le {k : Nat} {ys : List Int} (hs : SortedBy k ys) {a p : Nat} (hap : a ≤ p) (hp : p < ys.length) (hm : a % k = p % k) : gt ys a ≤ gt ys p := by
  induction p using Nat.strongRecOn with
  | _ p ih =>
    by_cases e : a = p
    · subst e; exact Int.le_refl _
    · have h1 := gap_ge (by omega) hm
      by_cases hk : k = 0
      · subst hk; simp at hm; omega
      have h2 := ih (p - k) (by omega) (by omega) (by omega) (by rw [hm]; exact Nat.mod_eq_sub_mod (by omega))
      have h3 := hs (p - k) (by omega)
      rw [show p - k + k = p from by omega] at h3
      omega
theorem sorted_pairs {k : Nat} {ys : List Int} (hs : SortedBy k ys) : pairs k ys = 0 :=
  S_zero fun a _ => S_zero fun b hb => if_neg fun ⟨h1, h2, h3⟩ => by have := sorted_le hs (by omega) hb h2; omega
theorem GS_count {k n : Nat} {xs ys : List Int} (hk : 1 ≤ k) (h : GS k n xs ys) (hs : SortedBy k ys) : pairs k xs = n := by
  rw [GS_pairs hk h, sorted_pairs hs]; omega
/-- How many elements of a class are not greater than a value. -/
def cnt (k r : Nat) (v : Int) (xs : List Int) : Nat := S (fun a => if a % k = r ∧ gt xs a ≤ v then 1 else 0) xs.length
theorem cnt_swp {k i r : Nat} {v : Int} {xs : List Int} (hi : i + k < xs.length) : cnt k r v (swp xs i (i + k)) = cnt k r v xs := by
  unfold cnt
  rw [swp_length, ← S_tr (fun a => if a % k = r ∧ gt xs a ≤ v then 1 else 0) (show i < xs.length by omega) hi]
  refine S_congr fun a _ => ?_
  rw [tr_mod, gt_tr (by omega) hi]
theorem GS_cnt {k r : Nat} {v : Int} : ∀ {n : Nat} {xs ys : List Int}, GS k n xs ys → cnt k r v ys = cnt k r v xs
  | 0, _, _, h => by rw [h]
  | n + 1, xs, ys, ⟨i, h1, _, h⟩ => by rw [GS_cnt h, cnt_swp h1]
theorem sorted_uniq_le {k : Nat} {ys zs : List Int} (hl : ys.length = zs.length) (hy : SortedBy k ys) (hz : SortedBy k zs) (hc : ∀ r v, cnt k r v ys = cnt k r v zs) {p : Nat} (hp : p < ys.length) : gt zs p ≤ gt ys p := by
  refine Int.not_lt.1 fun hlt => ?_
  have := hc (p % k) (gt ys p)
  unfold cnt at this
  rw [← hl] at this
  have := S_lt (f := fun a => if a % k = p % k ∧ gt zs a ≤ gt ys p then 1 else 0) (g := fun a => if a % k = p % k ∧ gt ys a ≤ gt ys p then 1 else 0) (n := ys.length) (p := p) (fun a ha => by
    by_cases h : a % k = p % k ∧ gt zs a ≤ gt ys p
    · rw [if_pos h]
      have h1 : a ≤ p := by
        refine Nat.le_of_not_lt fun h1 => ?_
        have := sorted_le hz (Nat.le_of_lt h1) (by omega) h.1.symm
        omega
      rw [if_pos ⟨h.1, sorted_le hy h1 hp h.1⟩]; omega
    · rw [if_neg h]; omega) hp (by
    rw [if_neg (by omega), if_pos ⟨rfl, Int.le_refl _⟩]; omega)
  omega
theorem GS_uniq {k n m : Nat} {xs ys zs : List Int} (h1 : GS k n xs ys) (h2 : GS k m xs zs) (hy : SortedBy k ys) (hz : SortedBy k zs) : ys = zs := by
  have l1 := GS_length h1
  have l2 := GS_length h2
  have hc : ∀ r v, cnt k r v ys = cnt k r v zs := fun r v => by rw [GS_cnt h1, GS_cnt h2]
  refine gt_ext (by omega) fun p hp => Int.le_antisymm ?_ ?_
  · exact sorted_uniq_le (by omega) hz hy (fun r v => (hc r v).symm) (by omega)
  · exact sorted_uniq_le (by omega) hy hz hc hp

/-- A sum of some times 'a' and some times 'b'. -/
def Rep (a b n : Nat) : Prop := ∃ x y, n = x * a + y * b
def lastNo (a b n : Nat) (o : Int) : Prop := (o = -1 ∧ ∀ q, q < n → Rep a b q) ∨ ∃ m : Nat, o = m ∧ m < n ∧ ¬ Rep a b m ∧ ∀ q, m < q → q < n → Rep a b q
theorem Rep_zero (a b : Nat) : Rep a b 0 := ⟨0, 0, by simp⟩
theorem Rep_a {a b n : Nat} (h : a ≤ n) (hr : Rep a b (n - a)) : Rep a b n := by
  obtain ⟨x, y, e⟩ := hr
  exact ⟨x + 1, y, by rw [Nat.add_mul]; omega⟩
theorem Rep_b {a b n : Nat} (h : b ≤ n) (hr : Rep a b (n - b)) : Rep a b n := by
  obtain ⟨x, y, e⟩ := hr
  exact ⟨x, y + 1, by rw [Nat.add_mul]; omega⟩
theorem Rep_inv {a b n : Nat} (hr : Rep a b n) : n = 0 ∨ (a ≤ n ∧ Rep a b (n - a)) ∨ (b ≤ n ∧ Rep a b (n - b)) := by
  obtain ⟨x, y, e⟩ := hr
  cases x with
  | zero =>
    cases y with
    | zero => left; simpa using e
    | succ y => right; right; rw [Nat.add_mul] at e; exact ⟨by omega, 0, y, by omega⟩
  | succ x => right; left; rw [Nat.add_mul] at e; exact ⟨by omega, x, y, by omega⟩
theorem bezout (a b : Nat) : ∃ x y : Int, x * a + y * b = (Nat.gcd a b : Nat) := by
  induction a, b using Nat.gcd.induction with
  | H0 n => exact ⟨0, 1, by simp⟩
  | H1 m n hm ih =>
    obtain ⟨x, y, e⟩ := ih
    rw [Nat.gcd_rec]
    refine ⟨y - x * ((n / m : Nat) : Int), x, ?_⟩
    rw [← e]
    have h := Nat.div_add_mod n m
    have h' : ((n : Nat) : Int) = (m : Int) * ((n / m : Nat) : Int) + ((n % m : Nat) : Int) := by rw [← Int.natCast_mul, ← Int.natCast_add, h]
    rw [h', Int.sub_mul, Int.mul_add, Int.mul_assoc, Int.mul_comm (m : Int)]
    omega
theorem rep_big {a b n : Nat} (ha : 1 ≤ a) (hg : Nat.gcd a b = 1) (hn : a * b < n + a + b) : Rep a b n := by
  obtain ⟨x, y, e⟩ := bezout a b
  rw [hg] at e
  have hy1 := Int.emod_nonneg ((n : Int) * y) (show (a : Int) ≠ 0 by omega)
  have hy2 := Int.emod_lt_of_pos ((n : Int) * y) (show (0 : Int) < a by omega)
  have hy3 := Int.mul_ediv_add_emod ((n : Int) * y) (a : Int)
  obtain ⟨w, hw⟩ : ∃ w : Nat, ((n : Int) * y) % (a : Int) = w := ⟨(((n : Int) * y) % (a : Int)).toNat, by omega⟩
  rw [hw] at hy1 hy2 hy3
  -- n = a * (n x + b q) + w b
  have key : (n : Int) = (a : Int) * ((n : Int) * x + (b : Int) * (((n : Int) * y) / (a : Int))) + (w : Int) * (b : Int) := by
    have h1 : (n : Int) = (n : Int) * (x * a + y * b) := by rw [e]; simp
    have h2 : (n : Int) * (x * a + y * b) = (n : Int) * x * a + ((n : Int) * y) * b := by rw [Int.mul_add, Int.mul_assoc, Int.mul_assoc]
    rw [h2, ← hy3, Int.add_mul] at h1
    rw [Int.mul_add]
    have h3 : (n : Int) * x * a = (a : Int) * ((n : Int) * x) := Int.mul_comm _ _
    have h4 : (a : Int) * (((n : Int) * y) / (a : Int)) * b = (a : Int) * ((b : Int) * (((n : Int) * y) / (a : Int))) := by rw [Int.mul_assoc, Int.mul_comm (((n : Int) * y) / (a : Int))]
    omega
  have hwa : w + 1 ≤ a := by omega
  have hwb : (w + 1) * b ≤ a * b := Nat.mul_le_mul_right b hwa
  rw [Nat.add_mul] at hwb
  have hpos : -(a : Int) < (a : Int) * ((n : Int) * x + (b : Int) * (((n : Int) * y) / (a : Int))) := by
    have h5 : ((w * b : Nat) : Int) = (w : Int) * (b : Int) := Int.natCast_mul w b
    omega
  have hpos2 : 0 ≤ (n : Int) * x + (b : Int) * (((n : Int) * y) / (a : Int)) := by
    refine Int.not_lt.1 fun hneg => ?_
    have : (a : Int) * ((n : Int) * x + (b : Int) * (((n : Int) * y) / (a : Int))) ≤ (a : Int) * (-1) := Int.mul_le_mul_of_nonneg_left (by omega) (by omega)
    omega
  obtain ⟨u, hu⟩ : ∃ u : Nat, (n : Int) * x + (b : Int) * (((n : Int) * y) / (a : Int)) = u := ⟨_, (Int.toNat_of_nonneg hpos2).symm⟩
  rw [hu, ← Int.natCast_mul, ← Int.natCast_mul, ← Int.natCast_add] at key
  have key' := Int.ofNat_inj.1 key
  exact ⟨u, w, by rw [key', Nat.mul_comm a u]⟩
theorem rep_no {a b n : Nat} (ha : 1 ≤ a) (hb : 1 ≤ b) (hg : Nat.gcd a b = 1) (hn : n + a + b = a * b) : ¬ Rep a b n := by
  rintro ⟨x, y, e⟩
  have h1 : (x + 1) * a + (y + 1) * b = a * b := by rw [Nat.add_mul, Nat.add_mul]; omega
  have h2 : a ∣ (y + 1) * b := (Nat.dvd_add_right (Nat.dvd_mul_left a (x + 1))).1 (by rw [h1]; exact Nat.dvd_mul_right a b)
  have h3 : a ∣ (y + 1) := Nat.Coprime.dvd_of_dvd_mul_right (show Nat.Coprime a b from hg) h2
  have h4 := Nat.le_of_dvd (by omega) h3
  have h5 := Nat.mul_le_mul_right b h4
  have h6 : 1 * 1 ≤ (x + 1) * a := Nat.mul_le_mul (by omega) ha
  omega
theorem sylvester {a b : Nat} {o : Int} (ha : 1 ≤ a) (hb : 1 ≤ b) (hg : Nat.gcd a b = 1) (h : lastNo a b (a * b + 1) o) : o = ((a * b : Nat) : Int) - a - b := by
  rcases h with ⟨rfl, h⟩ | ⟨m, rfl, h1, h2, h3⟩
  · have hlt : a * b < a + b := by
      refine Nat.lt_of_not_le fun hle => ?_
      exact rep_no ha hb hg (n := a * b - a - b) (by omega) (h _ (by omega))
    obtain ⟨c, rfl⟩ : ∃ c, a = c + 1 := ⟨a - 1, by omega⟩
    obtain ⟨d, rfl⟩ : ∃ d, b = d + 1 := ⟨b - 1, by omega⟩
    have e : (c + 1) * (d + 1) = c * d + c + d + 1 := by rw [Nat.add_mul, Nat.mul_add]; omega
    omega
  · have h4 : m + a + b ≤ a * b := Nat.le_of_not_lt fun hl => h2 (rep_big ha hg hl)
    by_cases e : m + a + b = a * b
    · omega
    · exact absurd (h3 (a * b - a - b) (by omega) (by omega)) (rep_no ha hb hg (by omega))
end Go.X
namespace Go.X
theorem mod_cancel {k h a p : Nat} : (h + a) % k = (p + h) % k ↔ a % k = p % k := by
  constructor
  · intro e
    rcases Nat.le_total a p with hl | hl
    · have h1 := Nat.sub_mod_eq_zero_of_mod_eq e.symm
      rw [show p + h - (h + a) = p - a from by omega] at h1
      have h2 := Nat.div_add_mod (p - a) k
      rw [h1] at h2
      have h3 : p = a + k * ((p - a) / k) := by omega
      rw [h3, Nat.add_mul_mod_self_left]
    · have h1 := Nat.sub_mod_eq_zero_of_mod_eq e
      rw [show h + a - (p + h) = a - p from by omega] at h1
      have h2 := Nat.div_add_mod (a - p) k
      rw [h1] at h2
      have h3 : a = p + k * ((a - p) / k) := by omega
      rw [h3, Nat.add_mul_mod_self_left]
  · intro e
    rw [Nat.add_comm p h, Nat.add_mod h a, Nat.add_mod h p, e]
theorem gale_karp {h k n : Nat} {xs ys : List Int} (hx : SortedBy h xs) (hg : GS k n xs ys) (hy : SortedBy k ys) : SortedBy h ys := by
  intro p hp
  refine Int.not_lt.1 fun hlt => ?_
  have hl := GS_length hg
  have e1 := GS_cnt (r := p % k) (v := gt ys (p + h)) hg
  have e2 := GS_cnt (r := (p + h) % k) (v := gt ys (p + h)) hg
  -- the class of p in ys: all its small elements lie ahead of p
  have u1 : cnt k (p % k) (gt ys (p + h)) ys ≤ S (fun a => if a % k = p % k then 1 else 0) p := by
    unfold cnt
    rw [show ys.length = p + (ys.length - p) from by omega, S_split]
    rw [S_zero (f := fun i => if (p + i) % k = p % k ∧ gt ys (p + i) ≤ gt ys (p + h) then 1 else 0) fun i hi => if_neg fun ⟨h1, h2⟩ => by
      have := sorted_le hy (a := p) (p := p + i) (by omega) (by omega) h1.symm
      omega]
    refine S_le fun i hi => ?_
    by_cases c : i % k = p % k
    · rw [if_pos c]; split <;> omega
    · rw [if_neg c, if_neg fun e => c e.1]; omega
  -- the class of p + h in ys: all up to p + h are small
  have u2 : S (fun a => if a % k = (p + h) % k then 1 else 0) (h + (p + 1)) ≤ cnt k ((p + h) % k) (gt ys (p + h)) ys := by
    unfold cnt
    refine Nat.le_trans ?_ (S_mono _ (show h + (p + 1) ≤ ys.length by omega))
    refine S_le fun i hi => ?_
    by_cases c : i % k = (p + h) % k
    · rw [if_pos c, if_pos ⟨c, sorted_le hy (by omega) hp c⟩]; omega
    · rw [if_neg c]; omega
  rw [S_split] at u2
  rw [S_congr (f := fun i => if (h + i) % k = (p + h) % k then 1 else 0) (g := fun a => if a % k = p % k then 1 else 0) fun i _ => by simp only [mod_cancel]] at u2
  -- in xs the elements of the second class, h before, are small ones of the first
  have u3 : cnt k ((p + h) % k) (gt ys (p + h)) xs ≤ S (fun a => if a % k = (p + h) % k then 1 else 0) h + cnt k (p % k) (gt ys (p + h)) xs := by
    unfold cnt
    have h3 : S (fun a => if a % k = (p + h) % k ∧ gt xs a ≤ gt ys (p + h) then 1 else 0) xs.length = S (fun a => if a % k = (p + h) % k ∧ gt xs a ≤ gt ys (p + h) then 1 else 0) (h + (xs.length - h)) := by
      rw [show h + (xs.length - h) = xs.length from by omega]
    rw [h3, S_split]
    refine Nat.add_le_add (S_le fun i _ => ?_) (Nat.le_trans (S_le (g := fun a => if a % k = p % k ∧ gt xs a ≤ gt ys (p + h) then 1 else 0) fun i hi => ?_) (S_mono _ (Nat.sub_le _ _)))
    · by_cases c : i % k = (p + h) % k
      · rw [if_pos c]; split <;> omega
      · rw [if_neg c, if_neg fun e => c e.1]; omega
    · by_cases c : (h + i) % k = (p + h) % k ∧ gt xs (h + i) ≤ gt ys (p + h)
      · rw [if_pos c, if_pos]; · omega
        refine ⟨mod_cancel.1 c.1, ?_⟩
        have := hx i (by omega)
        rw [Nat.add_comm i h] at this
        omega
      · rw [if_neg c]; omega
  have u4 : S (fun a => if a % k = p % k then 1 else 0) (p + 1) = S (fun a => if a % k = p % k then 1 else 0) p + 1 := by
    show S _ p + (if p % k = p % k then 1 else 0) = _
    rw [if_pos rfl]
  omega
theorem sorted_steps {a : Nat} {ys : List Int} (hs : SortedBy a ys) : ∀ (x p : Nat), p + x * a < ys.length → gt ys p ≤ gt ys (p + x * a)
  | 0, p, _ => by simp
  | x + 1, p, h => by
    rw [Nat.add_mul, Nat.one_mul] at h ⊢
    have h1 := sorted_steps hs x p (by omega)
    have h2 := hs (p + x * a) (by omega)
    rw [← Nat.add_assoc]
    omega
theorem sorted_rep {a b p q : Nat} {ys : List Int} (ha : SortedBy a ys) (hb : SortedBy b ys) (hpq : p ≤ q) (hr : Rep a b (q - p)) (hq : q < ys.length) : gt ys p ≤ gt ys q := by
  obtain ⟨x, y, e⟩ := hr
  have h1 := sorted_steps ha x p (by omega)
  have h2 := sorted_steps hb y (p + x * a) (by omega)
  rw [show p + x * a + y * b = q from by omega] at h2
  omega
theorem sorted_far {a b p q : Nat} {far : Int} {ys : List Int} (h1 : 1 ≤ a) (hg : Nat.gcd a b = 1) (ha : SortedBy a ys) (hb : SortedBy b ys) (hf : far = ((a * b : Nat) : Int) - a - b) (hpq : p ≤ q) (hd : (p : Int) + far < q) (hq : q < ys.length) : gt ys p ≤ gt ys q :=
  sorted_rep ha hb hpq (rep_big h1 hg (by omega)) hq
theorem sorted_one {ys : List Int} (h : SortedBy 1 ys) : inOrd ys = true := (inOrd_iff ys).2 h
end Go.X
namespace Go.X
def NetOk (n : Nat) (ls : List (Int × Int)) : Prop := ∀ c ∈ ls, ∃ a b : Nat, c = ((a : Int), (b : Int)) ∧ a < n ∧ b < n ∧ a ≠ b
def NetLt (n : Nat) (ls : List (Int × Int)) : Prop := ∀ c ∈ ls, ∃ a b : Nat, c = ((a : Int), (b : Int)) ∧ a < b ∧ b < n
theorem NetLt.ok {n : Nat} {ls : List (Int × Int)} (h : NetLt n ls) : NetOk n ls := fun c hc => by
  obtain ⟨a, b, e, h1, h2⟩ := h c hc
  exact ⟨a, b, e, by omega, h2, by omega⟩
theorem NetLt.append {n : Nat} {xs ys : List (Int × Int)} (h : NetLt n xs) (h' : NetLt n ys) : NetLt n (xs ++ ys) := fun c hc => by
  rw [List.mem_append] at hc
  exact hc.elim (h c) (h' c)
theorem NetLt.cons {n : Nat} {x : Int × Int} {xs : List (Int × Int)} (h : NetLt n (x :: xs)) : NetLt n xs := fun c hc => h c (List.mem_cons_of_mem _ hc)
theorem chk_netLt {m : Nat} {ls : List (Int × Int)} (h : chkNet validC (m : Int) ls = 0) : NetLt m ls := fun c hc => by
  obtain ⟨_, _, _, hv⟩ := chkNet_ok h
  obtain ⟨i, hi, rfl⟩ := mem_gt hc
  obtain ⟨h1, h2, h3, h4⟩ := validC_nat (hv i hi)
  exact ⟨_, _, Prod.ext h1 h2, h3, h4⟩
theorem netLt_chk {m : Nat} {ls : List (Int × Int)} (h1 : 1 ≤ m) (h2 : m ≤ 10) (hl : ls.length ≤ 200) (h : NetLt m ls) : chkNet validC (m : Int) ls = 0 :=
  chkNet_all (by omega) (by omega) (by omega) fun i hi => by
    obtain ⟨a, b, e, h3, h4⟩ := h _ (gt_mem hi)
    rw [e]
    exact decide_eq_true ⟨by dsimp only; omega, by dsimp only; omega, by dsimp only; omega⟩
/-- Thresholds run along with the values. -/
theorem thr_run {n p : Nat} {t : Int} : ∀ {ls : List (Int × Int)} {g : WF} {xs : List Int}, NetOk n ls → xs.length = n → (∀ i, i < n → g i p = decide (t ≤ gt xs i)) → ∀ i, i < n → runF ls g i p = decide (t ≤ gt (runV ls xs) i)
  | [], _, _, _, _, h => h
  | c :: cs, g, xs, hok, hl, h => by
    obtain ⟨a, b, rfl, ha, hb, hab⟩ := hok c (List.mem_cons_self ..)
    unfold runF runV
    simp only [Int.toNat_natCast]
    refine thr_run (fun d hd => hok d (List.mem_cons_of_mem _ hd)) (by rw [exch_length]; exact hl) fun i hi => ?_
    rw [gt_exch (by omega) (by omega) hab]
    unfold exF
    by_cases h1 : i = a
    · rw [if_pos h1, if_pos h1, h a ha, h b hb, ← Bool.decide_and]
      congr 1; simp only [eq_iff_iff]; omega
    · by_cases h2 : i = b
      · rw [if_neg h1, if_pos h2, if_neg h1, if_pos h2, h a ha, h b hb, ← Bool.decide_or]
        congr 1; simp only [eq_iff_iff]; omega
      · rw [if_neg h1, if_neg h2, if_neg h1, if_neg h2, h i hi]
/-- The pattern of a threshold. -/
def thrN (n : Nat) (xs : List Int) (t : Int) : Nat := colN n fun i => decide (t ≤ gt xs i)
theorem patF_thr {n : Nat} {xs : List Int} {t : Int} : ∀ i, i < n → patF n i (thrN n xs t) = decide (t ≤ gt xs i) := fun i hi => by
  unfold patF thrN
  rw [colN_bit, decide_eq_true hi, decide_eq_true (colN_lt n _)]; rfl
theorem colF_thr {n : Nat} {ls : List (Int × Int)} {xs : List Int} {t : Int} (hok : NetOk n ls) (hl : xs.length = n) {i : Nat} (hi : i < n) : colF ls n (thrN n xs t) i = decide (t ≤ gt (runV ls xs) i) :=
  thr_run hok hl patF_thr i hi
/-- No pattern fails: any values come out in order. -/
theorem zero_one {n : Nat} {ls : List (Int × Int)} {xs : List Int} (hok : NetOk n ls) (hl : xs.length = n) (hno : ∀ q, q < 2 ^ n → badC n (colF ls n q) = false) : SortedBy 1 (runV ls xs) := by
  intro i hi
  rw [runV_length, hl] at hi
  have h1 := (badC_false n _).1 (hno (thrN n xs (gt (runV ls xs) i)) (colN_lt n _)) i hi
  rw [colF_thr hok hl (by omega), colF_thr hok hl hi] at h1
  exact of_decide_eq_true (h1 (decide_eq_true (Int.le_refl _)))
/-- The values of a pattern. -/
def bitsV (n p : Nat) : List Int := (List.range n).map fun i => ((p / 2 ^ i % 2 : Nat) : Int)
theorem bitsV_length (n p : Nat) : (bitsV n p).length = n := by simp [bitsV]
theorem bitsV_succ (n p : Nat) : bitsV (n + 1) p = bitsV n p ++ [((p / 2 ^ n % 2 : Nat) : Int)] := by simp [bitsV, List.range_succ]
theorem gt_bitsV {n p i : Nat} (hi : i < n) : gt (bitsV n p) i = ((p / 2 ^ i % 2 : Nat) : Int) := by
  rw [gt_eq (by rw [bitsV_length]; exact hi)]; simp [bitsV]
theorem bit_thr {p i : Nat} : p.testBit i = decide ((1 : Int) ≤ ((p / 2 ^ i % 2 : Nat) : Int)) := by
  rw [Nat.testBit_eq_decide_div_mod_eq]
  congr 1; simp only [eq_iff_iff]; omega
theorem colF_bits {n p : Nat} {ls : List (Int × Int)} (hok : NetOk n ls) (hp : p < 2 ^ n) {i : Nat} (hi : i < n) : colF ls n p i = decide ((1 : Int) ≤ gt (runV ls (bitsV n p)) i) :=
  thr_run hok (bitsV_length n p) (fun i hi => by rw [gt_bitsV hi, ← bit_thr]; unfold patF; rw [decide_eq_true hi, decide_eq_true hp]; rfl) i hi
/-- What runs has values among those that came in. -/
theorem runV_range {lo hi : Int} : ∀ {ls : List (Int × Int)} {xs : List Int} {n : Nat}, NetOk n ls → xs.length = n → (∀ i, i < n → lo ≤ gt xs i ∧ gt xs i ≤ hi) → ∀ i, i < n → lo ≤ gt (runV ls xs) i ∧ gt (runV ls xs) i ≤ hi
  | [], _, _, _, _, h => h
  | c :: cs, xs, n, hok, hl, h => by
    obtain ⟨a, b, rfl, ha, hb, hab⟩ := hok c (List.mem_cons_self ..)
    unfold runV
    simp only [Int.toNat_natCast]
    refine runV_range (fun d hd => hok d (List.mem_cons_of_mem _ hd)) (by rw [exch_length]; exact hl) fun i hi => ?_
    have h1 := h a ha
    have h2 := h b hb
    have h3 := h i hi
    rw [gt_exch (by omega) (by omega) hab]
    split
    · omega
    · split <;> omega
theorem bitsV_range {n p : Nat} {ls : List (Int × Int)} (hok : NetOk n ls) : ∀ i, i < n → 0 ≤ gt (runV ls (bitsV n p)) i ∧ gt (runV ls (bitsV n p)) i ≤ 1 :=
  runV_range hok (bitsV_length n p) fun i hi => by rw [gt_bitsV hi]; omega
theorem gt_runV_bits {n p : Nat} {ls : List (Int × Int)} (hok : NetOk n ls) (hp : p < 2 ^ n) {i : Nat} (hi : i < n) : gt (runV ls (bitsV n p)) i = if colF ls n p i then 1 else 0 := by
  have h1 := colF_bits hok hp hi
  have h2 := bitsV_range (p := p) hok i hi
  rw [h1]
  split
  · rename_i h; have := of_decide_eq_true h; omega
  · rename_i h; have := of_decide_eq_false ((Bool.not_eq_true _).mp h); omega
/-- A pattern that fails comes out out of order, and the other way round. -/
theorem inOrd_bits {n p : Nat} {ls : List (Int × Int)} (hok : NetOk n ls) (hp : p < 2 ^ n) : inOrd (runV ls (bitsV n p)) = !badC n (colF ls n p) := by
  cases hb : badC n (colF ls n p)
  · simp only [Bool.not_false]
    rw [inOrd_iff]
    intro i hi
    rw [runV_length, bitsV_length] at hi
    have h1 := (badC_false n _).1 hb i hi
    rw [gt_runV_bits hok hp (by omega), gt_runV_bits hok hp hi]
    cases h2 : colF ls n p i
    · simp; split <;> omega
    · rw [h1 h2]; simp
  · obtain ⟨i, hi, h1, h2⟩ := (badC_iff n _).1 hb
    simp only [Bool.not_true]
    rw [Bool.eq_false_iff, ne_eq, inOrd_iff]
    intro h
    have := h i (by rw [runV_length, bitsV_length]; exact hi)
    rw [gt_runV_bits hok hp (by omega), gt_runV_bits hok hp hi, h1, h2] at this
    simp at this
/-- All patterns come out in order if all values do. -/
theorem no_bad {n : Nat} {ls : List (Int × Int)} (hok : NetOk n ls) (h : ∀ xs : List Int, xs.length = n → SortedBy 1 (runV ls xs)) : ∀ q, q < 2 ^ n → badC n (colF ls n q) = false := fun q hq => by
  have h1 := inOrd_bits hok hq
  rw [sorted_one (h _ (bitsV_length n q))] at h1
  cases hb : badC n (colF ls n q)
  · rfl
  · rw [hb] at h1; cases h1
theorem sorted_mono {xs : List Int} (h : SortedBy 1 xs) {a b : Nat} (hab : a ≤ b) (hb : b < xs.length) : gt xs a ≤ gt xs b := sorted_le h hab hb (by simp [Nat.mod_one])
/-- Sorted values stay as they are. -/
theorem runV_sorted {n : Nat} : ∀ {ls : List (Int × Int)} {xs : List Int}, NetLt n ls → xs.length = n → SortedBy 1 xs → runV ls xs = xs
  | [], _, _, _, _ => rfl
  | c :: cs, xs, hok, hl, h => by
    obtain ⟨a, b, rfl, hab, hb⟩ := hok c (List.mem_cons_self ..)
    unfold runV
    simp only [Int.toNat_natCast]
    have e : exch xs a b = xs := by
      unfold exch
      rw [if_neg]
      have := sorted_mono h (Nat.le_of_lt hab) (by omega)
      omega
    rw [e]
    exact runV_sorted hok.cons hl h
theorem before_ok {n : Nat} {ls ms : List (Int × Int)} (h1 : NetLt n ls) (h2 : NetLt n ms) (hno : ∀ q, q < 2 ^ n → badC n (colF ls n q) = false) : ∀ q, q < 2 ^ n → badC n (colF (ms ++ ls) n q) = false :=
  no_bad (h2.append h1).ok fun xs hl => by rw [runV_append]; exact zero_one h1.ok (by rw [runV_length]; exact hl) hno
theorem after_ok {n : Nat} {ls ms : List (Int × Int)} (h1 : NetLt n ls) (h2 : NetLt n ms) (hno : ∀ q, q < 2 ^ n → badC n (colF ls n q) = false) : ∀ q, q < 2 ^ n → badC n (colF (ls ++ ms) n q) = false :=
  no_bad (h1.append h2).ok fun xs hl => by
    rw [runV_append]
    have hs := zero_one (xs := xs) h1.ok hl hno
    rw [runV_sorted h2 (by rw [runV_length]; exact hl) hs]; exact hs
/-- What Fails says, decided. -/
theorem fails_no {n p : Nat} {col : Nat → Nat → Bool} {b : Bool} (h : failsR n col p b) (hno : ∀ q, q < 2 ^ n → badC n (col q) = false) : b = false := by
  rcases h with ⟨rfl, h1, h2, _⟩ | ⟨h, _⟩
  · rw [hno p h1] at h2; cases h2
  · exact h
theorem no_fails {n p : Nat} {col : Nat → Nat → Bool} (h : failsR n col p false) : ∀ q, q < 2 ^ n → badC n (col q) = false := by
  rcases h with ⟨h, _⟩ | ⟨_, _, h⟩
  · cases h
  · exact h
theorem yes_fails {n p : Nat} {col : Nat → Nat → Bool} (h : failsR n col p true) : p < 2 ^ n ∧ badC n (col p) = true := by
  rcases h with ⟨_, h1, h2, _⟩ | ⟨h, _⟩
  · exact ⟨h1, h2⟩
  · cases h
/-- Idle comparators: nothing turns at them. -/
def idleB (n : Nat) (ls : List (Int × Int)) (i : Nat) : Bool := (List.range 1024).all fun p => !(runF (ls.take i) (patF n) (gt ls i).1.toNat p && !runF (ls.take i) (patF n) (gt ls i).2.toNat p)
theorem idleB_iff {n : Nat} {ls : List (Int × Int)} {i : Nat} : idleB n ls i = true ↔ ∀ p, p < 1024 → runF (ls.take i) (patF n) (gt ls i).1.toNat p = true → runF (ls.take i) (patF n) (gt ls i).2.toNat p = true := by
  unfold idleB
  rw [List.all_eq_true]
  constructor
  · intro h p hp h1
    have := h p (List.mem_range.2 hp)
    rw [h1] at this
    simpa using this
  · intro h p hp
    have := h p (List.mem_range.1 hp)
    cases h1 : runF (ls.take i) (patF n) (gt ls i).1.toNat p
    · simp
    · simp [this h1]
def idleF (n : Nat) (ls : List (Int × Int)) (k : Nat) : List Int := ((List.range k).filter (idleB n ls)).map fun i : Nat => (i : Int)
theorem idleF_succ (n : Nat) (ls : List (Int × Int)) (k : Nat) : idleF n ls (k + 1) = idleF n ls k ++ if idleB n ls k then [(k : Int)] else [] := by
  unfold idleF
  have e : List.filter (idleB n ls) [k] = if idleB n ls k then [k] else [] := by simp only [List.filter_cons, List.filter_nil]
  rw [List.range_succ, List.filter_append, List.map_append, e]
  generalize idleB n ls k = c
  cases c <;> rfl
theorem idleF_length (n : Nat) (ls : List (Int × Int)) (k : Nat) : (idleF n ls k).length ≤ k := by
  unfold idleF
  rw [List.length_map]
  exact Nat.le_trans (List.length_filter_le ..) (by simp)
/-- What is left when the idle comparators among the first 'k' are left out. -/
def restF (n : Nat) (ls : List (Int × Int)) : Nat → List (Int × Int)
  | 0 => []
  | k + 1 => restF n ls k ++ if idleB n ls k then [] else [gt ls k]
theorem restF_length (n : Nat) (ls : List (Int × Int)) : ∀ k, (restF n ls k).length ≤ k
  | 0 => Nat.le_refl _
  | k + 1 => by unfold restF; rw [List.length_append]; have := restF_length n ls k; split <;> simp <;> omega
theorem restF_mem {n : Nat} {ls : List (Int × Int)} : ∀ {k : Nat}, k ≤ ls.length → ∀ c ∈ restF n ls k, c ∈ ls
  | 0, _ => fun c hc => by cases hc
  | k + 1, hk => fun c hc => by
    unfold restF at hc
    rw [List.mem_append] at hc
    rcases hc with h | h
    · exact restF_mem (by omega) c h
    · split at h
      · cases h
      · rw [List.mem_singleton] at h; rw [h]; exact gt_mem (by omega)
theorem exF_congr {f g : WF} {a b p : Nat} (h : ∀ i, f i p = g i p) : ∀ i, exF f a b i p = exF g a b i p := fun i => by
  unfold exF; rw [h a, h b, h i]
theorem exF_idle {f : WF} {a b p : Nat} (h : f a p = true → f b p = true) : ∀ i, exF f a b i p = f i p := fun i => by
  unfold exF
  by_cases h1 : i = a
  · subst h1; rw [if_pos rfl]
    cases h2 : f i p
    · rfl
    · rw [h h2]; rfl
  · by_cases h2 : i = b
    · subst h2; rw [if_neg h1, if_pos rfl]
      cases h3 : f a p
      · rfl
      · rw [h h3]; rfl
    · rw [if_neg h1, if_neg h2]
theorem rest_run {n p : Nat} {ls : List (Int × Int)} (hp : p < 1024) : ∀ {k : Nat}, k ≤ ls.length → ∀ i, runF (restF n ls k) (patF n) i p = runF (ls.take k) (patF n) i p
  | 0, _ => fun i => by rw [List.take_zero]; rfl
  | k + 1, hk => fun i => by
    have ih := rest_run (n := n) hp (ls := ls) (k := k) (by omega)
    rw [take_snoc (by omega), runF_append]
    show runF (restF n ls k ++ if idleB n ls k then [] else [gt ls k]) (patF n) i p = exF (runF (ls.take k) (patF n)) _ _ i p
    rw [runF_append]
    cases h : idleB n ls k
    · simp only [Bool.false_eq_true, if_false]
      exact exF_congr ih i
    · simp only [if_true]
      rw [exF_idle (idleB_iff.1 h p hp)]
      exact ih i
theorem badC_congr {n : Nat} {f g : Nat → Bool} (h : ∀ i, f i = g i) : badC n f = badC n g := by
  have : f = g := funext h
  rw [this]
theorem rest_ok {n : Nat} {ls : List (Int × Int)} (hn : n ≤ 10) (hno : ∀ q, q < 2 ^ n → badC n (colF ls n q) = false) : ∀ q, q < 2 ^ n → badC n (colF (restF n ls ls.length) n q) = false := fun q hq => by
  have h1 : (2 : Nat) ^ n ≤ 2 ^ 10 := Nat.pow_le_pow_right (by omega) hn
  rw [← hno q hq]
  refine badC_congr fun i => ?_
  unfold colF
  rw [rest_run (by omega) (Nat.le_refl _), List.take_length]
end Go.X
namespace Go.X
/-- The comparators of a pass, from 'i' on, 'f' of them looked at. -/
def innerF (p r d : Nat) : Nat → Nat → List (Int × Int)
  | 0, _ => []
  | f + 1, i => (if i &&& p = r then [((i : Int), (i : Int) + (d : Int))] else []) ++ innerF p r d f (i + 1)
/-- The passes of a distance. -/
def passM (n p : Nat) : Nat → Nat → Nat → Nat → List (Int × Int)
  | 0, _, r, d => innerF p r d (n - d) 0
  | k + 1, q, r, d => innerF p r d (n - d) 0 ++ passM n p k (q / 2) p (q - p)
def outM (n T : Nat) : Nat → List (Int × Int)
  | 0 => []
  | e + 1 => passM n (2 ^ e) (T - e) (2 ^ T) 0 (2 ^ e) ++ outM n T e
def topT (n : Nat) : Nat := if n ≤ 2 then 0 else if n ≤ 4 then 1 else if n ≤ 8 then 2 else 3
def mergeF (n : Nat) : List (Int × Int) := if n ≤ 1 then [] else outM n (topT n) (topT n + 1)
theorem mergeF_short : ∀ n, n ≤ 10 → (mergeF n).length ≤ 31 := by decide
theorem topT_eq {n T : Nat} (hn : n ≤ 10) (h1 : T = 0 ∨ 2 ^ T < n) (h2 : ¬ 2 * 2 ^ T < n) : T = topT n := by
  have hT : T < 4 := by
    refine Nat.lt_of_not_le fun h => ?_
    have : 2 ^ 4 ≤ 2 ^ T := Nat.pow_le_pow_right (by omega) h
    omega
  unfold topT
  have : T = 0 ∨ T = 1 ∨ T = 2 ∨ T = 3 := by omega
  rcases this with rfl | rfl | rfl | rfl <;> (simp at h1 h2 ⊢; (repeat' split) <;> omega)
theorem topT_le (n : Nat) : topT n ≤ 3 := by unfold topT; (repeat' split) <;> omega
theorem app_len {α : Type} {xs ys zs : List α} (h : xs ++ ys = zs) : xs.length ≤ zs.length := by rw [← h]; simp
def passR (n p k q : Nat) : List (Int × Int) := match k with
  | 0 => []
  | k + 1 => passM n p k (q / 2) p (q - p)
theorem passM_eq (n p k q r d : Nat) : passM n p k q r d = innerF p r d (n - d) 0 ++ passR n p k q := by
  cases k <;> simp [passM, passR]
theorem passR_pos {n p k q : Nat} (hk : 0 < k) : passR n p k q = passM n p (k - 1) (q / 2) p (q - p) := by
  obtain ⟨j, rfl⟩ : ∃ j, k = j + 1 := ⟨k - 1, by omega⟩
  rfl
theorem outM_pos {n T e : Nat} (he : 0 < e) : outM n T e = passM n (2 ^ (e - 1)) (T - (e - 1)) (2 ^ T) 0 (2 ^ (e - 1)) ++ outM n T (e - 1) := by
  obtain ⟨j, rfl⟩ : ∃ j, e = j + 1 := ⟨e - 1, by omega⟩
  rfl
theorem half_pos {p e : Nat} (h : p = 2 ^ e / 2) (hp : 0 < p) : 0 < e ∧ p = 2 ^ (e - 1) := by
  cases e with
  | zero => simp at h; omega
  | succ e => refine ⟨by omega, ?_⟩; rw [h, Nat.pow_succ]; simp
theorem half_zero {p e : Nat} (h : p = 2 ^ e / 2) (hp : ¬ 0 < p) : e = 0 := by
  cases e with
  | zero => rfl
  | succ e => have := Nat.two_pow_pos e; rw [Nat.pow_succ] at h; omega
theorem pass_q {p e T : Nat} (hp : p = 2 ^ (e - 1)) (he : e ≤ T + 1) : 2 ^ T = p * 2 ^ (T - (e - 1)) := by
  rw [hp, ← Nat.pow_add]; congr 1; omega
theorem pass_k {p q k : Nat} (hp : 0 < p) (h : q = p * 2 ^ k) : (q = p → k = 0) ∧ (q ≠ p → 0 < k ∧ q / 2 = p * 2 ^ (k - 1) ∧ 2 * p ≤ q) := by
  cases k with
  | zero => simp at h; exact ⟨fun _ => rfl, fun hn => absurd h hn⟩
  | succ k =>
    have h1 := Nat.two_pow_pos k
    have h2 : q = 2 * (p * 2 ^ k) := by rw [h, Nat.pow_succ]; simp only [Nat.mul_comm, Nat.mul_left_comm]
    have h3 : p ≤ p * 2 ^ k := Nat.le_mul_of_pos_right _ h1
    refine ⟨fun e => by omega, fun _ => ⟨by omega, ?_, by omega⟩⟩
    rw [h2]; simp
theorem innerF_step {p r d n i : Nat} (h : i < n - d) {ms rest tot : List (Int × Int)} (ht : ms ++ (innerF p r d (n - d - i) i ++ rest) = tot) :
    (i &&& p = r → (ms ++ [((i : Int), ((i + d : Nat) : Int))]) ++ (innerF p r d (n - d - (i + 1)) (i + 1) ++ rest) = tot) ∧ (¬ i &&& p = r → ms ++ (innerF p r d (n - d - (i + 1)) (i + 1) ++ rest) = tot) := by
  have e : n - d - i = (n - d - (i + 1)) + 1 := by omega
  rw [e] at ht
  simp only [innerF] at ht
  constructor
  · intro hc; rw [if_pos hc] at ht; rw [← ht]; simp
  · intro hc; rw [if_neg hc] at ht; rw [← ht]; simp
theorem innerF_end {p r d n i : Nat} (h : n - d ≤ i) {ms rest tot : List (Int × Int)} (ht : ms ++ (innerF p r d (n - d - i) i ++ rest) = tot) : ms ++ rest = tot := by
  rw [show n - d - i = 0 from by omega] at ht
  simpa [innerF] using ht
theorem outM_short {n : Nat} (h1 : 1 < n) (h2 : n ≤ 10) : (outM n (topT n) (topT n + 1)).length ≤ 31 := by
  have := mergeF_short n h2
  unfold mergeF at this
  rwa [if_neg (by omega)] at this
theorem pow_topT {n : Nat} : 2 ^ topT n ≤ 8 := Nat.pow_le_pow_right (n := 2) (by omega) (topT_le n)
theorem and_le_l {a b : Nat} : a &&& b ≤ a := Nat.and_le_left
end Go.X
namespace Go.X
theorem asc_ext : ∀ {xs ys : List Int}, xs.Pairwise (· < ·) → ys.Pairwise (· < ·) → (∀ x, x ∈ xs ↔ x ∈ ys) → xs = ys
  | [], [], _, _, _ => rfl
  | [], y :: ys, _, _, h => by have := (h y).2 (List.mem_cons_self ..); cases this
  | x :: xs, [], _, _, h => by have := (h x).1 (List.mem_cons_self ..); cases this
  | x :: xs, y :: ys, hx, hy, h => by
    rw [List.pairwise_cons] at hx hy
    have e : x = y := by
      have h1 := (h x).1 (List.mem_cons_self ..)
      have h2 := (h y).2 (List.mem_cons_self ..)
      rw [List.mem_cons] at h1 h2
      rcases h1 with h1 | h1
      · exact h1
      · rcases h2 with h2 | h2
        · exact h2.symm
        · have := hx.1 _ h2; have := hy.1 _ h1; omega
    subst e
    rw [asc_ext hx.2 hy.2 fun z => ?_]
    have := h z
    rw [List.mem_cons, List.mem_cons] at this
    constructor
    · intro hz
      rcases this.1 (.inr hz) with h1 | h1
      · subst h1; have := hx.1 _ hz; omega
      · exact h1
    · intro hz
      rcases this.2 (.inr hz) with h1 | h1
      · subst h1; have := hy.1 _ hz; omega
      · exact h1
theorem compact_asc_aux {zs : List Int} (hs : zs.Pairwise (· ≤ ·)) : ∀ m, m ≤ zs.length → (Lib.compactUpTo zs.toArray m).Pairwise (· < ·) ∧ (∀ x, x ∈ Lib.compactUpTo zs.toArray m ↔ ∃ j, j < m ∧ zs.toArray[j]! = x)
  | 0, _ => ⟨by simp [Lib.compactUpTo], fun x => by simp [Lib.compactUpTo]⟩
  | m + 1, hm => by
    obtain ⟨h1, h2⟩ := compact_asc_aux hs m (by omega)
    have ge : ∀ (i : Nat), i < zs.length → zs.toArray[i]! = zs[i]! := fun i hi => by simp
    have le : ∀ i j : Nat, i ≤ j → j < zs.length → zs.toArray[i]! ≤ zs.toArray[j]! := fun i j hij hj => by
      rw [ge i (by omega), ge j hj, getElem!_pos zs i (by omega), getElem!_pos zs j hj]
      rcases Nat.lt_or_eq_of_le hij with h | h
      · exact List.pairwise_iff_getElem.1 hs i j (by omega) hj h
      · subst h; exact Int.le_refl _
    rw [Lib.compactUpTo_succ]
    cases hk : Lib.keeps zs.toArray m
    · simp only [Bool.false_eq_true, if_false, List.append_nil]
      refine ⟨h1, fun x => ⟨fun hx => ?_, fun hx => ?_⟩⟩
      · obtain ⟨j, hj, e⟩ := (h2 x).1 hx; exact ⟨j, by omega, e⟩
      · obtain ⟨j, hj, e⟩ := hx
        by_cases hjm : j = m
        · subst hjm
          have hj0 : j ≠ 0 := fun h0 => by subst h0; simp [Lib.keeps] at hk
          have he : zs.toArray[j]! = zs.toArray[j - 1]! := Classical.byContradiction fun hne => by rw [Lib.keeps_pos hne] at hk; cases hk
          exact (h2 x).2 ⟨j - 1, by omega, he ▸ e⟩
        · exact (h2 x).2 ⟨j, by omega, e⟩
    · simp only [if_true]
      constructor
      · rw [List.pairwise_append]
        refine ⟨h1, by simp, fun a ha b hb => ?_⟩
        rw [List.mem_singleton] at hb
        subst hb
        obtain ⟨j, hj, rfl⟩ := (h2 a).1 ha
        have h3 := le j (m - 1) (by omega) (by omega)
        have h4 := le (m - 1) m (by omega) (by omega)
        have h5 : zs.toArray[m]! ≠ zs.toArray[m - 1]! := fun e => by rw [Lib.keeps_neg (by omega) e] at hk; cases hk
        omega
      · intro x
        rw [List.mem_append, h2 x, List.mem_singleton]
        constructor
        · rintro (⟨j, hj, e⟩ | e)
          · exact ⟨j, by omega, e⟩
          · exact ⟨m, by omega, e.symm⟩
        · rintro ⟨j, hj, e⟩
          by_cases hjm : j = m
          · subst hjm; exact .inr e.symm
          · exact .inl ⟨j, by omega, e⟩
theorem compact_asc {zs : List Int} (hs : zs.Pairwise (· ≤ ·)) : (Lib.compact zs).Pairwise (· < ·) ∧ (∀ x, x ∈ Lib.compact zs ↔ x ∈ zs) := by
  obtain ⟨h1, h2⟩ := compact_asc_aux hs zs.length (Nat.le_refl _)
  refine ⟨h1, fun x => ?_⟩
  unfold Lib.compact
  rw [h2, List.mem_iff_getElem]
  constructor
  · rintro ⟨j, hj, e⟩; exact ⟨j, hj, by rw [← e, getElem!_pos zs.toArray j (by simpa using hj)]; simp⟩
  · rintro ⟨j, hj, e⟩; exact ⟨j, hj, by rw [← e, getElem!_pos zs.toArray j (by simpa using hj)]; simp⟩
theorem sort_asc (xs : List Int) : (xs.mergeSort fun x y => decide (x ≤ y)).Pairwise (· ≤ ·) ∧ ∀ x, x ∈ xs.mergeSort (fun x y => decide (x ≤ y)) ↔ x ∈ xs := by
  refine ⟨?_, fun x => List.mem_mergeSort⟩
  have := List.pairwise_mergeSort (le := fun x y : Int => decide (x ≤ y)) (by intro a b c h1 h2; simp at *; omega) (by intro a b; simp; omega) xs
  exact this.imp (by intro a b h; simpa using h)
/-- A list of numbers, rising: what a test takes among the first ones. -/
def filtF (N : Nat) (f : Nat → Bool) : List Int := ((List.range N).filter f).map fun q : Nat => (q : Int)
theorem filtF_asc (N : Nat) (f : Nat → Bool) : (filtF N f).Pairwise (· < ·) := by
  unfold filtF
  rw [List.pairwise_map]
  exact (List.pairwise_lt_range.filter _).imp (by intro a b h; omega)
theorem filtF_mem {N : Nat} {f : Nat → Bool} {x : Int} : x ∈ filtF N f ↔ ∃ q : Nat, q < N ∧ f q = true ∧ (q : Int) = x := by
  unfold filtF
  rw [List.mem_map]
  constructor
  · rintro ⟨q, hq, e⟩; rw [List.mem_filter, List.mem_range] at hq; exact ⟨q, hq.1, hq.2, e⟩
  · rintro ⟨q, h1, h2, e⟩; exact ⟨q, by rw [List.mem_filter, List.mem_range]; exact ⟨h1, h2⟩, e⟩
theorem filtF_congr {N : Nat} {f g : Nat → Bool} (h : ∀ q, q < N → f q = g q) : filtF N f = filtF N g := by
  unfold filtF
  rw [List.filter_congr fun q hq => h q (List.mem_range.1 hq)]
theorem filtF_succ (N : Nat) (f : Nat → Bool) : filtF (N + 1) f = filtF N f ++ if f N then [(N : Int)] else [] := by
  unfold filtF
  have e : List.filter f [N] = if f N then [N] else [] := by simp only [List.filter_cons, List.filter_nil]
  rw [List.range_succ, List.filter_append, List.map_append, e]
  cases f N <;> rfl
theorem filtF_length (N : Nat) (f : Nat → Bool) : (filtF N f).length ≤ N := by
  unfold filtF
  rw [List.length_map]
  exact Nat.le_trans (List.length_filter_le ..) (by simp)
/-- Sorted and compacted. -/
theorem compact_sort_eq {N : Nat} {f : Nat → Bool} {xs : List Int} (h : ∀ x, x ∈ xs ↔ ∃ q : Nat, q < N ∧ f q = true ∧ (q : Int) = x) : Lib.compact (xs.mergeSort fun x y => decide (x ≤ y)) = filtF N f := by
  obtain ⟨h1, h2⟩ := sort_asc xs
  obtain ⟨h3, h4⟩ := compact_asc h1
  refine asc_ext h3 (filtF_asc N f) fun x => ?_
  rw [h4, h2, h, filtF_mem]
/-- The patterns that come out. -/
def colP (n : Nat) (ls : List (Int × Int)) (p : Nat) : Nat := colN n fun i => runF ls (patF n) i p
theorem colP_lt (n : Nat) (ls : List (Int × Int)) (p : Nat) : colP n ls p < 2 ^ n := colN_lt n _
def outB (n : Nat) (ls : List (Int × Int)) (q : Nat) : Bool := (List.range (2 ^ n)).any fun p => colP n ls p == q
theorem outB_iff {n : Nat} {ls : List (Int × Int)} {q : Nat} : outB n ls q = true ↔ ∃ p, p < 2 ^ n ∧ colP n ls p = q := by
  unfold outB
  rw [List.any_eq_true]
  constructor
  · rintro ⟨p, hp, e⟩; exact ⟨p, List.mem_range.1 hp, by simpa using e⟩
  · rintro ⟨p, hp, e⟩; exact ⟨p, List.mem_range.2 hp, by simpa using e⟩
def outsF (n : Nat) (ls : List (Int × Int)) : List Int := filtF (2 ^ n) (outB n ls)
def outL (n : Nat) (ls : List (Int × Int)) (k : Nat) : List Int := (List.range k).map fun p => ((colP n ls p : Nat) : Int)
theorem outL_succ (n : Nat) (ls : List (Int × Int)) (k : Nat) : outL n ls (k + 1) = outL n ls k ++ [((colP n ls k : Nat) : Int)] := by simp [outL, List.range_succ]
theorem outL_length (n : Nat) (ls : List (Int × Int)) (k : Nat) : (outL n ls k).length = k := by simp [outL]
theorem outL_ne {n : Nat} {ls : List (Int × Int)} : outL n ls (2 ^ n) ≠ [] := fun e => by
  have := congrArg List.length e
  rw [outL_length] at this
  have := Nat.two_pow_pos n
  simp at *
theorem outs_eq (n : Nat) (ls : List (Int × Int)) : Lib.compact ((outL n ls (2 ^ n)).mergeSort fun x y => decide (x ≤ y)) = outsF n ls := by
  refine compact_sort_eq fun x => ?_
  unfold outL
  rw [List.mem_map]
  constructor
  · rintro ⟨p, hp, rfl⟩; exact ⟨_, colP_lt n ls p, outB_iff.2 ⟨p, List.mem_range.1 hp, rfl⟩, rfl⟩
  · rintro ⟨q, hq, h1, rfl⟩
    obtain ⟨p, hp, e⟩ := outB_iff.1 h1
    exact ⟨p, List.mem_range.2 hp, by rw [e]⟩
theorem sort_ne {xs : List Int} (h : xs ≠ []) : (xs.mergeSort fun x y => decide (x ≤ y)) ≠ [] := fun e => h (List.eq_nil_of_length_eq_zero (by have := congrArg List.length e; rw [List.length_mergeSort] at this; simpa using this))
theorem sort_len (xs : List Int) : (xs.mergeSort fun x y => decide (x ≤ y)).length = xs.length := List.length_mergeSort _
/-- Patterns in order come out as they are. -/
theorem col_self {n q : Nat} {ls : List (Int × Int)} (hok : NetLt n ls) (hq : q < 2 ^ n) (hb : badC n (fun i => q.testBit i) = false) : colP n ls q = q := by
  have hs : SortedBy 1 (bitsV n q) := by
    intro i hi
    rw [bitsV_length] at hi
    rw [gt_bitsV (by omega), gt_bitsV hi]
    have h1 := (badC_false n _).1 hb i hi
    have a1 := @bit_thr q i
    have a2 := @bit_thr q (i + 1)
    rw [a1, a2] at h1
    have h2 : q / 2 ^ i % 2 < 2 := Nat.mod_lt _ (by omega)
    by_cases c : (1 : Int) ≤ ((q / 2 ^ i % 2 : Nat) : Int)
    · have := of_decide_eq_true (h1 (decide_eq_true c)); omega
    · omega
  have hr := runV_sorted hok (bitsV_length n q) hs
  unfold colP
  refine Nat.eq_of_testBit_eq fun i => ?_
  rw [colN_bit]
  by_cases hi : i < n
  · rw [decide_eq_true hi, Bool.true_and]
    have := colF_bits hok.ok hq hi
    unfold colF at this
    rw [this, hr, gt_bitsV hi, ← bit_thr]
  · rw [decide_eq_false hi, Bool.false_and]
    symm
    exact Nat.testBit_lt_two_pow (Nat.lt_of_lt_of_le hq (Nat.pow_le_pow_right (by omega) (by omega)))
theorem outs_sorts {n : Nat} {ls : List (Int × Int)} (hok : NetLt n ls) (hno : ∀ q, q < 2 ^ n → badC n (colF ls n q) = false) : outsF n ls = filtF (2 ^ n) fun q => !badC n fun i => q.testBit i := by
  refine filtF_congr fun q hq => ?_
  cases hb : badC n (fun i => q.testBit i)
  · exact outB_iff.2 ⟨q, hq, col_self hok hq hb⟩
  · show outB n ls q = false
    rw [Bool.eq_false_iff]
    intro h
    obtain ⟨p, hp, rfl⟩ := outB_iff.1 h
    have h1 := hno p hp
    rw [badC_iff] at hb
    obtain ⟨i, hi, h2, h3⟩ := hb

    unfold colP at h2 h3
    rw [colN_bit, decide_eq_true (by omega : i < n), Bool.true_and] at h2
    rw [colN_bit, decide_eq_true hi, Bool.true_and] at h3
    have h4 := (badC_false n _).1 h1 i hi h2
    unfold colF at h4
    rw [h3] at h4; cases h4
theorem count_sorted : ∀ n, n ≤ 10 → (filtF (2 ^ n) fun q => !badC n fun i => q.testBit i).length = n + 1 := by
  intro n hn
  have : n = 0 ∨ n = 1 ∨ n = 2 ∨ n = 3 ∨ n = 4 ∨ n = 5 ∨ n = 6 ∨ n = 7 ∨ n = 8 ∨ n = 9 ∨ n = 10 := by omega
  rcases this with rfl | rfl | rfl | rfl | rfl | rfl | rfl | rfl | rfl | rfl | rfl <;> decide +kernel
theorem outs_count {n : Nat} {ls : List (Int × Int)} (hn : n ≤ 10) (hok : NetLt n ls) (hno : ∀ q, q < 2 ^ n → badC n (colF ls n q) = false) : (outsF n ls).length = n + 1 := by
  rw [outs_sorts hok hno]; exact count_sorted n hn
/-! ### Idle comparators, in their list -/
theorem idleF_tail (n : Nat) (ls : List (Int × Int)) (k : Nat) : ∀ d, ∃ tl, idleF n ls (k + d) = idleF n ls k ++ tl ∧ ∀ x ∈ tl, (k : Int) ≤ x
  | 0 => ⟨[], by simp, fun x hx => by cases hx⟩
  | d + 1 => by
    obtain ⟨tl, h1, h2⟩ := idleF_tail n ls k d
    refine ⟨tl ++ if idleB n ls (k + d) then [((k + d : Nat) : Int)] else [], by rw [← Nat.add_assoc, idleF_succ, h1, List.append_assoc], fun x hx => ?_⟩
    rw [List.mem_append] at hx
    rcases hx with hx | hx
    · exact h2 x hx
    · split at hx
      · rw [List.mem_singleton] at hx; subst hx; omega
      · cases hx
theorem idle_yes {n : Nat} {ls : List (Int × Int)} {k L : Nat} (hk : k < L) (hb : idleB n ls k = true) : (idleF n ls k).length < (idleF n ls L).length ∧ gt (idleF n ls L) (idleF n ls k).length = (k : Int) ∧ (idleF n ls (k + 1)).length = (idleF n ls k).length + 1 := by
  obtain ⟨tl, h1, _⟩ := idleF_tail n ls (k + 1) (L - (k + 1))
  rw [show k + 1 + (L - (k + 1)) = L from by omega, idleF_succ, hb, if_pos rfl] at h1
  have h2 : (idleF n ls (k + 1)).length = (idleF n ls k).length + 1 := by rw [idleF_succ, hb, if_pos rfl]; simp
  refine ⟨by rw [h1]; simp, ?_, h2⟩
  rw [h1]
  unfold gt
  rw [List.getD_eq_getElem?_getD, List.append_assoc, List.getElem?_append_right (Nat.le_refl _)]
  simp
theorem idle_no {n : Nat} {ls : List (Int × Int)} {k L : Nat} (hk : k < L) (hb : idleB n ls k = false) : ((idleF n ls k).length < (idleF n ls L).length → gt (idleF n ls L) (idleF n ls k).length ≠ (k : Int)) ∧ (idleF n ls (k + 1)).length = (idleF n ls k).length := by
  obtain ⟨tl, h1, h2⟩ := idleF_tail n ls (k + 1) (L - (k + 1))
  have h3 : idleF n ls (k + 1) = idleF n ls k := by rw [idleF_succ, hb]; simp
  rw [show k + 1 + (L - (k + 1)) = L from by omega, h3] at h1
  refine ⟨fun hlt => ?_, by rw [h3]⟩
  rw [h1] at hlt ⊢
  rw [List.length_append] at hlt
  unfold gt
  rw [List.getD_eq_getElem?_getD, List.getElem?_append_right (Nat.le_refl _), Nat.sub_self]
  cases tl with
  | nil => simp at hlt
  | cons x tl =>
    have := h2 x (List.mem_cons_self ..)
    simp only [List.getElem?_cons_zero, Option.getD_some]
    omega
/-- Whether exchange says that something turned. -/
theorem idle_exC {n i a b : Nat} {ls : List (Int × Int)} {ws : List Nat} (hw : Wi (runF (ls.take i) (patF n)) ws) (ha : (gt ls i).1.toNat = a) (hb : (gt ls i).2.toNat = b) (ha' : a < 10) (hb' : b < 10) : (!exC ws a b 16) = idleB n ls i := by
  cases h : exC ws a b 16
  · symm
    refine idleB_iff.2 fun p hp h1 => ?_
    rw [ha] at h1; rw [hb]
    refine Classical.byContradiction fun h2 => ?_
    have := (exC_iff hw ha' hb').2 ⟨p, hp, h1, (Bool.not_eq_true _).mp h2⟩
    rw [h] at this; cases this
  · obtain ⟨p, hp, h1, h2⟩ := (exC_iff hw ha' hb').1 h
    symm
    show idleB n ls i = false
    rw [Bool.eq_false_iff]
    intro hi
    have := idleB_iff.1 hi p hp (by rw [ha]; exact h1)
    rw [hb, h2] at this; cases this
theorem idle_is {n : Nat} {ls : List (Int × Int)} {k L : Nat} (hk : k < L) (h1 : (idleF n ls k).length < (idleF n ls L).length) (h2 : gt (idleF n ls L) (idleF n ls k).length = (k : Int)) : idleB n ls k = true := by
  cases hb : idleB n ls k
  · exact absurd h2 ((idle_no hk hb).1 h1)
  · rfl
theorem idle_not {n : Nat} {ls : List (Int × Int)} {k L : Nat} (hk : k < L) (h : ¬ ((idleF n ls k).length < (idleF n ls L).length ∧ gt (idleF n ls L) (idleF n ls k).length = (k : Int))) : idleB n ls k = false := by
  cases hb : idleB n ls k
  · rfl
  · exact absurd ⟨(idle_yes hk hb).1, (idle_yes hk hb).2.1⟩ h
theorem merge_chk : ∀ m : Nat, 1 ≤ m → m ≤ 10 → chkNet validC (m : Int) (mergeF m) = 0 := by
  intro m h1 h2
  have : m = 1 ∨ m = 2 ∨ m = 3 ∨ m = 4 ∨ m = 5 ∨ m = 6 ∨ m = 7 ∨ m = 8 ∨ m = 9 ∨ m = 10 := by omega
  rcases this with rfl | rfl | rfl | rfl | rfl | rfl | rfl | rfl | rfl | rfl <;> decide +kernel
theorem merge_lt {m : Nat} (h1 : 1 ≤ m) (h2 : m ≤ 10) : NetLt m (mergeF m) := chk_netLt (merge_chk m h1 h2)
theorem tame_lt {m most : Nat} {ls : List (Int × Int)} (h1 : 1 ≤ m) (h2 : m ≤ 10) (h3 : most ≤ 200) : NetLt m (tameF m most false ls) := chk_netLt (tameF_validC h1 h2 h3)
theorem rest_lt {n k : Nat} {ls : List (Int × Int)} (h : NetLt n ls) (hk : k ≤ ls.length) : NetLt n (restF n ls k) := fun c hc => h c (restF_mem hk c hc)
theorem nt {b : Bool} (h : b = false) : ¬ (b = true) := by rw [h]; simp
theorem failsAt {n p : Nat} {col : Nat → Nat → Bool} {b c : Bool} (h : failsR n col p b) (e : b = c) : failsR n col p c := e ▸ h
end Go.X
namespace Go.X
theorem colN_set {n : Nat} {g : Nat → Bool} (h : g n = true) : colN n g ||| 1 * 2 ^ n = colN (n + 1) g := by rw [colN_or]; simp [colN, h]
theorem colN_skip {n : Nat} {g : Nat → Bool} (h : g n = false) : colN n g = colN (n + 1) g := by simp [colN, h]
theorem pow12 {n : Nat} (h : n ≤ 12) : 2 ^ n ≤ 4096 := Nat.pow_le_pow_right (by omega : 0 < 2) h
theorem bit_zero {s x : Nat} : (s / 2 ^ x &&& 1) = 0 ↔ s.testBit x = false := by rw [bit_and_one]; cases s.testBit x <;> simp
theorem bit_nz {s x : Nat} (h : ¬ (s / 2 ^ x &&& 1) = 0) : s.testBit x = true := by
  cases c : s.testBit x
  · exact absurd (bit_zero.2 c) h
  · rfl
theorem bit_mod {s x : Nat} : s / 2 ^ x % 2 = 1 ↔ s.testBit x = true := by
  rw [← Nat.and_one_is_mod, bit_and_one]; cases s.testBit x <;> simp
theorem bit_modD {s x : Nat} : decide (((s / 2 ^ x % 2 : Nat) : Int) = 1) = s.testBit x := by
  have := @bit_mod s x
  cases h : s.testBit x
  · rw [h] at this; exact decide_eq_false fun e => absurd (this.1 (by omega)) (by simp)
  · rw [h] at this; exact decide_eq_true (by have := this.2 rfl; omega)
theorem bit_zeroD {s x : Nat} : decide (((s / 2 ^ x &&& 1 : Nat) : Int) = 0) = !s.testBit x := by
  rw [bit_and_one]; cases s.testBit x <;> simp
theorem bit_oneD {s x : Nat} : decide (((s / 2 ^ x &&& 1 : Nat) : Int) = 1) = s.testBit x := by
  rw [bit_and_one]; cases s.testBit x <;> simp
theorem bit_lt {n s x : Nat} (h : s < 2 ^ n) (hb : s.testBit x = true) : x < n := by
  refine Nat.lt_of_not_le fun hc => ?_
  rw [Nat.testBit_lt_two_pow (Nat.lt_of_lt_of_le h (Nat.pow_le_pow_right (by omega) hc))] at hb
  cases hb
def incl (a b : Nat) : Bool := decide (andNot a b = 0)
theorem incl_iff {a b : Nat} : incl a b = true ↔ ∀ q, a.testBit q = true → b.testBit q = true := by unfold incl; rw [decide_eq_true_iff]; exact andNot_zero
theorem incl_and {a b : Nat} : incl a b = decide (a &&& b = a) := by
  rw [Bool.eq_iff_iff, incl_iff, decide_eq_true_iff]
  constructor
  · intro h
    apply Nat.eq_of_testBit_eq
    intro i
    rw [Nat.testBit_and]
    cases c : a.testBit i
    · rfl
    · rw [h i c]; rfl
  · intro h q hq
    rw [← h, Nat.testBit_and, Bool.and_eq_true] at hq
    exact hq.2
theorem andNot_le (a b : Nat) : andNot a b ≤ a := by
  rw [show andNot a b = a &&& andNot a b from Nat.eq_of_testBit_eq fun i => by rw [Nat.testBit_and, testBit_andNot]; cases a.testBit i <;> simp]
  exact Nat.and_le_left
theorem incl_D {a b : Nat} : decide (((andNot a b : Nat) : Int) = 0) = incl a b := by
  unfold incl
  rw [decide_eq_decide]
  omega
theorem and_D {a b : Nat} : decide (((a &&& b : Nat) : Int) = ((a : Nat) : Int)) = incl a b := by
  rw [incl_and, decide_eq_decide]
  omega
def dnF (n : Nat) (f : Nat → Nat → Bool) (x : Nat) : Nat := colN n fun y => f y x
def upF (n : Nat) (f : Nat → Nat → Bool) (x : Nat) : Nat := colN n fun y => f x y
theorem dnF_lt (n : Nat) (f : Nat → Nat → Bool) (x : Nat) : dnF n f x < 2 ^ n := colN_lt n _
theorem upF_lt (n : Nat) (f : Nat → Nat → Bool) (x : Nat) : upF n f x < 2 ^ n := colN_lt n _
theorem dnF_bit {n : Nat} {f : Nat → Nat → Bool} {x y : Nat} : (dnF n f x).testBit y = (decide (y < n) && f y x) := colN_bit n _ y
theorem upF_bit {n : Nat} {f : Nat → Nat → Bool} {x y : Nat} : (upF n f x).testBit y = (decide (y < n) && f x y) := colN_bit n _ y
theorem rall_succ (k : Nat) (g : Nat → Bool) : (List.range (k + 1)).all g = ((List.range k).all g && g k) := by rw [List.range_succ, List.all_append]; simp
theorem rall_zero (g : Nat → Bool) : (List.range 0).all g = true := rfl
theorem rall_iff {k : Nat} {g : Nat → Bool} : (List.range k).all g = true ↔ ∀ i, i < k → g i = true := by rw [List.all_eq_true]; exact ⟨fun h i hi => h i (List.mem_range.2 hi), fun h i hi => h i (List.mem_range.1 hi)⟩
/-- Ideals: with each element all below it. -/
def idlB (n : Nat) (f : Nat → Nat → Bool) (s : Nat) : Bool := (List.range n).all fun x => !s.testBit x || incl (dnF n f x) s
theorem idlB_iff {n s : Nat} {f : Nat → Nat → Bool} : idlB n f s = true ↔ ∀ x y, x < n → y < n → s.testBit x = true → f y x = true → s.testBit y = true := by
  unfold idlB
  rw [rall_iff]
  constructor
  · intro h x y hx hy hb hf
    have h1 := h x hx
    rw [hb, Bool.not_true, Bool.false_or, incl_iff] at h1
    exact h1 y (by rw [dnF_bit, hf, decide_eq_true hy]; rfl)
  · intro h x hx
    cases hb : s.testBit x
    · rfl
    · rw [Bool.not_true, Bool.false_or, incl_iff]
      intro y hy
      rw [dnF_bit, Bool.and_eq_true, decide_eq_true_iff] at hy
      exact h x y hx hy.1 hb hy.2
/-- The same, as the reference goes through the pairs. -/
def idlR (n : Nat) (f : Nat → Nat → Bool) (s x : Nat) : Bool := (List.range n).all fun y => !s.testBit y || !f x y || s.testBit x
theorem idlR_all {n s : Nat} {f : Nat → Nat → Bool} : ((List.range n).all fun x => idlR n f s x) = idlB n f s := by
  rw [Bool.eq_iff_iff, idlB_iff, rall_iff]
  constructor
  · intro h x y hx hy hb hf
    have := rall_iff.1 (h y hy) x hx
    rw [hb, hf] at this; simpa using this
  · intro h x hx
    refine rall_iff.2 fun y hy => ?_
    cases hb : s.testBit y
    · rfl
    · cases hf : f x y
      · rfl
      · rw [h y x hy hx hb hf]; rfl
def idealsF (n : Nat) (f : Nat → Nat → Bool) : List Int := filtF (2 ^ n) (idlB n f)
theorem filtF_yes {N : Nat} {f : Nat → Bool} (h : f N = true) : filtF N f ++ [(N : Int)] = filtF (N + 1) f := by rw [filtF_succ, h]; rfl
theorem filtF_no {N : Nat} {f : Nat → Bool} (h : f N = false) : filtF N f = filtF (N + 1) f := by rw [filtF_succ, h]; simp
theorem filtF_gt {N : Nat} {f : Nat → Bool} {i : Nat} (h : i < (filtF N f).length) : ∃ a : Nat, gt (filtF N f) i = (a : Int) ∧ a < N ∧ f a = true := by
  obtain ⟨q, h1, h2, h3⟩ := filtF_mem.1 (gt_mem h)
  exact ⟨q, h3.symm, h1, h2⟩
/-- Sets, by their being within each other. -/
def incF (xs : List Int) (i j : Nat) : Bool := incl (gt xs i).toNat (gt xs j).toNat
/-- The pairs of 'relation'. -/
def relC (n : Nat) (c : Int × Int) : List (Int × Int) := if ur c.1 % n ≠ ur c.2 % n then [(((min (ur c.1 % n) (ur c.2 % n) : Nat) : Int), ((max (ur c.1 % n) (ur c.2 % n) : Nat) : Int))] else []
def relL (n : Nat) (ls : List (Int × Int)) (k : Nat) : List (Int × Int) := (ls.take k).flatMap (relC n)
theorem relL_succ {n k : Nat} {ls : List (Int × Int)} (hk : k < ls.length) : relL n ls (k + 1) = relL n ls k ++ relC n (gt ls k) := by
  unfold relL
  rw [List.take_add_one, gt_some hk, List.flatMap_append]; simp
theorem relC_len (n : Nat) (c : Int × Int) : (relC n c).length ≤ 1 := by unfold relC; split <;> simp
theorem relL_len {n : Nat} {ls : List (Int × Int)} : ∀ {k : Nat}, k ≤ ls.length → (relL n ls k).length ≤ k
  | 0, _ => by simp [relL]
  | k + 1, h => by
    rw [relL_succ (by omega), List.length_append]
    have := relC_len n (gt ls k); have := relL_len (n := n) (ls := ls) (k := k) (by omega); omega
theorem relC_ok {n : Nat} (hn : 1 ≤ n) {c d : Int × Int} (h : d ∈ relC n c) : ∃ a b : Nat, d = ((a : Int), (b : Int)) ∧ a < b ∧ b < n := by
  unfold relC at h
  split at h
  · rename_i hne
    simp only [List.mem_singleton] at h
    have h1 := Nat.mod_lt (ur c.1) (show 0 < n by omega); have h2 := Nat.mod_lt (ur c.2) (show 0 < n by omega)
    exact ⟨_, _, h, by omega, by omega⟩
  · simp at h
theorem relL_ok {n : Nat} (hn : 1 ≤ n) {ls : List (Int × Int)} {k : Nat} {d : Int × Int} (h : d ∈ relL n ls k) : ∃ a b : Nat, d = ((a : Int), (b : Int)) ∧ a < b ∧ b < n := by
  obtain ⟨c, _, hc⟩ := List.mem_flatMap.1 h
  exact relC_ok hn hc
theorem up_order {n : Nat} {ls : List (Int × Int)} (h : ∀ d, d ∈ ls → ∃ a b : Nat, d = ((a : Int), (b : Int)) ∧ a < b ∧ b < n) : IsO n (closW n ls) :=
  clos_order (fun x => x) (fun _ _ _ _ e => e) fun x y hm => by
    obtain ⟨a, b, e, h1, h2⟩ := h _ hm
    obtain ⟨e1, e2⟩ := Prod.mk.inj e
    omega
theorem up_closE {n : Nat} (h1 : 1 ≤ n) (h2 : n ≤ 12) {ls : List (Int × Int)} (h : ∀ d, d ∈ ls → ∃ a b : Nat, d = ((a : Int), (b : Int)) ∧ a < b ∧ b < n) : closE n ls = 0 := by
  rw [closE_ok h1 h2 fun i hi => by
    obtain ⟨a, b, e, h3, h4⟩ := h _ (gt_mem hi)
    rw [e]; exact inR_iff.2 ⟨by show (0 : Int) ≤ (a : Int); omega, by show (0 : Int) ≤ (b : Int); omega, by show (a : Int) < n; omega, by show (b : Int) < n; omega⟩, if_pos (ordB_iff.2 (up_order h))]
end Go.X
namespace Go.Proofs.Ytdokijbdnajhgaa
open Go Go.X

set_option maxRecDepth 10000 in
theorem small_spec (h : Heap) (x : Int) (k : Nat) (hp1 : k ≤ 1000000) : Fx Try.prog 65 [.int .i64 x, .int .i64 ((k : Nat) : Int)] h (fun v h' => v = .int .i64 ((ur x % (k + 1) : Nat) : Int) ∧ h = h') := by
  refine fx_intro (n := 12) [(0, .int .i64 x), (1, .int .i64 ((k : Nat) : Int))] Try.func65 rfl rfl (by simp) ⟨rfl, rfl, trivial⟩ fun g0 => ?_
  refine wi_seq <| wi_reg rfl <| lx_assign (.int .i64 0) rfl rfl <| lx_nil <| wi_seq <| wi_reg rfl <| ?_
  have hmd := Nat.mod_lt (ur x) (show 0 < k + 1 by omega)
  refine lx_move (.int .i64 x) rfl rfl <| lx_conv ((ur x : Nat) : Int) rfl Try.underlying3 Try.underlying45 rfl (wrap_ur _) <| lx_move (.int .i64 ((k : Nat) : Int)) rfl rfl <| lx_add (((k + 1 : Nat) : Int)) rfl rfl rfl (by omega) (by omega) (by omega) <| lx_conv ((k + 1 : Nat) : Int) rfl Try.underlying3 Try.underlying45 rfl (wrap_u64 (by omega) (by omega)) <| lx_rem (m := ur x) (n := k + 1) rfl rfl rfl (by omega) <| lx_conv (((ur x) % (k + 1) : Nat) : Int) rfl Try.underlying45 Try.underlying3 rfl (wrap_i64 (by omega) (by omega)) <| lx_assign (.int .i64 (((ur x) % (k + 1) : Nat) : Int)) rfl rfl <| lx_nil <| ?_
  -- R1
  refine wi_ret ⟨.int .i64 (((ur x) % (k + 1) : Nat) : Int), (res_one rfl rfl), ⟨?_, rfl⟩⟩
  · first | rfl | (simp; done) | (simp; omega)

set_option maxRecDepth 10000 in
theorem ints_spec (h : Heap) (va : Value) (xs : List Int) (vb : Value) (ys : List Int) (hr_va : RdE encI h va xs) (hr_vb : RdE encI h vb ys) (hp1 : xs.length ≤ 4611686018427387904) (hp2 : ys.length ≤ 4611686018427387904) : Fx Try.prog 19 [va, vb] h (fun v h' => v = .bool (decide (xs = ys)) ∧ h = h') := by
  refine fx_intro (n := 26) [(0, va), (1, vb)] Try.func19 rfl rfl (by simp) ⟨rfl, rfl, trivial⟩ fun g0 => ?_
  refine wi_seq <| wi_reg rfl <| lx_assign (.bool false) rfl rfl <| lx_nil <| wi_seq <| wi_seq <| wi_reg rfl <| lx_move (va) rfl rfl <| lx_len rfl Try.underlying25 hr_va rfl <| lx_move (vb) rfl rfl <| lx_len rfl Try.underlying25 hr_vb rfl <| lx_neqS rfl rfl rfl (fun c1 => ?_) (fun c1 => ?_)
  · refine lx_nil <| wi_true rfl <| wi_seq <| wi_reg rfl <| lx_assign (.bool false) rfl rfl <| lx_nil <| ?_
    -- R1
    refine wi_ret ⟨.bool false, (res_one rfl rfl), ⟨?_, rfl⟩⟩
    · have e : xs ≠ ys := by intro e; rw [e] at c1; exact c1 rfl
      simp [e]
  · refine lx_nil <| wi_false rfl <| wi_skip <| wi_seq <| wi_seq <| wi_reg rfl <| lx_assign (.int .i64 0) rfl rfl <| lx_nil <| wi_block <| ?_
    refine wi_loop (σ := Nat) (rngB 11 26 [4, 5]) (fun (i : Nat) => [(5, .int .i64 ((i : Nat) : Int))]) (fun (i : Nat) (hh : Heap) => (i ≤ xs.length) ∧ (∀ j, j < i → gt xs j = gt ys j) ∧ h = hh) (fun (i : Nat) => xs.length - i) 0 ⟨rfl, trivial⟩ ⟨?_, ?_, rfl⟩ ?_
    · try dsimp only
      omega
    · try dsimp only
      intro j hj; omega
    rintro g1 i hh1 ⟨hi, he, rfl⟩ IH1
    refine wi_seq <| wi_seq <| wi_reg rfl <| lx_move (.int .i64 ((i : Nat) : Int)) rfl rfl <| lx_move (va) rfl rfl <| lx_len rfl Try.underlying25 hr_va rfl <| lx_lssS rfl rfl rfl (fun c2 => ?_) (fun c2 => ?_)
    · refine lx_nil <| wi_true rfl <| wi_skip <| wi_seq <| wi_block <| wi_seq <| wi_draw mo rfl (by decide +kernel) <| lx_move (va) rfl rfl <| lx_move (.int .i64 ((i : Nat) : Int)) rfl rfl <| lx_ix (i := i) rfl eT25 hr_va rfl rfl (by first | omega | (simp only [List.length_set, List.length_append, List.length_cons, List.length_nil, List.length_replicate, List.length_take, swp_length, exch_length]; omega)) <| lx_ld (i := i) (j := 0) (.int .i64 (gt xs i)) rfl rfl fl3 hr_va (by first | omega | (simp only [List.length_set, List.length_append, List.length_cons, List.length_nil, List.length_replicate, List.length_take, swp_length, exch_length]; omega)) rfl rfl <| lx_move (vb) rfl rfl <| lx_move (.int .i64 ((i : Nat) : Int)) rfl rfl <| lx_ix (i := i) rfl eT25 hr_vb rfl rfl (by first | omega | (simp only [List.length_set, List.length_append, List.length_cons, List.length_nil, List.length_replicate, List.length_take, swp_length, exch_length]; omega)) <| lx_ld (i := i) (j := 0) (.int .i64 (gt ys i)) rfl rfl fl3 hr_vb (by first | omega | (simp only [List.length_set, List.length_append, List.length_cons, List.length_nil, List.length_replicate, List.length_take, swp_length, exch_length]; omega)) rfl rfl <| lx_neqS rfl rfl rfl (fun c3 => ?_) (fun c3 => ?_)
      · refine lx_nil <| wi_true rfl <| wi_seq <| wi_reg rfl <| lx_assign (.bool false) rfl rfl <| lx_nil <| ?_
        -- R2
        refine wi_ret ⟨.bool false, (res_one rfl rfl), ⟨?_, rfl⟩⟩
        · have e : xs ≠ ys := by intro e; rw [e] at c3; exact c3 rfl
          simp [e]
      · refine lx_nil <| wi_false rfl <| wi_skip <| wi_inBlock <| wi_reg rfl <| lx_move (.int .i64 ((i : Nat) : Int)) rfl rfl <| lx_add (((i + 1 : Nat) : Int)) rfl rfl rfl (by omega) (by omega) (by omega) <| lx_assign (.int .i64 ((i + 1 : Nat) : Int)) rfl rfl <| lx_nil <| ?_
        -- L0.1
        refine IH1 _ _ (i + 1) (agree_ups rfl agree_self) ⟨rfl, trivial⟩ ⟨?_, ?_, rfl⟩ ?_
        · try dsimp only
          omega
        · try dsimp only
          intro j hj; by_cases hji : j = i
          · subst hji; simpa using c3
          · exact he j (by omega)
        · first | omega | (dsimp only; omega)
    · refine lx_nil <| wi_false rfl <| wi_exit rfl <| wi_seq <| wi_reg rfl <| lx_assign (.bool true) rfl rfl <| lx_nil <| ?_
      -- R3
      refine wi_ret ⟨.bool true, (res_one rfl rfl), ⟨?_, rfl⟩⟩
      · have e : xs = ys := gt_ext (by omega) (fun j hj => he j (by omega))
        simp [e]

set_option maxRecDepth 10000 in
theorem longs_spec (h : Heap) (va : Value) (xs : List Int) (vb : Value) (ys : List Int) (hr_va : RdE encI h va xs) (hr_vb : RdE encI h vb ys) (hp1 : xs.length ≤ 4611686018427387904) (hp2 : ys.length ≤ 4611686018427387904) : Fx Try.prog 41 [va, vb] h (fun v h' => v = .bool (decide (xs = ys)) ∧ h = h') := by
  refine fx_intro (n := 26) [(0, va), (1, vb)] Try.func41 rfl rfl (by simp) ⟨rfl, rfl, trivial⟩ fun g0 => ?_
  refine wi_seq <| wi_reg rfl <| lx_assign (.bool false) rfl rfl <| lx_nil <| wi_seq <| wi_seq <| wi_reg rfl <| lx_move (va) rfl rfl <| lx_len rfl Try.underlying58 hr_va rfl <| lx_move (vb) rfl rfl <| lx_len rfl Try.underlying58 hr_vb rfl <| lx_neqS rfl rfl rfl (fun c1 => ?_) (fun c1 => ?_)
  · refine lx_nil <| wi_true rfl <| wi_seq <| wi_reg rfl <| lx_assign (.bool false) rfl rfl <| lx_nil <| ?_
    -- R1
    refine wi_ret ⟨.bool false, (res_one rfl rfl), ⟨?_, rfl⟩⟩
    · have e : xs ≠ ys := by intro e; rw [e] at c1; exact c1 rfl
      simp [e]
  · refine lx_nil <| wi_false rfl <| wi_skip <| wi_seq <| wi_seq <| wi_reg rfl <| lx_assign (.int .i64 0) rfl rfl <| lx_nil <| wi_block <| ?_
    refine wi_loop (σ := Nat) (rngB 11 26 [4, 5]) (fun (i : Nat) => [(5, .int .i64 ((i : Nat) : Int))]) (fun (i : Nat) (hh : Heap) => (i ≤ xs.length) ∧ (∀ j, j < i → gt xs j = gt ys j) ∧ h = hh) (fun (i : Nat) => xs.length - i) 0 ⟨rfl, trivial⟩ ⟨?_, ?_, rfl⟩ ?_
    · try dsimp only
      omega
    · try dsimp only
      intro j hj; omega
    rintro g1 i hh1 ⟨hi, he, rfl⟩ IH1
    refine wi_seq <| wi_seq <| wi_reg rfl <| lx_move (.int .i64 ((i : Nat) : Int)) rfl rfl <| lx_move (va) rfl rfl <| lx_len rfl Try.underlying58 hr_va rfl <| lx_lssS rfl rfl rfl (fun c2 => ?_) (fun c2 => ?_)
    · refine lx_nil <| wi_true rfl <| wi_skip <| wi_seq <| wi_block <| wi_seq <| wi_draw mo rfl (by decide +kernel) <| lx_move (va) rfl rfl <| lx_move (.int .i64 ((i : Nat) : Int)) rfl rfl <| lx_ix (i := i) rfl eT58 hr_va rfl rfl (by first | omega | (simp only [List.length_set, List.length_append, List.length_cons, List.length_nil, List.length_replicate, List.length_take, swp_length, exch_length]; omega)) <| lx_ld (i := i) (j := 0) (.int .i64 (gt xs i)) rfl rfl fl2 hr_va (by first | omega | (simp only [List.length_set, List.length_append, List.length_cons, List.length_nil, List.length_replicate, List.length_take, swp_length, exch_length]; omega)) rfl rfl <| lx_move (vb) rfl rfl <| lx_move (.int .i64 ((i : Nat) : Int)) rfl rfl <| lx_ix (i := i) rfl eT58 hr_vb rfl rfl (by first | omega | (simp only [List.length_set, List.length_append, List.length_cons, List.length_nil, List.length_replicate, List.length_take, swp_length, exch_length]; omega)) <| lx_ld (i := i) (j := 0) (.int .i64 (gt ys i)) rfl rfl fl2 hr_vb (by first | omega | (simp only [List.length_set, List.length_append, List.length_cons, List.length_nil, List.length_replicate, List.length_take, swp_length, exch_length]; omega)) rfl rfl <| lx_neqS rfl rfl rfl (fun c3 => ?_) (fun c3 => ?_)
      · refine lx_nil <| wi_true rfl <| wi_seq <| wi_reg rfl <| lx_assign (.bool false) rfl rfl <| lx_nil <| ?_
        -- R2
        refine wi_ret ⟨.bool false, (res_one rfl rfl), ⟨?_, rfl⟩⟩
        · have e : xs ≠ ys := by intro e; rw [e] at c3; exact c3 rfl
          simp [e]
      · refine lx_nil <| wi_false rfl <| wi_skip <| wi_inBlock <| wi_reg rfl <| lx_move (.int .i64 ((i : Nat) : Int)) rfl rfl <| lx_add (((i + 1 : Nat) : Int)) rfl rfl rfl (by omega) (by omega) (by omega) <| lx_assign (.int .i64 ((i + 1 : Nat) : Int)) rfl rfl <| lx_nil <| ?_
        -- L0.1
        refine IH1 _ _ (i + 1) (agree_ups rfl agree_self) ⟨rfl, trivial⟩ ⟨?_, ?_, rfl⟩ ?_
        · try dsimp only
          omega
        · try dsimp only
          intro j hj; by_cases hji : j = i
          · subst hji; simpa using c3
          · exact he j (by omega)
        · first | omega | (dsimp only; omega)
    · refine lx_nil <| wi_false rfl <| wi_exit rfl <| wi_seq <| wi_reg rfl <| lx_assign (.bool true) rfl rfl <| lx_nil <| ?_
      -- R3
      refine wi_ret ⟨.bool true, (res_one rfl rfl), ⟨?_, rfl⟩⟩
      · have e : xs = ys := gt_ext (by omega) (fun j hj => he j (by omega))
        simp [e]

set_option maxRecDepth 10000 in
theorem same_spec (h : Heap) (va : Value) (xs : List Int) (vb : Value) (ys : List Int) (hr_va : RdE encI h va xs) (hr_vb : RdE encI h vb ys) (hp1 : xs.length ≤ 4611686018427387904) (hp2 : ys.length ≤ 4611686018427387904) : Fx Try.prog 68 [va, vb] h (fun v h' => v = .bool (decide (xs = ys)) ∧ h = h') := by
  refine fx_intro (n := 26) [(0, va), (1, vb)] Try.func68 rfl rfl (by simp) ⟨rfl, rfl, trivial⟩ fun g0 => ?_
  refine wi_seq <| wi_reg rfl <| lx_assign (.bool false) rfl rfl <| lx_nil <| wi_seq <| wi_seq <| wi_reg rfl <| lx_move (va) rfl rfl <| lx_len rfl Try.underlying25 hr_va rfl <| lx_move (vb) rfl rfl <| lx_len rfl Try.underlying25 hr_vb rfl <| lx_neqS rfl rfl rfl (fun c1 => ?_) (fun c1 => ?_)
  · refine lx_nil <| wi_true rfl <| wi_seq <| wi_reg rfl <| lx_assign (.bool false) rfl rfl <| lx_nil <| ?_
    -- R1
    refine wi_ret ⟨.bool false, (res_one rfl rfl), ⟨?_, rfl⟩⟩
    · have e : xs ≠ ys := by intro e; rw [e] at c1; exact c1 rfl
      simp [e]
  · refine lx_nil <| wi_false rfl <| wi_skip <| wi_seq <| wi_seq <| wi_reg rfl <| lx_assign (.int .i64 0) rfl rfl <| lx_nil <| wi_block <| ?_
    refine wi_loop (σ := Nat) (rngB 11 26 [4, 5]) (fun (i : Nat) => [(5, .int .i64 ((i : Nat) : Int))]) (fun (i : Nat) (hh : Heap) => (i ≤ xs.length) ∧ (∀ j, j < i → gt xs j = gt ys j) ∧ h = hh) (fun (i : Nat) => xs.length - i) 0 ⟨rfl, trivial⟩ ⟨?_, ?_, rfl⟩ ?_
    · try dsimp only
      omega
    · try dsimp only
      intro j hj; omega
    rintro g1 i hh1 ⟨hi, he, rfl⟩ IH1
    refine wi_seq <| wi_seq <| wi_reg rfl <| lx_move (.int .i64 ((i : Nat) : Int)) rfl rfl <| lx_move (va) rfl rfl <| lx_len rfl Try.underlying25 hr_va rfl <| lx_lssS rfl rfl rfl (fun c2 => ?_) (fun c2 => ?_)
    · refine lx_nil <| wi_true rfl <| wi_skip <| wi_seq <| wi_block <| wi_seq <| wi_draw mo rfl (by decide +kernel) <| lx_move (va) rfl rfl <| lx_move (.int .i64 ((i : Nat) : Int)) rfl rfl <| lx_ix (i := i) rfl eT25 hr_va rfl rfl (by first | omega | (simp only [List.length_set, List.length_append, List.length_cons, List.length_nil, List.length_replicate, List.length_take, swp_length, exch_length]; omega)) <| lx_ld (i := i) (j := 0) (.int .i64 (gt xs i)) rfl rfl fl3 hr_va (by first | omega | (simp only [List.length_set, List.length_append, List.length_cons, List.length_nil, List.length_replicate, List.length_take, swp_length, exch_length]; omega)) rfl rfl <| lx_move (vb) rfl rfl <| lx_move (.int .i64 ((i : Nat) : Int)) rfl rfl <| lx_ix (i := i) rfl eT25 hr_vb rfl rfl (by first | omega | (simp only [List.length_set, List.length_append, List.length_cons, List.length_nil, List.length_replicate, List.length_take, swp_length, exch_length]; omega)) <| lx_ld (i := i) (j := 0) (.int .i64 (gt ys i)) rfl rfl fl3 hr_vb (by first | omega | (simp only [List.length_set, List.length_append, List.length_cons, List.length_nil, List.length_replicate, List.length_take, swp_length, exch_length]; omega)) rfl rfl <| lx_neqS rfl rfl rfl (fun c3 => ?_) (fun c3 => ?_)
      · refine lx_nil <| wi_true rfl <| wi_seq <| wi_reg rfl <| lx_assign (.bool false) rfl rfl <| lx_nil <| ?_
        -- R2
        refine wi_ret ⟨.bool false, (res_one rfl rfl), ⟨?_, rfl⟩⟩
        · have e : xs ≠ ys := by intro e; rw [e] at c3; exact c3 rfl
          simp [e]
      · refine lx_nil <| wi_false rfl <| wi_skip <| wi_inBlock <| wi_reg rfl <| lx_move (.int .i64 ((i : Nat) : Int)) rfl rfl <| lx_add (((i + 1 : Nat) : Int)) rfl rfl rfl (by omega) (by omega) (by omega) <| lx_assign (.int .i64 ((i + 1 : Nat) : Int)) rfl rfl <| lx_nil <| ?_
        -- L0.1
        refine IH1 _ _ (i + 1) (agree_ups rfl agree_self) ⟨rfl, trivial⟩ ⟨?_, ?_, rfl⟩ ?_
        · try dsimp only
          omega
        · try dsimp only
          intro j hj; by_cases hji : j = i
          · subst hji; simpa using c3
          · exact he j (by omega)
        · first | omega | (dsimp only; omega)
    · refine lx_nil <| wi_false rfl <| wi_exit rfl <| wi_seq <| wi_reg rfl <| lx_assign (.bool true) rfl rfl <| lx_nil <| ?_
      -- R3
      refine wi_ret ⟨.bool true, (res_one rfl rfl), ⟨?_, rfl⟩⟩
      · have e : xs = ys := gt_ext (by omega) (fun j hj => he j (by omega))
        simp [e]

set_option maxRecDepth 10000 in
theorem has_spec (h : Heap) (vl : Value) (xs : List Int) (x : Int) (hr_vl : RdE encI h vl xs) (hp1 : xs.length ≤ 4611686018427387904) : Fx Try.prog 73 [vl, .int .i64 x] h (fun v h' => v = .bool (decide (x ∈ xs)) ∧ h = h') := by
  refine fx_intro (n := 18) [(0, vl), (1, .int .i64 x)] Try.func73 rfl rfl (by simp) ⟨rfl, rfl, trivial⟩ fun g0 => ?_
  refine wi_seq <| wi_reg rfl <| lx_assign (.bool false) rfl rfl <| lx_nil <| wi_seq <| wi_seq <| wi_reg rfl <| lx_assign (.int .i64 0) rfl rfl <| lx_nil <| wi_block <| ?_
  refine wi_loop (σ := Nat) (rngB 4 18 []) (fun (i : Nat) => [(5, .int .i64 ((i : Nat) : Int))]) (fun (i : Nat) (hh : Heap) => (i ≤ xs.length) ∧ (∀ j, j < i → gt xs j ≠ x) ∧ h = hh) (fun (i : Nat) => xs.length - i) 0 ⟨rfl, trivial⟩ ⟨?_, ?_, rfl⟩ ?_
  · try dsimp only
    omega
  · try dsimp only
    intro j hj; omega
  rintro g1 i hh1 ⟨hi, he, rfl⟩ IH1
  refine wi_seq <| wi_seq <| wi_reg rfl <| lx_move (.int .i64 ((i : Nat) : Int)) rfl rfl <| lx_move (vl) rfl rfl <| lx_len rfl Try.underlying25 hr_vl rfl <| lx_lssS rfl rfl rfl (fun c1 => ?_) (fun c1 => ?_)
  · refine lx_nil <| wi_true rfl <| wi_skip <| wi_seq <| wi_block <| wi_seq <| wi_reg rfl <| lx_move (vl) rfl rfl <| lx_move (.int .i64 ((i : Nat) : Int)) rfl rfl <| lx_ix (i := i) rfl eT25 hr_vl rfl rfl (by first | omega | (simp only [List.length_set, List.length_append, List.length_cons, List.length_nil, List.length_replicate, List.length_take, swp_length, exch_length]; omega)) <| lx_ld (i := i) (j := 0) (.int .i64 (gt xs i)) rfl rfl fl3 hr_vl (by first | omega | (simp only [List.length_set, List.length_append, List.length_cons, List.length_nil, List.length_replicate, List.length_take, swp_length, exch_length]; omega)) rfl rfl <| lx_move (.int .i64 x) rfl rfl <| lx_eqlS rfl rfl rfl (fun c2 => ?_) (fun c2 => ?_)
    · refine lx_nil <| wi_true rfl <| wi_seq <| wi_reg rfl <| lx_assign (.bool true) rfl rfl <| lx_nil <| ?_
      -- R1
      refine wi_ret ⟨.bool true, (res_one rfl rfl), ⟨?_, rfl⟩⟩
      · have e : x ∈ xs := by rw [← c2]; exact gt_mem (by omega)
        simp [e]
    · refine lx_nil <| wi_false rfl <| wi_skip <| wi_inBlock <| wi_reg rfl <| lx_move (.int .i64 ((i : Nat) : Int)) rfl rfl <| lx_add (((i + 1 : Nat) : Int)) rfl rfl rfl (by omega) (by omega) (by omega) <| lx_assign (.int .i64 ((i + 1 : Nat) : Int)) rfl rfl <| lx_nil <| ?_
      -- L0.1
      refine IH1 _ _ (i + 1) (agree_ups rfl agree_self) ⟨rfl, trivial⟩ ⟨?_, ?_, rfl⟩ ?_
      · try dsimp only
        omega
      · try dsimp only
        intro j hj; by_cases hji : j = i
        · subst hji; simpa using c2
        · exact he j (by omega)
      · first | omega | (dsimp only; omega)
  · refine lx_nil <| wi_false rfl <| wi_exit rfl <| wi_seq <| wi_reg rfl <| lx_assign (.bool false) rfl rfl <| lx_nil <| ?_
    -- R2
    refine wi_ret ⟨.bool false, (res_one rfl rfl), ⟨?_, rfl⟩⟩
    · have e : ¬ x ∈ xs := fun h9 => by obtain ⟨j, h8, h7⟩ := mem_gt h9; exact he j (by omega) h7
      simp [e]

set_option maxRecDepth 10000 in
theorem in_spec (h : Heap) (s : Nat) (x : Nat) (hp1 : s ≤ 4096) (hp2 : x ≤ 12) : Fx Try.prog 78 [.int .i64 ((s : Nat) : Int), .int .i64 ((x : Nat) : Int)] h (fun v h' => v = .bool (s.testBit x) ∧ h = h') := by
  refine fx_intro (n := 11) [(0, .int .i64 ((s : Nat) : Int)), (1, .int .i64 ((x : Nat) : Int))] Try.func78 rfl rfl (by simp) ⟨rfl, rfl, trivial⟩ fun g0 => ?_
  refine wi_seq <| wi_reg rfl <| lx_assign (.bool false) rfl rfl <| lx_nil <| wi_seq <| wi_reg rfl <| lx_move (.int .i64 ((s : Nat) : Int)) rfl rfl <| lx_move (.int .i64 ((x : Nat) : Int)) rfl rfl <| lx_conv ((x : Nat) : Int) rfl Try.underlying3 Try.underlying45 rfl (wrap_u64 (by omega) (by omega)) <| lx_shr (m := s) (n := x) rfl rfl rfl (by show _ ≤ 64; omega) <| lx_rem (m := s / 2 ^ x) (n := 2) rfl rfl rfl (by omega) <| lx_eql rfl rfl rfl <| lx_assign (.bool (decide ((((s / 2 ^ x) % 2 : Nat) : Int) = (1 : Int)))) rfl rfl <| lx_nil <| ?_
  -- R1
  refine wi_ret ⟨.bool (decide ((((s / 2 ^ x) % 2 : Nat) : Int) = (1 : Int))), (res_one rfl rfl), ⟨?_, rfl⟩⟩
  · congr 1
    exact bit_modD

set_option maxRecDepth 10000 in
theorem up_spec (h : Heap) (vp : Value) (hs : List Hdr) (p : List (List Bool)) (x : Nat) (hr_vp : RdE encHd h vp hs) (ht_vp : RT encB h hs p) (hp1 : p.length ≤ 12) (hp2 : Sq p p.length) (hp3 : x < p.length) : Fx Try.prog 80 [vp, .int .i64 ((x : Nat) : Int)] h (fun v h' => v = .int .i64 ((upF p.length (pb p) x : Nat) : Int) ∧ h = h') := by
  have hl_vp := ht_vp.1
  refine fx_intro (n := 26) [(0, vp), (1, .int .i64 ((x : Nat) : Int))] Try.func80 rfl rfl (by simp) ⟨rfl, rfl, trivial⟩ fun g0 => ?_
  refine wi_seq <| wi_reg rfl <| lx_assign (.int .i64 0) rfl rfl <| lx_nil <| wi_seq <| wi_reg rfl <| lx_assign (.int .i64 0) rfl rfl <| lx_nil <| wi_seq <| wi_seq <| wi_reg rfl <| lx_move (vp) rfl rfl <| lx_move (.int .i64 ((x : Nat) : Int)) rfl rfl <| lx_ix (i := x) rfl eT29 hr_vp rfl rfl (by first | omega | (simp only [List.length_set, List.length_append, List.length_cons, List.length_nil, List.length_replicate, List.length_take, swp_length, exch_length]; omega)) <| lx_ld (i := x) (j := 0) ((gt hs x).v) rfl rfl fl70 hr_vp (by first | omega | (simp only [List.length_set, List.length_append, List.length_cons, List.length_nil, List.length_replicate, List.length_take, swp_length, exch_length]; omega)) rfl rfl <| lx_len rfl Try.underlying70 (ht_vp.2 x (by first | omega | (simp only [List.length_set, List.length_append, List.length_cons, List.length_nil, List.length_replicate, List.length_take, swp_length, exch_length]; omega))) rfl <| lx_move (.int .i64 0) rfl rfl <| lx_nil <| wi_block <| ?_
  refine wi_loop (σ := Nat × Nat) (rngB 13 25 [5, 6, 7]) (fun (ss : Nat × Nat) => [(13, .int .i64 ((ss.1 : Nat) : Int)), (5, .int .i64 ((ss.2 : Nat) : Int))]) (fun (ss : Nat × Nat) (hh : Heap) => h = hh ∧ (ss.1 ≤ p.length) ∧ (ss.2 = colN ss.1 (fun c => pb p x c))) (fun (ss : Nat × Nat) => p.length - ss.1) (0, 0) ⟨rfl, rfl, trivial⟩ ⟨rfl, ?_, ?_⟩ ?_
  · try dsimp only
    omega
  · try dsimp only
    first | done | rfl
  rintro g1 ⟨y, o⟩ hh1 ⟨rfl, hy, ho⟩ IH1
  dsimp only at *
  refine wi_seq <| wi_reg rfl <| ?_
  have hrl := hp2.2 x hp3
  refine lx_lssS rfl rfl rfl (fun c1 => ?_) (fun c1 => ?_)
  · refine lx_nil <| wi_seq <| wi_true rfl <| wi_skip <| wi_seq <| wi_block <| wi_seq <| wi_reg rfl <| lx_move (.int .i64 ((y : Nat) : Int)) rfl rfl <| lx_ix (i := y) rfl eT70 (ht_vp.2 x (by first | omega | (simp only [List.length_set, List.length_append, List.length_cons, List.length_nil, List.length_replicate, List.length_take, swp_length, exch_length]; omega))) rfl rfl (by rw [hp2.2 x (by first | omega | (simp only [List.length_set, List.length_append, List.length_cons, List.length_nil, List.length_replicate, List.length_take, swp_length, exch_length]; omega))]; omega) <| lx_ld (i := y) (j := 0) (.bool (gt (gt p x) y)) rfl rfl fl4 (ht_vp.2 x (by first | omega | (simp only [List.length_set, List.length_append, List.length_cons, List.length_nil, List.length_replicate, List.length_take, swp_length, exch_length]; omega))) (by rw [hp2.2 x (by first | omega | (simp only [List.length_set, List.length_append, List.length_cons, List.length_nil, List.length_replicate, List.length_take, swp_length, exch_length]; omega))]; omega) rfl rfl <| lx_assign (.int .i64 ((y : Nat) : Int)) rfl rfl <| lx_assign (.bool (gt (gt p x) y)) rfl rfl <| lx_nil <| wi_seq <| wi_reg rfl <| lx_move (.bool (gt (gt p x) y)) rfl rfl <| lx_nil <| wi_condS (t := gt (gt p x) y) rfl (fun c2 => ?_) (fun c2 => ?_)
    · refine wi_reg rfl <| ?_
      have hpw := pow12 (show y ≤ 12 by omega)
      have hpw1 := pow12 (show y + 1 ≤ 12 by omega)
      have hlt : o < 2 ^ y := by rw [ho]; exact colN_lt _ _
      have hor : o ||| 1 * 2 ^ y < 2 ^ (y + 1) := by rw [ho, colN_set (n := y) (g := fun c => pb p x c) (by assumption)]; exact colN_lt _ _
      refine lx_move (.int .i64 ((o : Nat) : Int)) rfl rfl <| lx_move (.int .i64 ((y : Nat) : Int)) rfl rfl <| lx_conv ((y : Nat) : Int) rfl Try.underlying3 Try.underlying45 rfl (wrap_u64 (by omega) (by omega)) <| lx_shl (m := 1) (n := y) rfl rfl rfl (by show _ ≤ 64; omega) (wrap_i64 (by omega) (by omega)) <| lx_or (m := o) (n := 1 * 2 ^ y) rfl rfl rfl (by show _ < 2 ^ 64; omega) (by show _ < 2 ^ 64; omega) (wrap_i64 (by omega) (by omega)) <| lx_assign (.int .i64 ((o ||| (1 * 2 ^ y) : Nat) : Int)) rfl rfl <| lx_nil <| wi_inBlock <| wi_reg rfl <| lx_add (((y + 1 : Nat) : Int)) rfl rfl rfl (by omega) (by omega) (by omega) <| lx_move (.int .i64 ((y + 1 : Nat) : Int)) rfl rfl <| lx_nil <| ?_
      -- L0.1
      refine IH1 _ _ (y + 1, o ||| (1 * 2 ^ y)) (agree_ups rfl agree_self) ⟨rfl, rfl, trivial⟩ ⟨rfl, ?_, ?_⟩ ?_
      · try dsimp only
        omega
      · try dsimp only
        rw [ho]; first | exact colN_set (by assumption) | exact colN_skip (by assumption)
      · first | omega | (dsimp only; omega)
    · refine wi_skip <| wi_inBlock <| wi_reg rfl <| lx_add (((y + 1 : Nat) : Int)) rfl rfl rfl (by omega) (by omega) (by omega) <| lx_move (.int .i64 ((y + 1 : Nat) : Int)) rfl rfl <| lx_nil <| ?_
      -- L0.2
      refine IH1 _ _ (y + 1, o) (agree_ups rfl agree_self) ⟨rfl, rfl, trivial⟩ ⟨rfl, ?_, ?_⟩ ?_
      · try dsimp only
        omega
      · try dsimp only
        rw [ho]; first | exact colN_set (by assumption) | exact colN_skip (by assumption)
      · first | omega | (dsimp only; omega)
  · refine lx_nil <| wi_seq <| wi_false rfl <| wi_exit rfl <| wi_seq <| wi_reg rfl <| lx_move (.int .i64 ((o : Nat) : Int)) rfl rfl <| lx_assign (.int .i64 ((o : Nat) : Int)) rfl rfl <| lx_nil <| ?_
    -- R1
    refine wi_ret ⟨.int .i64 ((o : Nat) : Int), (res_one rfl rfl), ⟨?_, rfl⟩⟩
    · rw [ho, show y = p.length from by omega]; rfl

set_option maxRecDepth 10000 in
theorem down_spec (h : Heap) (vp : Value) (hs : List Hdr) (p : List (List Bool)) (x : Nat) (hr_vp : RdE encHd h vp hs) (ht_vp : RT encB h hs p) (hp1 : p.length ≤ 12) (hp2 : Sq p p.length) (hp3 : x < p.length) : Fx Try.prog 81 [vp, .int .i64 ((x : Nat) : Int)] h (fun v h' => v = .int .i64 ((dnF p.length (pb p) x : Nat) : Int) ∧ h = h') := by
  have hl_vp := ht_vp.1
  refine fx_intro (n := 26) [(0, vp), (1, .int .i64 ((x : Nat) : Int))] Try.func81 rfl rfl (by simp) ⟨rfl, rfl, trivial⟩ fun g0 => ?_
  refine wi_seq <| wi_reg rfl <| lx_assign (.int .i64 0) rfl rfl <| lx_nil <| wi_seq <| wi_reg rfl <| lx_assign (.int .i64 0) rfl rfl <| lx_nil <| wi_seq <| wi_seq <| wi_reg rfl <| lx_move (vp) rfl rfl <| lx_len rfl Try.underlying29 hr_vp rfl <| lx_move (.int .i64 0) rfl rfl <| lx_nil <| wi_block <| ?_
  refine wi_loop (σ := Nat × Nat) (rngB 9 25 [5, 6]) (fun (ss : Nat × Nat) => [(9, .int .i64 ((ss.1 : Nat) : Int)), (5, .int .i64 ((ss.2 : Nat) : Int))]) (fun (ss : Nat × Nat) (hh : Heap) => h = hh ∧ (ss.1 ≤ p.length) ∧ (ss.2 = colN ss.1 (fun c => pb p c x))) (fun (ss : Nat × Nat) => p.length - ss.1) (0, 0) ⟨rfl, rfl, trivial⟩ ⟨rfl, ?_, ?_⟩ ?_
  · try dsimp only
    omega
  · try dsimp only
    first | done | rfl
  rintro g1 ⟨y, o⟩ hh1 ⟨rfl, hy, ho⟩ IH1
  dsimp only at *
  refine wi_seq <| wi_reg rfl <| lx_lssS rfl rfl rfl (fun c1 => ?_) (fun c1 => ?_)
  · refine lx_nil <| wi_seq <| wi_true rfl <| wi_skip <| wi_seq <| wi_block <| wi_seq <| wi_reg rfl <| lx_move (.int .i64 ((y : Nat) : Int)) rfl rfl <| lx_assign (.int .i64 ((y : Nat) : Int)) rfl rfl <| lx_nil <| wi_seq <| wi_reg rfl <| lx_move (vp) rfl rfl <| lx_move (.int .i64 ((y : Nat) : Int)) rfl rfl <| lx_ix (i := y) rfl eT29 hr_vp rfl rfl (by first | omega | (simp only [List.length_set, List.length_append, List.length_cons, List.length_nil, List.length_replicate, List.length_take, swp_length, exch_length]; omega)) <| lx_ld (i := y) (j := 0) ((gt hs y).v) rfl rfl fl70 hr_vp (by first | omega | (simp only [List.length_set, List.length_append, List.length_cons, List.length_nil, List.length_replicate, List.length_take, swp_length, exch_length]; omega)) rfl rfl <| lx_move (.int .i64 ((x : Nat) : Int)) rfl rfl <| lx_ix (i := x) rfl eT70 (ht_vp.2 y (by first | omega | (simp only [List.length_set, List.length_append, List.length_cons, List.length_nil, List.length_replicate, List.length_take, swp_length, exch_length]; omega))) rfl rfl (by rw [hp2.2 y (by first | omega | (simp only [List.length_set, List.length_append, List.length_cons, List.length_nil, List.length_replicate, List.length_take, swp_length, exch_length]; omega))]; omega) <| lx_ld (i := x) (j := 0) (.bool (gt (gt p y) x)) rfl rfl fl4 (ht_vp.2 y (by first | omega | (simp only [List.length_set, List.length_append, List.length_cons, List.length_nil, List.length_replicate, List.length_take, swp_length, exch_length]; omega))) (by rw [hp2.2 y (by first | omega | (simp only [List.length_set, List.length_append, List.length_cons, List.length_nil, List.length_replicate, List.length_take, swp_length, exch_length]; omega))]; omega) rfl rfl <| lx_nil <| wi_condS (t := gt (gt p y) x) rfl (fun c2 => ?_) (fun c2 => ?_)
    · refine wi_reg rfl <| ?_
      have hpw := pow12 (show y ≤ 12 by omega)
      have hpw1 := pow12 (show y + 1 ≤ 12 by omega)
      have hlt : o < 2 ^ y := by rw [ho]; exact colN_lt _ _
      have hor : o ||| 1 * 2 ^ y < 2 ^ (y + 1) := by rw [ho, colN_set (n := y) (g := fun c => pb p c x) (by assumption)]; exact colN_lt _ _
      refine lx_move (.int .i64 ((o : Nat) : Int)) rfl rfl <| lx_move (.int .i64 ((y : Nat) : Int)) rfl rfl <| lx_conv ((y : Nat) : Int) rfl Try.underlying3 Try.underlying45 rfl (wrap_u64 (by omega) (by omega)) <| lx_shl (m := 1) (n := y) rfl rfl rfl (by show _ ≤ 64; omega) (wrap_i64 (by omega) (by omega)) <| lx_or (m := o) (n := 1 * 2 ^ y) rfl rfl rfl (by show _ < 2 ^ 64; omega) (by show _ < 2 ^ 64; omega) (wrap_i64 (by omega) (by omega)) <| lx_assign (.int .i64 ((o ||| (1 * 2 ^ y) : Nat) : Int)) rfl rfl <| lx_nil <| wi_inBlock <| wi_reg rfl <| lx_add (((y + 1 : Nat) : Int)) rfl rfl rfl (by omega) (by omega) (by omega) <| lx_move (.int .i64 ((y + 1 : Nat) : Int)) rfl rfl <| lx_nil <| ?_
      -- L0.1
      refine IH1 _ _ (y + 1, o ||| (1 * 2 ^ y)) (agree_ups rfl agree_self) ⟨rfl, rfl, trivial⟩ ⟨rfl, ?_, ?_⟩ ?_
      · try dsimp only
        omega
      · try dsimp only
        rw [ho]; first | exact colN_set (by assumption) | exact colN_skip (by assumption)
      · first | omega | (dsimp only; omega)
    · refine wi_skip <| wi_inBlock <| wi_reg rfl <| lx_add (((y + 1 : Nat) : Int)) rfl rfl rfl (by omega) (by omega) (by omega) <| lx_move (.int .i64 ((y + 1 : Nat) : Int)) rfl rfl <| lx_nil <| ?_
      -- L0.2
      refine IH1 _ _ (y + 1, o) (agree_ups rfl agree_self) ⟨rfl, rfl, trivial⟩ ⟨rfl, ?_, ?_⟩ ?_
      · try dsimp only
        omega
      · try dsimp only
        rw [ho]; first | exact colN_set (by assumption) | exact colN_skip (by assumption)
      · first | omega | (dsimp only; omega)
  · refine lx_nil <| wi_seq <| wi_false rfl <| wi_exit rfl <| wi_seq <| wi_reg rfl <| lx_move (.int .i64 ((o : Nat) : Int)) rfl rfl <| lx_assign (.int .i64 ((o : Nat) : Int)) rfl rfl <| lx_nil <| ?_
    -- R1
    refine wi_ret ⟨.int .i64 ((o : Nat) : Int), (res_one rfl rfl), ⟨?_, rfl⟩⟩
    · rw [ho, show y = p.length from by omega]; rfl

end Go.Proofs.Ytdokijbdnajhgaa
namespace Go.Proofs.Ytdokijbdnajhgaa
open Go Go.X

set_option maxRecDepth 10000 in
theorem ideals_spec (h : Heap) (vp : Value) (hs : List Hdr) (p : List (List Bool)) (hr_vp : RdE encHd h vp hs) (ht_vp : RT encB h hs p) (hp1 : p.length ≤ 12) (hp2 : Sq p p.length) : Fx Try.prog 76 [vp] h (fun v h' => ∃ (s : Value), v = s ∧ OwE encI h' h.size 3 s (idealsF p.length (pb p)) ∧ Ext h.size h h') := by
  have hl_vp := ht_vp.1
  refine fx_intro (n := 44) [(0, vp)] Try.func76 rfl rfl (by simp) ⟨rfl, trivial⟩ fun g0 => ?_
  refine wi_seq <| wi_reg rfl <| lx_assign (.slice none 0 0) rfl rfl <| lx_nil <| wi_seq <| wi_reg rfl <| lx_assign (.slice none 0 0) rfl rfl <| lx_nil <| wi_seq <| wi_seq <| wi_reg rfl <| ?_
  have hpw := pow12 hp1
  have hpe : 2 ^ hs.length = 2 ^ p.length := by rw [hl_vp]
  refine lx_move (vp) rfl rfl <| lx_len rfl Try.underlying29 hr_vp rfl <| lx_conv ((hs.length : Nat) : Int) rfl Try.underlying3 Try.underlying45 rfl (wrap_u64 (by omega) (by omega)) <| lx_shl (m := 1) (n := hs.length) rfl rfl rfl (by show _ ≤ 64; omega) (wrap_i64 (by omega) (by omega)) <| lx_move (.int .i64 0) rfl rfl <| lx_nil <| wi_block <| ?_
  refine wi_loop (σ := Nat × Value × (List Int)) (rngB 11 43 [3, 4, 5, 6]) (fun (ss : Nat × Value × (List Int)) => [(11, .int .i64 ((ss.1 : Nat) : Int)), (3, ss.2.1)]) (fun (ss : Nat × Value × (List Int)) (hh : Heap) => OwE encI hh h.size 3 ss.2.1 ss.2.2 ∧ Ext h.size h hh ∧ (ss.1 ≤ 2 ^ p.length) ∧ (ss.2.2 = filtF ss.1 (idlB p.length (pb p)))) (fun (ss : Nat × Value × (List Int)) => 2 ^ p.length - ss.1) (0, .slice none 0 0, []) ⟨rfl, rfl, trivial⟩ ⟨?_, (Ext.refl _ _), ?_, ?_⟩ ?_
  · first | exact (owE_nil encI _ h.size 3) | (simpa using (owE_nil encI _ h.size 3))
  · try dsimp only
    exact Nat.zero_le _
  · try dsimp only
    first | done | rfl
  rintro g1 ⟨t, v, xs⟩ hh1 ⟨ho1, hx0_1, hsl, hxs⟩ IH1
  dsimp only at *
  refine wi_seq <| wi_reg rfl <| lx_lssS rfl rfl rfl (fun c1 => ?_) (fun c1 => ?_)
  · refine lx_nil <| wi_seq <| wi_true rfl <| wi_skip <| wi_seq <| wi_block <| wi_seq <| wi_reg rfl <| lx_move (.int .i64 ((t : Nat) : Int)) rfl rfl <| lx_assign (.int .i64 ((t : Nat) : Int)) rfl rfl <| lx_nil <| wi_seq <| wi_reg rfl <| ?_
    have hxl : xs.length ≤ t := by rw [hxs]; exact filtF_length _ _
    refine lx_assign (.bool true) rfl rfl <| lx_nil <| wi_seq <| wi_seq <| wi_reg rfl <| lx_move (vp) rfl rfl <| lx_len rfl Try.underlying29 hr_vp rfl <| lx_move (.int .i64 0) rfl rfl <| lx_nil <| wi_block <| ?_
    refine wi_loop (σ := Nat × Bool) (rngB 16 37 [5, 6]) (fun (ss : Nat × Bool) => [(16, .int .i64 ((ss.1 : Nat) : Int)), (5, .bool ss.2)]) (fun (ss : Nat × Bool) (hh : Heap) => hh1 = hh ∧ (ss.1 ≤ p.length) ∧ (ss.2 = (List.range ss.1).all (fun q => !t.testBit q || incl (dnF p.length (pb p) q) t))) (fun (ss : Nat × Bool) => p.length - ss.1) (0, true) ⟨rfl, rfl, trivial⟩ ⟨rfl, ?_, ?_⟩ ?_
    · try dsimp only
      omega
    · try dsimp only
      first | done | rfl
    rintro g2 ⟨x, w⟩ hh2 ⟨rfl, hx, hw⟩ IH2
    dsimp only at *
    refine wi_seq <| wi_reg rfl <| lx_lssS rfl rfl rfl (fun c2 => ?_) (fun c2 => ?_)
    · refine lx_nil <| wi_seq <| wi_true rfl <| wi_skip <| wi_seq <| wi_block <| wi_seq <| wi_reg rfl <| lx_move (.int .i64 ((x : Nat) : Int)) rfl rfl <| lx_assign (.int .i64 ((x : Nat) : Int)) rfl rfl <| lx_nil <| wi_reg rfl <| ?_
      have hdv := Nat.div_le_self t (2 ^ x)
      have hdl := dnF_lt p.length (pb p) x
      have hbl : t / 2 ^ x &&& 1 ≤ 1 := Nat.and_le_right
      refine lx_move (.bool w) rfl rfl <| lx_move (.bool w) rfl rfl <| ?_
      cases c3 : w
      · refine lx_skip rfl <| lx_skip rfl <| lx_skip rfl <| lx_skip rfl <| lx_skip rfl <| lx_skip rfl <| lx_skip rfl <| lx_skip rfl <| lx_skip rfl <| lx_skip rfl <| lx_skip rfl <| lx_skip rfl <| lx_skip rfl <| lx_skip rfl <| lx_pick false (.bool false) rfl rfl rfl <| lx_assign (.bool false) rfl rfl <| lx_nil <| wi_inBlock <| wi_reg rfl <| lx_add (((x + 1 : Nat) : Int)) rfl rfl rfl (by omega) (by omega) (by omega) <| lx_move (.int .i64 ((x + 1 : Nat) : Int)) rfl rfl <| lx_nil <| ?_
        -- L2.1
        refine IH2 _ _ (x + 1, false) (agree_ups rfl agree_self) ⟨rfl, rfl, trivial⟩ ⟨rfl, ?_, ?_⟩ ?_
        · try dsimp only
          omega
        · try dsimp only
          rw [rall_succ, ← hw]
          first
          | (rw [show w = false from by assumption]; rfl)
          | (rw [show w = true from by assumption, show t.testBit x = false from bit_zero.1 (by omega)]; rfl)
          | (rw [show w = true from by assumption, show t.testBit x = true from bit_nz (by omega)]; exact incl_D)
        · first | omega | (dsimp only; omega)
      · refine lx_move (.int .i64 ((t : Nat) : Int)) rfl rfl <| lx_move (.int .i64 ((x : Nat) : Int)) rfl rfl <| lx_conv ((x : Nat) : Int) rfl Try.underlying3 Try.underlying45 rfl (wrap_u64 (by omega) (by omega)) <| lx_shr (m := t) (n := x) rfl rfl rfl (by show _ ≤ 64; omega) <| lx_and (m := t / 2 ^ x) (n := 1) rfl rfl rfl (by show _ < 2 ^ 64; omega) (by show _ < 2 ^ 64; omega) (wrap_i64 (by omega) (by omega)) <| lx_eqlS rfl rfl rfl (fun c4 => ?_) (fun c4 => ?_)
        · refine lx_move (.bool true) rfl rfl <| lx_skip rfl <| lx_skip rfl <| lx_skip rfl <| lx_skip rfl <| lx_skip rfl <| lx_skip rfl <| lx_pick true (.bool true) rfl rfl rfl <| lx_pick true (.bool true) rfl rfl rfl <| lx_assign (.bool true) rfl rfl <| lx_nil <| wi_inBlock <| wi_reg rfl <| lx_add (((x + 1 : Nat) : Int)) rfl rfl rfl (by omega) (by omega) (by omega) <| lx_move (.int .i64 ((x + 1 : Nat) : Int)) rfl rfl <| lx_nil <| ?_
          -- L2.2
          refine IH2 _ _ (x + 1, true) (agree_ups rfl agree_self) ⟨rfl, rfl, trivial⟩ ⟨rfl, ?_, ?_⟩ ?_
          · try dsimp only
            omega
          · try dsimp only
            rw [rall_succ, ← hw]
            first
            | (rw [show w = false from by assumption]; rfl)
            | (rw [show w = true from by assumption, show t.testBit x = false from bit_zero.1 (by omega)]; rfl)
            | (rw [show w = true from by assumption, show t.testBit x = true from bit_nz (by omega)]; exact incl_D)
          · first | omega | (dsimp only; omega)
        · refine lx_move (.bool false) rfl rfl <| lx_move (vp) rfl rfl <| lx_move (.int .i64 ((x : Nat) : Int)) rfl rfl <| lx_call [vp, .int .i64 ((x : Nat) : Int)] rfl rfl Try.call81 rfl (down_spec hh1 vp hs p x (hr_vp.extS hx0_1) (ht_vp.extS hx0_1) (by omega) (by first | with_reducible assumption | omega) (by omega)) (fun _ _ _ => trivial) ?_
          rintro _ h1 ⟨rfl, rfl⟩
          refine lx_move (.int .i64 ((t : Nat) : Int)) rfl rfl <| lx_andNot (m := dnF p.length (pb p) x) (n := t) rfl rfl rfl (by show _ < 2 ^ 64; omega) (by show _ < 2 ^ 64; omega) (wrap_i64 (by omega) (by have := andNot_le (dnF p.length (pb p) x) t; omega)) <| lx_eql rfl rfl rfl <| lx_pick false (.bool (decide (((andNot (dnF p.length (pb p) x) t : Nat) : Int) = (0 : Int)))) rfl rfl rfl <| lx_pick true (.bool (decide (((andNot (dnF p.length (pb p) x) t : Nat) : Int) = (0 : Int)))) rfl rfl rfl <| lx_assign (.bool (decide (((andNot (dnF p.length (pb p) x) t : Nat) : Int) = (0 : Int)))) rfl rfl <| lx_nil <| wi_inBlock <| wi_reg rfl <| lx_add (((x + 1 : Nat) : Int)) rfl rfl rfl (by omega) (by omega) (by omega) <| lx_move (.int .i64 ((x + 1 : Nat) : Int)) rfl rfl <| lx_nil <| ?_
          -- L2.3
          refine IH2 _ _ (x + 1, decide (((andNot (dnF p.length (pb p) x) t : Nat) : Int) = (0 : Int))) (agree_ups rfl agree_self) ⟨rfl, rfl, trivial⟩ ⟨rfl, ?_, ?_⟩ ?_
          · try dsimp only
            omega
          · try dsimp only
            rw [rall_succ, ← hw]
            first
            | (rw [show w = false from by assumption]; rfl)
            | (rw [show w = true from by assumption, show t.testBit x = false from bit_zero.1 (by omega)]; rfl)
            | (rw [show w = true from by assumption, show t.testBit x = true from bit_nz (by omega)]; exact incl_D)
          · first | omega | (dsimp only; omega)
    · refine lx_nil <| wi_seq <| wi_false rfl <| wi_exit rfl <| wi_seq <| wi_reg rfl <| lx_move (.bool w) rfl rfl <| lx_nil <| wi_condS (t := w) rfl (fun c5 => ?_) (fun c5 => ?_)
      · refine wi_reg rfl <| lx_move (v) rfl rfl <| lx_move (.int .i64 ((t : Nat) : Int)) rfl rfl <| lx_appendL (E := encI) (B := h.size) [((t : Nat) : Int)] [.int .i64 ((t : Nat) : Int)] rfl rfl (fun _ => rfl) rfl eT25 rfl rfl rfl rfl ho1 (fun _ => rfl) (by show xs.length + 1 ≤ _; omega) (by show (xs.length + 1) * 8 ≤ _; omega) hx0_1.size (fun _ _ => trivial) fun u1 v1 h2 ho2 hc1 hg1 => ?_
        have hx0_2 := hx0_1.trans (ho1.ext hc1 hx0_1.size)
        refine lx_assign (v1) rfl rfl <| lx_nil <| wi_inBlock <| wi_reg rfl <| lx_add (((t + 1 : Nat) : Int)) rfl rfl rfl (by omega) (by omega) (by omega) <| lx_move (.int .i64 ((t + 1 : Nat) : Int)) rfl rfl <| lx_nil <| ?_
        -- L0.1
        refine IH1 _ _ (t + 1, v1, xs ++ [((t : Nat) : Int)]) (agree_ups rfl (agree_mix (rngB_sub (by decide) (by decide) rfl) (agree_ups rfl agree_self))) ⟨rfl, rfl, trivial⟩ ⟨?_, hx0_2, ?_, ?_⟩ ?_
        · first | exact ho2 | (simpa using ho2)
        · try dsimp only
          omega
        · try dsimp only
          rw [hxs]
          have hid : w = idlB p.length (pb p) t := by rw [hw, show x = p.length from by omega]; rfl
          first
          | exact filtF_yes (by rw [← hid]; assumption)
          | exact filtF_no (by rw [← hid]; assumption)
        · first | omega | (dsimp only; omega)
      · refine wi_skip <| wi_inBlock <| wi_reg rfl <| lx_add (((t + 1 : Nat) : Int)) rfl rfl rfl (by omega) (by omega) (by omega) <| lx_move (.int .i64 ((t + 1 : Nat) : Int)) rfl rfl <| lx_nil <| ?_
        -- L0.2
        refine IH1 _ _ (t + 1, v, xs) (agree_ups rfl (agree_mix (rngB_sub (by decide) (by decide) rfl) (agree_ups rfl agree_self))) ⟨rfl, rfl, trivial⟩ ⟨?_, hx0_1, ?_, ?_⟩ ?_
        · first | exact ho1 | (simpa using ho1)
        · try dsimp only
          omega
        · try dsimp only
          rw [hxs]
          have hid : w = idlB p.length (pb p) t := by rw [hw, show x = p.length from by omega]; rfl
          first
          | exact filtF_yes (by rw [← hid]; assumption)
          | exact filtF_no (by rw [← hid]; assumption)
        · first | omega | (dsimp only; omega)
  · refine lx_nil <| wi_seq <| wi_false rfl <| wi_exit rfl <| wi_seq <| wi_reg rfl <| lx_move (v) rfl rfl <| lx_assign (v) rfl rfl <| lx_nil <| ?_
    -- R1
    refine wi_ret ⟨v, (res_one rfl rfl), ⟨v, rfl, ?_, hx0_1⟩⟩
    · rw [show idealsF p.length (pb p) = xs from by rw [hxs, show t = 2 ^ p.length from by omega]; rfl]; exact ho1

set_option maxRecDepth 10000 in
theorem oideals_spec (h : Heap) (vp : Value) (hs : List Hdr) (p : List (List Bool)) (hr_vp : RdE encHd h vp hs) (ht_vp : RT encB h hs p) (hp1 : p.length ≤ 1000000) (hp2 : ∀ i, i < p.length → (gt p i).length ≤ 1000000) : Fx Try.prog 16 [vp] h (fun v h' => ∃ (s : Value) (xs : List Int), v = .tuple #[s, .int .i64 (chkT p)] ∧ OwE encI h' h.size 3 s xs ∧ ((chkT p ≠ 0 ∧ xs = []) ∨ (chkT p = 0 ∧ xs = idealsF p.length (pb p))) ∧ Ext h.size h h') := by
  have hl_vp := ht_vp.1
  refine fx_intro (n := 12) [(0, vp)] Try.func16 rfl rfl (by simp) ⟨rfl, trivial⟩ fun g0 => ?_
  refine wi_seq <| wi_reg rfl <| lx_assign (.slice none 0 0) rfl rfl <| lx_assign (.int .i64 0) rfl rfl <| lx_nil <| wi_seq <| wi_seq <| wi_reg rfl <| lx_move (vp) rfl rfl <| lx_call [vp] rfl rfl Try.call62 rfl (ocheck_spec h vp hs p hr_vp ht_vp (by omega) (by first | with_reducible assumption | omega)) (fun _ _ _ => trivial) ?_
  rintro _ h1 ⟨rfl, hx1⟩
  refine lx_assign (.int .i64 (chkT p)) rfl rfl <| lx_nil <| wi_seq <| wi_reg rfl <| lx_move (.int .i64 (chkT p)) rfl rfl <| lx_neqS rfl rfl rfl (fun c1 => ?_) (fun c1 => ?_)
  · refine lx_nil <| wi_true rfl <| wi_seq <| wi_reg rfl <| lx_move (.int .i64 (chkT p)) rfl rfl <| lx_assign (.slice none 0 0) rfl rfl <| lx_assign (.int .i64 (chkT p)) rfl rfl <| lx_nil <| ?_
    -- R1
    refine wi_ret ⟨.tuple #[.slice none 0 0, .int .i64 (chkT p)], (res_two rfl rfl rfl), ⟨.slice none 0 0, [], rfl, (owE_nil encI _ h.size 3), ?_, hx1⟩⟩
    · exact .inl ⟨by omega, rfl⟩
  · refine lx_nil <| wi_false rfl <| wi_skip <| wi_seq <| wi_reg rfl <| ?_
    have hok := chkT_ok (p := p) (by omega)
    have hp12 : p.length ≤ 12 := hok.2.1
    have hpq : Sq p p.length := isT_sq hok.2.2
    refine lx_move (vp) rfl rfl <| lx_call [vp] rfl rfl Try.call76 rfl (ideals_spec h1 vp hs p (hr_vp.extS hx1) (ht_vp.extS hx1) (by omega) (by first | with_reducible assumption | omega)) (fun _ _ _ => trivial) ?_
    rintro v1 h2 ⟨_, rfl, ho1, hx2⟩
    have hx0_1 := hx1.trans2 hx2 hx1.size
    have ho2 := ho1.base hx1.size
    refine lx_assign (v1) rfl rfl <| lx_assign (.int .i64 0) rfl rfl <| lx_nil <| ?_
    -- R2
    refine wi_ret ⟨.tuple #[v1, .int .i64 0], (res_two rfl rfl rfl), ⟨v1, idealsF p.length (pb p), ?_, ho2, ?_, hx0_1⟩⟩
    · rw [show chkT p = 0 from by omega]
    · exact .inr ⟨by omega, rfl⟩

set_option maxRecDepth 10000 in
theorem inclusion_spec (h : Heap) (vl : Value) (xs : List Int) (hr_vl : RdE encI h vl xs) (hp1 : xs.length ≤ 4096) (hp2 : ∀ i, i < xs.length → 0 ≤ gt xs i ∧ gt xs i < 4096) : Fx Try.prog 77 [vl] h (fun v h' => ∃ (s : Value) (hs : List Hdr), v = s ∧ OwE encHd h' h.size 70 s hs ∧ OT encB h' h.size 4 hs (tabF xs.length (incF xs)) ∧ Ext h.size h h') := by
  refine fx_intro (n := 40) [(0, vl)] Try.func77 rfl rfl (by simp) ⟨rfl, trivial⟩ fun g0 => ?_
  refine wi_seq <| wi_reg rfl <| lx_assign (.slice none 0 0) rfl rfl <| lx_nil <| wi_seq <| wi_reg rfl <| lx_move (vl) rfl rfl <| lx_len rfl Try.underlying25 hr_vl rfl <| lx_make (E := encHd) (n := xs.length) (B := h.size) (default : Hdr) rfl rfl Try.underlying29 (eZ29) rfl rfl (by omega) (by omega) (Nat.le_refl _) (fun _ _ => trivial) fun v1 h1 ho1 hx1 hvb1 => ?_
  have ho2 := ho1.base (Nat.le_refl h.size)
  have hot1 := OT.rep encB h1 h.size 4 xs.length
  have hl_hot1 := hot1.1
  refine lx_assign (v1) rfl rfl <| lx_nil <| wi_seq <| wi_seq <| wi_reg rfl <| lx_move (vl) rfl rfl <| lx_len rfl Try.underlying25 hr_vl rfl <| lx_move (.int .i64 0) rfl rfl <| lx_nil <| wi_block <| ?_
  refine wi_loop (σ := Nat × (List Hdr) × (List (List Bool))) (rngB 13 39 [4, 5, 7]) (fun (ss : Nat × (List Hdr) × (List (List Bool))) => [(13, .int .i64 ((ss.1 : Nat) : Int))]) (fun (ss : Nat × (List Hdr) × (List (List Bool))) (hh : Heap) => OwE encHd hh h.size 70 v1 ss.2.1 ∧ OT encB hh h.size 4 ss.2.1 ss.2.2 ∧ Ext h.size h hh ∧ (ss.1 ≤ xs.length) ∧ (ss.2.2.length = xs.length) ∧ (∀ k, k < xs.length → gt ss.2.2 k = if k < ss.1 then rowF xs.length (incF xs k) else [])) (fun (ss : Nat × (List Hdr) × (List (List Bool))) => xs.length - ss.1) (0, List.replicate xs.length default, List.replicate xs.length []) ⟨rfl, trivial⟩ ⟨?_, ?_, hx1, ?_, ?_, ?_⟩ ?_
  · first | exact ho2 | (simpa using ho2)
  · first | exact hot1 | (simpa using hot1)
  · try dsimp only
    omega
  · try dsimp only
    simp
  · try dsimp only
    intro k hk; rw [gt_replicate hk, if_neg (by omega)]
  rintro g1 ⟨i, hs, r⟩ hh1 ⟨ho3, hot2, hx0_1, hi, hrl, hrw⟩ IH1
  dsimp only at *
  have hl_hot2 := hot2.1
  refine wi_seq <| wi_reg rfl <| lx_lssS rfl rfl rfl (fun c1 => ?_) (fun c1 => ?_)
  · refine lx_nil <| wi_seq <| wi_true rfl <| wi_skip <| wi_seq <| wi_block <| wi_seq <| wi_reg rfl <| ?_
    obtain ⟨a, hga, ha4⟩ : ∃ a : Nat, gt xs i = (a : Int) ∧ a < 4096 := ⟨(gt xs i).toNat, by have := hp2 i (by omega); omega, by have := hp2 i (by omega); omega⟩
    refine lx_move (.int .i64 ((i : Nat) : Int)) rfl rfl <| lx_ix (i := i) rfl eT25 hr_vl rfl rfl (by first | omega | (simp only [List.length_set, List.length_append, List.length_cons, List.length_nil, List.length_replicate, List.length_take, swp_length, exch_length]; omega)) <| lx_ld (i := i) (j := 0) (.int .i64 ((a : Nat) : Int)) rfl rfl fl3 (hr_vl.extS hx0_1) (by first | omega | (simp only [List.length_set, List.length_append, List.length_cons, List.length_nil, List.length_replicate, List.length_take, swp_length, exch_length]; omega)) (by show some (Value.int .i64 (gt xs i)) = _; rw [hga]) rfl <| lx_assign (.int .i64 ((i : Nat) : Int)) rfl rfl <| lx_assign (.int .i64 ((a : Nat) : Int)) rfl rfl <| lx_nil <| wi_seq <| wi_reg rfl <| lx_move (vl) rfl rfl <| lx_len rfl Try.underlying25 hr_vl rfl <| lx_move (.int .i64 0) rfl rfl <| lx_nil <| wi_block <| ?_
    refine wi_loop (σ := Nat × (List Hdr) × (List (List Bool))) (rngB 20 38 [7]) (fun (ss : Nat × (List Hdr) × (List (List Bool))) => [(20, .int .i64 ((ss.1 : Nat) : Int))]) (fun (ss : Nat × (List Hdr) × (List (List Bool))) (hh : Heap) => OwE encHd hh h.size 70 v1 ss.2.1 ∧ OT encB hh h.size 4 ss.2.1 ss.2.2 ∧ Ext h.size h hh ∧ (ss.1 ≤ xs.length) ∧ (ss.2.2.length = xs.length) ∧ (∀ k, k < xs.length → gt ss.2.2 k = if k < i then rowF xs.length (incF xs k) else if k = i then (List.range ss.1).map (incF xs i) else [])) (fun (ss : Nat × (List Hdr) × (List (List Bool))) => xs.length - ss.1) (0, hs, r) ⟨rfl, trivial⟩ ⟨?_, ?_, hx0_1, ?_, ?_, ?_⟩ ?_
    · first | exact ho3 | (simpa using ho3)
    · first | exact hot2 | (simpa using hot2)
    · try dsimp only
      omega
    · try dsimp only
      exact hrl
    · try dsimp only
      intro k hk; rw [hrw k hk]; split
      · rfl
      · split <;> rfl
    rintro g2 ⟨j, hs, r⟩ hh2 ⟨ho4, hot3, hx0_2, hj, hrl, hrw⟩ IH2
    dsimp only at *
    have hl_hot3 := hot3.1
    refine wi_seq <| wi_reg rfl <| lx_lssS rfl rfl rfl (fun c2 => ?_) (fun c2 => ?_)
    · refine lx_nil <| wi_seq <| wi_true rfl <| wi_skip <| wi_seq <| wi_block <| wi_seq <| wi_reg rfl <| ?_
      have hri : gt r i = (List.range j).map (incF xs i) := by rw [hrw i (by omega), if_neg (by omega), if_pos rfl]
      have hrl3 : (gt r i).length = j := by rw [hri]; simp
      obtain ⟨b, hgb, hb4⟩ : ∃ b : Nat, gt xs j = (b : Int) ∧ b < 4096 := ⟨(gt xs j).toNat, by have := hp2 j (by omega); omega, by have := hp2 j (by omega); omega⟩
      have hnl := andNot_le a b
      refine lx_ix (i := j) rfl eT25 hr_vl rfl rfl (by first | omega | (simp only [List.length_set, List.length_append, List.length_cons, List.length_nil, List.length_replicate, List.length_take, swp_length, exch_length]; omega)) <| lx_ld (i := j) (j := 0) (.int .i64 ((b : Nat) : Int)) rfl rfl fl3 (hr_vl.extS hx0_2) (by first | omega | (simp only [List.length_set, List.length_append, List.length_cons, List.length_nil, List.length_replicate, List.length_take, swp_length, exch_length]; omega)) (by show some (Value.int .i64 (gt xs j)) = _; rw [hgb]) rfl <| lx_assign (.int .i64 ((b : Nat) : Int)) rfl rfl <| lx_nil <| wi_reg rfl <| lx_move (v1) rfl rfl <| lx_move (.int .i64 ((i : Nat) : Int)) rfl rfl <| lx_move (v1) rfl rfl <| lx_move (.int .i64 ((i : Nat) : Int)) rfl rfl <| lx_ix (i := i) rfl eT29 ho4.rd rfl rfl (by first | omega | (simp only [List.length_set, List.length_append, List.length_cons, List.length_nil, List.length_replicate, List.length_take, swp_length, exch_length]; omega)) <| lx_ld (i := i) (j := 0) ((gt hs i).v) rfl rfl fl70 ho4.rd (by first | omega | (simp only [List.length_set, List.length_append, List.length_cons, List.length_nil, List.length_replicate, List.length_take, swp_length, exch_length]; omega)) rfl rfl <| lx_move (.int .i64 ((a : Nat) : Int)) rfl rfl <| lx_move (.int .i64 ((b : Nat) : Int)) rfl rfl <| lx_andNot (m := a) (n := b) rfl rfl rfl (by show _ < 2 ^ 64; omega) (by show _ < 2 ^ 64; omega) (wrap_i64 (by omega) (by omega)) <| lx_eql rfl rfl rfl <| lx_appendL (E := encB) (B := h.size) [decide (((andNot a b : Nat) : Int) = (0 : Int))] [.bool (decide (((andNot a b : Nat) : Int) = (0 : Int)))] rfl rfl (fun _ => rfl) rfl eT70 rfl rfl rfl rfl (hot3.2.1 i (by first | omega | (simp only [List.length_set, List.length_append, List.length_cons, List.length_nil, List.length_replicate, List.length_take, swp_length, exch_length]; omega))) (fun _ => rfl) (by show (gt r i).length + 1 ≤ _; omega) (by show ((gt r i).length + 1) * 1 ≤ _; omega) hx0_2.size (fun _ _ => trivial) fun u1 v2 h2 ho5 hc1 hg1 => ?_
      have hx0_3 := hx0_2.trans ((hot3.2.1 i (by first | omega | (simp only [List.length_set, List.length_append, List.length_cons, List.length_nil, List.length_replicate, List.length_take, swp_length, exch_length]; omega))).ext hc1 hx0_2.size)
      have ho6 := ho4.chg hc1 (Dj.symm ((djt_ty hot3 ho4 (by decide)) i (by rw [hot3.1]; exact (by first | omega | (simp only [List.length_set, List.length_append, List.length_cons, List.length_nil, List.length_replicate, List.length_take, swp_length, exch_length]; omega)))))
      have hot4 := OT.app hot3 (by first | omega | (simp only [List.length_set, List.length_append, List.length_cons, List.length_nil, List.length_replicate, List.length_take, swp_length, exch_length]; omega)) hc1 ho5 hg1
      refine lx_ix (i := i) rfl eT29 ho6.rd rfl rfl (by first | omega | (simp only [List.length_set, List.length_append, List.length_cons, List.length_nil, List.length_replicate, List.length_take, swp_length, exch_length]; omega)) <| lx_st (i := i) (hdrOf v2) rfl rfl Try.sizeOf70 ho6 (by first | omega | (simp only [List.length_set, List.length_append, List.length_cons, List.length_nil, List.length_replicate, List.length_take, swp_length, exch_length]; omega)) rfl (hdr_cells ho5.rd) (fun _ _ _ _ _ => trivial) fun h3 ho7 hc2 hsz1 => ?_
      have hx0_4 := hx0_3.trans (ho6.ext hc2 hx0_3.size)
      have hot5 : OT encB h3 h.size 4 (hs.set i (hdrOf v2)) (r.set i ((gt r i) ++ [decide (((andNot a b : Nat) : Int) = (0 : Int))])) := hot4.chg hc2 (djt_ty hot4 ho6 (by decide))
      have hl_hot5 := hot5.1
      have ho7 : OwE encHd h3 h.size 70 v1 (hs.set i (hdrOf v2)) := ho7
      refine lx_nil <| wi_inBlock <| wi_reg rfl <| lx_add (((j + 1 : Nat) : Int)) rfl rfl rfl (by omega) (by omega) (by omega) <| lx_move (.int .i64 ((j + 1 : Nat) : Int)) rfl rfl <| lx_nil <| ?_
      -- L2.1
      refine IH2 _ _ (j + 1, hs.set i (hdrOf v2), r.set i ((gt r i) ++ [decide (((andNot a b : Nat) : Int) = (0 : Int))])) (agree_ups rfl agree_self) ⟨rfl, trivial⟩ ⟨?_, ?_, hx0_4, ?_, ?_, ?_⟩ ?_
      · first | exact ho7 | (simpa using ho7)
      · first | exact hot5 | (simpa using hot5)
      · try dsimp only
        omega
      · try dsimp only
        simpa using hrl
      · try dsimp only
        intro k hk
        rw [gt_set (by omega)]
        by_cases e : k = i
        · subst e; rw [if_pos rfl, if_neg (by omega), if_pos rfl, hri, List.range_succ, List.map_append]
          congr 1
          show [decide _] = [incF xs k j]
          rw [incl_D]; unfold incF; rw [hga, hgb]; rfl
        · rw [if_neg e, hrw k hk]; simp only [if_neg e]
      · first | omega | (dsimp only; omega)
    · refine lx_nil <| wi_seq <| wi_false rfl <| wi_exit rfl <| wi_inBlock <| wi_reg rfl <| lx_add (((i + 1 : Nat) : Int)) rfl rfl rfl (by omega) (by omega) (by omega) <| lx_move (.int .i64 ((i + 1 : Nat) : Int)) rfl rfl <| lx_nil <| ?_
      -- L0.1
      refine IH1 _ _ (i + 1, hs, r) (agree_ups rfl (agree_mix (rngB_sub (by decide) (by decide) rfl) (agree_ups rfl agree_self))) ⟨rfl, trivial⟩ ⟨?_, ?_, hx0_2, ?_, ?_, ?_⟩ ?_
      · first | exact ho4 | (simpa using ho4)
      · first | exact hot3 | (simpa using hot3)
      · try dsimp only
        omega
      · try dsimp only
        exact hrl
      · try dsimp only
        intro k hk
        rw [hrw k hk]
        by_cases e : k < i
        · rw [if_pos e, if_pos (by omega)]
        · rw [if_neg e]
          by_cases e2 : k = i
          · subst e2; rw [if_pos rfl, if_pos (by omega), show j = xs.length from by omega]; rfl
          · rw [if_neg e2, if_neg (by omega)]
      · first | omega | (dsimp only; omega)
  · refine lx_nil <| wi_seq <| wi_false rfl <| wi_exit rfl <| wi_seq <| wi_reg rfl <| lx_move (v1) rfl rfl <| lx_assign (v1) rfl rfl <| lx_nil <| ?_
    -- R1
    refine wi_ret ⟨v1, (res_one rfl rfl), ⟨v1, hs, rfl, ?_, ?_, hx0_1⟩⟩
    · exact ho3
    · rw [← tab_rows hrl (fun k hk => by rw [hrw k hk, if_pos (by omega)])]; exact hot2

end Go.Proofs.Ytdokijbdnajhgaa
namespace Go.X
section
variable {P : Program} {S : Heap → Prop} {kd : Oper → Kd} {ops : Array Oper} {rest : List Oper} {K : Env → Heap → Prop} {L : List (Nat × Value)} {b : Env} {h : Heap}
variable {d : Nat} {tx ty t : TypeId} {p : String} {af : Array Edge} {g : Option (Nat × Bool)} {x y : Operand}
theorem back_andZ {m : Int} {n : Nat} (hn : n < 2 ^ 64) : ((BitVec.ofInt 64 m &&& BitVec.ofInt 64 (n : Int)).toNat : Nat) = (ur m &&& n : Nat) := by
  rw [BitVec.toNat_and, BitVec.toNat_ofInt, BitVec.toNat_ofInt]
  congr 1
  show ((n : Int) % ((2 ^ 64 : Nat) : Int)).toNat = n
  rw [Int.emod_eq_of_lt (by omega) (by omega)]; simp
theorem lx_andZ {m : Int} {n : Nat} (hw : Region.wanted ⟨some d, .binOp .and tx x y ty, t, p, af, g⟩ (yieldE ops (ups L b)) = true) (hx : ev (ups L b) x = .int .i64 m) (hy : ev (ups L b) y = .int .i64 ((n : Nat) : Int)) (hn' : n < 2 ^ 63)
    (hn : Lx P S kd ops rest K (ups ((d, .int .i64 (((ur m &&& n : Nat) : Nat) : Int)) :: L) b) h) : Lx P S kd ops (⟨some d, .binOp .and tx x y ty, t, p, af, g⟩ :: rest) K (ups L b) h :=
  lx_free _ hw (fo_int hx hy fun w => by
    have hle : (ur m &&& n) ≤ n := Nat.and_le_right
    have hwr : IntKind.i64.wrap (((ur m &&& n : Nat) : Nat) : Int) = (((ur m &&& n : Nat) : Nat) : Int) := wrap_i64 (by omega) (by omega)
    have hb : ((BitVec.ofInt IntKind.i64.bits m &&& BitVec.ofInt IntKind.i64.bits (n : Int)).toNat : Nat) = (ur m &&& n : Nat) := back_andZ (by omega)
    simp only [binOp, Op.intBits, ne_eq, not_true_eq_false, if_false, hb, hwr]
    simp) hn
end
/-- All sets within 'm', rising. -/
def subs (m : Nat) : List Nat := (List.range (m + 1)).filter fun s => s &&& m == s
def nxS (s m : Nat) : Nat := ur ((s : Int) - (m : Int)) &&& m
def subsB (m : Nat) : Bool := decide (0 < (subs m).length ∧ gt (subs m) 0 = 0 ∧ gt (subs m) ((subs m).length - 1) = m) && (List.range ((subs m).length - 1)).all fun j => decide (nxS (gt (subs m) j) m = gt (subs m) (j + 1) ∧ gt (subs m) j ≠ m)
theorem subs_all : ((List.range 128).all subsB) = true := by decide +kernel
theorem subs_ok {m : Nat} (h : m < 128) : 0 < (subs m).length ∧ gt (subs m) 0 = 0 ∧ gt (subs m) ((subs m).length - 1) = m ∧ ∀ j, j + 1 < (subs m).length → nxS (gt (subs m) j) m = gt (subs m) (j + 1) ∧ gt (subs m) j ≠ m := by
  have h1 := rall_iff.1 subs_all m h
  unfold subsB at h1
  rw [Bool.and_eq_true, decide_eq_true_iff, rall_iff] at h1
  exact ⟨h1.1.1, h1.1.2.1, h1.1.2.2, fun j hj => by have := h1.2 j (by omega); rwa [decide_eq_true_iff] at this⟩
theorem mem_subs {m s : Nat} : s ∈ subs m ↔ s &&& m = s := by
  unfold subs
  rw [List.mem_filter, List.mem_range, beq_iff_eq]
  exact ⟨fun h => h.2, fun h => ⟨by have : s &&& m ≤ m := Nat.and_le_right; omega, h⟩⟩
theorem subs_le {m k : Nat} (h : k < (subs m).length) : gt (subs m) k ≤ m := by
  have := mem_subs.1 (gt_mem h)
  have h2 : gt (subs m) k &&& m ≤ m := Nat.and_le_right
  omega
/-- Whether the common parts with 'm' of a family are 's', too. -/
def trB (xs : List Int) (m s : Nat) : Bool := xs.any fun x => x.toNat &&& m == s
def shB (xs : List Int) (m : Nat) : Bool := (List.range (subs m).length).all fun k => trB xs m (gt (subs m) k)
theorem shB_iff {xs : List Int} {m : Nat} : shB xs m = true ↔ ∀ s, s &&& m = s → ∃ x, x ∈ xs ∧ x.toNat &&& m = s := by
  unfold shB trB
  rw [rall_iff]
  constructor
  · intro h s hs
    obtain ⟨k, hk, rfl⟩ := mem_gt (mem_subs.2 hs)
    obtain ⟨x, hx, he⟩ := List.any_eq_true.1 (h k hk)
    exact ⟨x, hx, by simpa using he⟩
  · intro h k hk
    obtain ⟨x, hx, he⟩ := h _ (mem_subs.1 (gt_mem hk))
    exact List.any_eq_true.2 ⟨x, hx, by simpa using he⟩
def trBk (xs : List Int) (m k s : Nat) : Bool := (xs.take k).any fun x => x.toNat &&& m == s
theorem trBk_succ {xs : List Int} {m k s : Nat} (hk : k < xs.length) : trBk xs m (k + 1) s = (trBk xs m k s || ((gt xs k).toNat &&& m == s)) := by
  unfold trBk
  rw [List.take_add_one, gt_some hk, List.any_append]; simp
theorem trBk_all {xs : List Int} {m k s : Nat} (hk : k = xs.length) : trBk xs m k s = trB xs m s := by unfold trBk trB; rw [hk, List.take_length]
theorem filtF_len_yes {N : Nat} {f : Nat → Bool} (h : f N = true) : (filtF (N + 1) f).length = (filtF N f).length + 1 := by rw [← filtF_yes h]; simp
theorem filtF_len_no {N : Nat} {f : Nat → Bool} (h : f N = false) : (filtF (N + 1) f).length = (filtF N f).length := by rw [← filtF_no h]
theorem filtF_pre {f : Nat → Bool} {w : Nat} : ∀ d, ∃ r, filtF (w + d) f = filtF w f ++ r
  | 0 => ⟨[], by simp⟩
  | d + 1 => by
    obtain ⟨r, hr⟩ := filtF_pre (f := f) (w := w) d
    rw [show w + (d + 1) = (w + d) + 1 from rfl, filtF_succ, hr, List.append_assoc]
    exact ⟨_, rfl⟩
theorem filtF_at {N w : Nat} {f : Nat → Bool} (hw : w < N) (h : f w = true) : (filtF w f).length < (filtF N f).length ∧ gt (filtF N f) (filtF w f).length = (w : Int) := by
  obtain ⟨r, hr⟩ := filtF_pre (f := f) (w := w + 1) (N - (w + 1))
  rw [show w + 1 + (N - (w + 1)) = N from by omega, ← filtF_yes h] at hr
  rw [hr]
  refine ⟨by rw [List.length_append, List.length_append]; show _ < _ + 1 + _; omega, ?_⟩
  rw [gt_append_left (by rw [List.length_append]; show _ < _ + 1; omega), gt_append_right]
theorem gt_asc {xs : List Int} (h : xs.Pairwise (· < ·)) {i j : Nat} (hij : i < j) (hj : j < xs.length) : gt xs i < gt xs j := by
  rw [gt_eq (by omega), gt_eq hj]
  exact List.pairwise_iff_getElem.1 h i j (by omega) hj hij
theorem bit_no {s x : Nat} (h : ¬ s / 2 ^ x % 2 = 1) : s.testBit x = false := by
  cases c : s.testBit x
  · rfl
  · exact absurd (bit_mod.2 c) h
end Go.X
namespace Go.X
theorem nodup_le {α : Type} [DecidableEq α] : ∀ {l l' : List α}, l.Nodup → (∀ x, x ∈ l → x ∈ l') → l.length ≤ l'.length
  | [], _, _, _ => Nat.zero_le _
  | x :: l, l', hn, hs => by
    rw [List.nodup_cons] at hn
    have hx := hs x (List.mem_cons_self ..)
    have h1 : l.length ≤ (l'.erase x).length := nodup_le hn.2 fun y hy => by
      have hne : y ≠ x := fun e => hn.1 (e ▸ hy)
      exact (List.mem_erase_of_ne hne).2 (hs y (List.mem_cons_of_mem _ hy))
    rw [List.length_erase_of_mem hx] at h1
    have : 0 < l'.length := List.length_pos_of_mem hx
    simp only [List.length_cons]; omega
theorem nodup_map {α β : Type} {f : α → β} : ∀ {l : List α}, l.Nodup → (∀ x y, x ∈ l → y ∈ l → f x = f y → x = y) → (l.map f).Nodup
  | [], _, _ => List.nodup_nil
  | x :: l, hn, hi => by
    rw [List.nodup_cons] at hn
    rw [List.map_cons, List.nodup_cons]
    refine ⟨fun hm => ?_, nodup_map hn.2 fun a b ha hb => hi a b (List.mem_cons_of_mem _ ha) (List.mem_cons_of_mem _ hb)⟩
    obtain ⟨y, hy, e⟩ := List.mem_map.1 hm
    exact hn.1 (hi y x (List.mem_cons_of_mem _ hy) (List.mem_cons_self ..) e ▸ hy)
/-- As many of one kind as of the other, if there are maps that lose nothing. -/
theorem filt_le {N : Nat} {P Q : Nat → Bool} (F : Nat → Nat) (hF : ∀ a, a < N → P a = true → F a < N ∧ Q (F a) = true) (hi : ∀ a b, a < N → b < N → P a = true → P b = true → F a = F b → a = b) : (filtF N P).length ≤ (filtF N Q).length := by
  unfold filtF
  rw [List.length_map, List.length_map]
  have hn : ((List.range N).filter P).Nodup := List.nodup_range.filter _
  rw [← List.length_map (f := F)]
  refine nodup_le (nodup_map hn fun x y hx hy e => ?_) fun x hx => ?_
  · rw [List.mem_filter, List.mem_range] at hx hy
    exact hi x y hx.1 hy.1 hx.2 hy.2 e
  · obtain ⟨a, ha, rfl⟩ := List.mem_map.1 hx
    rw [List.mem_filter, List.mem_range] at ha ⊢
    exact hF a ha.1 ha.2
theorem count_lt {p q : Nat → Bool} (h : ∀ i, q i = true → p i = true) : ∀ {n : Nat}, (∃ j, j < n ∧ p j = true ∧ q j = false) → (List.range n).countP q < (List.range n).countP p
  | 0, ⟨j, hj, _⟩ => absurd hj (by omega)
  | n + 1, ⟨j, hj, h1, h2⟩ => by
    rw [List.range_succ, List.countP_append, List.countP_append]
    have hle : ∀ m, (List.range m).countP q ≤ (List.range m).countP p := fun m => List.countP_mono_left fun x _ => h x
    simp only [List.countP_cons, List.countP_nil]
    by_cases e : j = n
    · subst e
      rw [h1, h2]
      have := hle j
      simp; omega
    · have := count_lt h (n := n) ⟨j, by omega, h1, h2⟩
      cases c : q n
      · simp; split <;> omega
      · rw [h n c]; simp; omega

/-- No element below another one. -/
def alnR (n : Nat) (f : Nat → Nat → Bool) (s x : Nat) : Bool := (List.range n).all fun y => decide (x = y) || !s.testBit x || !s.testBit y || !f x y
def alnB (n : Nat) (f : Nat → Nat → Bool) (s : Nat) : Bool := (List.range n).all fun x => alnR n f s x
theorem alnB_iff {n s : Nat} {f : Nat → Nat → Bool} : alnB n f s = true ↔ ∀ x y, x < n → y < n → s.testBit x = true → s.testBit y = true → f x y = true → x = y := by
  unfold alnB alnR
  rw [rall_iff]
  constructor
  · intro h x y hx hy h1 h2 h3
    have := rall_iff.1 (h x hx) y hy
    rw [h1, h2, h3] at this
    simpa using this
  · intro h x hx
    refine rall_iff.2 fun y hy => ?_
    by_cases e : x = y
    · rw [decide_eq_true e]; rfl
    · cases h1 : s.testBit x
      · simp
      · cases h2 : s.testBit y
        · simp
        · cases h3 : f x y
          · simp
          · exact absurd (h x y hx hy h1 h2 h3) e
/-- All that is below something in a set. -/
def dnS (n : Nat) (f : Nat → Nat → Bool) (s : Nat) : Nat := colN n fun z => (List.range n).any fun y => s.testBit y && f z y
theorem dnS_lt (n : Nat) (f : Nat → Nat → Bool) (s : Nat) : dnS n f s < 2 ^ n := colN_lt n _
theorem dnS_bit {n s z : Nat} {f : Nat → Nat → Bool} : (dnS n f s).testBit z = true ↔ z < n ∧ ∃ y, y < n ∧ s.testBit y = true ∧ f z y = true := by
  unfold dnS
  rw [colN_bit, Bool.and_eq_true, decide_eq_true_iff, List.any_eq_true]
  constructor
  · rintro ⟨h, y, hy, h1⟩
    rw [Bool.and_eq_true] at h1
    exact ⟨h, y, List.mem_range.1 hy, h1.1, h1.2⟩
  · rintro ⟨h, y, hy, h1, h2⟩
    exact ⟨h, y, List.mem_range.2 hy, by rw [h1, h2]; rfl⟩
theorem dnS_ideal {n s : Nat} {f : Nat → Nat → Bool} (ho : IsO n f) : idlB n f (dnS n f s) = true := by
  rw [idlB_iff]
  intro x y hx hy hb hf
  rw [dnS_bit] at hb ⊢
  obtain ⟨_, w, hw, h1, h2⟩ := hb
  exact ⟨hy, w, hw, h1, ho.trans hy hx hw hf h2⟩
/-- The greatest ones of a set. -/
def mxS (n : Nat) (f : Nat → Nat → Bool) (s : Nat) : Nat := colN n fun z => s.testBit z && (List.range n).all fun y => !s.testBit y || !f z y || decide (y = z)
theorem mxS_lt (n : Nat) (f : Nat → Nat → Bool) (s : Nat) : mxS n f s < 2 ^ n := colN_lt n _
theorem mxS_bit {n s z : Nat} {f : Nat → Nat → Bool} : (mxS n f s).testBit z = true ↔ z < n ∧ s.testBit z = true ∧ ∀ y, y < n → s.testBit y = true → f z y = true → y = z := by
  unfold mxS
  rw [colN_bit, Bool.and_eq_true, decide_eq_true_iff, Bool.and_eq_true, rall_iff]
  constructor
  · rintro ⟨h, h1, h2⟩
    exact ⟨h, h1, fun y hy a b => by have := h2 y hy; rw [a, b] at this; simpa using this⟩
  · rintro ⟨h, h1, h2⟩
    exact ⟨h, h1, fun y hy => by
      cases a : s.testBit y
      · rfl
      · cases b : f z y
        · rfl
        · rw [decide_eq_true (h2 y hy a b)]; rfl⟩
theorem below_mx {n s : Nat} {f : Nat → Nat → Bool} (ho : IsO n f) : ∀ (k z : Nat), (List.range n).countP (f z) ≤ k → z < n → s.testBit z = true → ∃ y, y < n ∧ (mxS n f s).testBit y = true ∧ f z y = true
  | 0, z, hk, hz, _ => by
    exfalso
    have : 0 < (List.range n).countP (f z) := List.countP_pos_iff.2 ⟨z, List.mem_range.2 hz, ho.refl hz⟩
    omega
  | k + 1, z, hk, hz, hb => by
    by_cases hm : (mxS n f s).testBit z = true
    · exact ⟨z, hz, hm, ho.refl hz⟩
    · have : ∃ y, y < n ∧ s.testBit y = true ∧ f z y = true ∧ y ≠ z := Classical.byContradiction fun hne => hm (mxS_bit.2 ⟨hz, hb, fun y hy a b => Classical.byContradiction fun e => hne ⟨y, hy, a, b, e⟩⟩)
      obtain ⟨y, hy, h1, h2, hne⟩ := this
      have hlt : (List.range n).countP (f y) < (List.range n).countP (f z) := by
        have h9 : (List.range n).countP (fun i => decide (i < n) && f y i) < (List.range n).countP (fun i => decide (i < n) && f z i) := count_lt (fun i hi => by
          rw [Bool.and_eq_true, decide_eq_true_iff] at hi ⊢
          exact ⟨hi.1, ho.trans hz hy hi.1 h2 hi.2⟩) ⟨z, hz, by rw [decide_eq_true hz, ho.refl hz]; rfl, by
          cases c : f y z
          · simp
          · exact absurd (ho.anti hz hy h2 c).symm hne⟩
        have e : ∀ g : Nat → Bool, (List.range n).countP (fun i => decide (i < n) && g i) = (List.range n).countP g := fun g => List.countP_congr fun i hi => by rw [decide_eq_true (List.mem_range.1 hi)]; simp
        rw [e, e] at h9; exact h9
      obtain ⟨w, hw, h3, h4⟩ := below_mx ho k y (by omega) hy h1
      exact ⟨w, hw, h3, ho.trans hz hy hw h2 h4⟩
theorem mx_dn {n s : Nat} {f : Nat → Nat → Bool} (ho : IsO n f) (hs : s < 2 ^ n) (ha : alnB n f s = true) : mxS n f (dnS n f s) = s := by
  rw [alnB_iff] at ha
  apply Nat.eq_of_testBit_eq
  intro i
  rw [Bool.eq_iff_iff, mxS_bit]
  constructor
  · rintro ⟨hi, h1, h2⟩
    obtain ⟨_, y, hy, h3, h4⟩ := dnS_bit.1 h1
    have := h2 y hy (dnS_bit.2 ⟨hy, y, hy, h3, ho.refl hy⟩) h4
    subst this; exact h3
  · intro hb
    have hi := bit_lt hs hb
    refine ⟨hi, dnS_bit.2 ⟨hi, i, hi, hb, ho.refl hi⟩, fun y hy h1 h2 => ?_⟩
    obtain ⟨_, w, hw, h3, h4⟩ := dnS_bit.1 h1
    have e := ha i w hi hw hb h3 (ho.trans hi hy hw h2 h4)
    subst e
    exact ho.anti hy hi h4 h2
theorem dn_mx {n s : Nat} {f : Nat → Nat → Bool} (ho : IsO n f) (hs : s < 2 ^ n) (hi : idlB n f s = true) : dnS n f (mxS n f s) = s := by
  rw [idlB_iff] at hi
  apply Nat.eq_of_testBit_eq
  intro i
  rw [Bool.eq_iff_iff, dnS_bit]
  constructor
  · rintro ⟨h, y, hy, h1, h2⟩
    exact hi y i hy h (mxS_bit.1 h1).2.1 h2
  · intro hb
    have h := bit_lt hs hb
    obtain ⟨y, hy, h1, h2⟩ := below_mx ho _ i (Nat.le_refl _) h hb
    exact ⟨h, y, hy, h1, h2⟩
theorem mx_anti {n s : Nat} {f : Nat → Nat → Bool} : alnB n f (mxS n f s) = true := by
  rw [alnB_iff]
  intro x y hx hy h1 h2 h3
  exact ((mxS_bit.1 h1).2.2 y hy (mxS_bit.1 h2).2.1 h3).symm
theorem anti_ideals {n : Nat} {f : Nat → Nat → Bool} (ho : IsO n f) : (filtF (2 ^ n) (alnB n f)).length = (idealsF n f).length :=
  Nat.le_antisymm
    (filt_le (dnS n f) (fun a _ _ => ⟨dnS_lt n f a, dnS_ideal ho⟩) fun a b ha hb h1 h2 e => by rw [← mx_dn ho ha h1, ← mx_dn ho hb h2, e])
    (filt_le (mxS n f) (fun a _ _ => ⟨mxS_lt n f a, mx_anti⟩) fun a b ha hb h1 h2 e => by rw [← dn_mx ho ha h1, ← dn_mx ho hb h2, e])
/-- The ideals shatter just the antichains. -/
theorem shat_anti {n m : Nat} {f : Nat → Nat → Bool} (ho : IsO n f) (hm : m < 2 ^ n) : shB (idealsF n f) m = alnB n f m := by
  rw [Bool.eq_iff_iff, shB_iff, alnB_iff]
  constructor
  · intro h x y hx hy h1 h2 h3
    refine Classical.byContradiction fun hne => ?_
    obtain ⟨I, hI, e⟩ := h (2 ^ y) (Nat.eq_of_testBit_eq fun i => by
      rw [Nat.testBit_and, Nat.testBit_two_pow]
      by_cases c : y = i
      · subst c; rw [h2]; simp
      · simp [c])
    obtain ⟨q, hq, hid, rfl⟩ := filtF_mem.1 hI
    rw [Int.toNat_natCast] at e
    have hy1 : (q &&& m).testBit y = true := by rw [e, Nat.testBit_two_pow]; simp
    rw [Nat.testBit_and, Bool.and_eq_true] at hy1
    have hx1 := idlB_iff.1 hid y x hy hx hy1.1 h3
    have hx2 : (q &&& m).testBit x = true := by rw [Nat.testBit_and, hx1, h1]; rfl
    rw [e, Nat.testBit_two_pow] at hx2
    exact hne (by simpa using hx2 : y = x).symm
  · intro h s hs
    refine ⟨(dnS n f s : Nat), filtF_mem.2 ⟨_, dnS_lt n f s, dnS_ideal ho, rfl⟩, ?_⟩
    rw [Int.toNat_natCast]
    apply Nat.eq_of_testBit_eq
    intro i
    have hsub : ∀ j, s.testBit j = true → m.testBit j = true := fun j hj => by rw [← hs, Nat.testBit_and, Bool.and_eq_true] at hj; exact hj.2
    rw [Bool.eq_iff_iff, Nat.testBit_and, Bool.and_eq_true, dnS_bit]
    constructor
    · rintro ⟨⟨hi, y, hy, h1, h2⟩, h3⟩
      have := h i y hi hy h3 (hsub y h1) h2
      subst this; exact h1
    · intro hb
      have hi := bit_lt hm (hsub i hb)
      exact ⟨⟨hi, i, hi, hb, ho.refl hi⟩, hsub i hb⟩
end Go.X
namespace Go.X
/-- Sums over 0, 1, .. below 'n'. -/
def sumI : Nat → (Nat → Int) → Int
  | 0, _ => 0
  | n + 1, g => sumI n g + g n
theorem sumI_congr : ∀ {n : Nat} {f g : Nat → Int}, (∀ i, i < n → f i = g i) → sumI n f = sumI n g
  | 0, _, _, _ => rfl
  | n + 1, f, g, h => by
    show sumI n f + f n = sumI n g + g n
    rw [sumI_congr fun i hi => h i (by omega), h n (by omega)]
theorem sumI_bound {B : Int} (hB : 0 ≤ B) : ∀ {n : Nat} {g : Nat → Int}, (∀ i, i < n → -B ≤ g i ∧ g i ≤ B) → -(n * B) ≤ sumI n g ∧ sumI n g ≤ n * B
  | 0, _, _ => by simp [sumI]
  | n + 1, g, h => by
    have h1 := sumI_bound hB (n := n) (g := g) fun i hi => h i (by omega)
    have h2 := h n (by omega)
    have h3 : ((n + 1 : Nat) : Int) * B = n * B + B := by rw [Int.natCast_add, Int.add_mul]; simp
    show -(((n + 1 : Nat) : Int) * B) ≤ sumI n g + g n ∧ sumI n g + g n ≤ ((n + 1 : Nat) : Int) * B
    rw [h3]
    omega
theorem sumI_add (n : Nat) (f g : Nat → Int) : sumI n (fun i => f i + g i) = sumI n f + sumI n g := by
  induction n with
  | zero => rfl
  | succ n ih => show sumI n _ + (f n + g n) = (sumI n f + f n) + (sumI n g + g n); rw [ih]; omega
theorem sumI_zero {n : Nat} {g : Nat → Int} (h : ∀ i, i < n → g i = 0) : sumI n g = 0 := by
  induction n with
  | zero => rfl
  | succ n ih => show sumI n g + g n = 0; rw [ih fun i hi => h i (by omega), h n (by omega)]; rfl
theorem sumI_one {n k : Nat} {g : Nat → Int} (hk : k < n) (h : ∀ i, i < n → i ≠ k → g i = 0) : sumI n g = g k := by
  induction n with
  | zero => omega
  | succ n ih =>
    show sumI n g + g n = g k
    by_cases e : k = n
    · subst e; rw [sumI_zero fun i hi => h i (by omega) (by omega)]; omega
    · rw [ih (by omega) fun i hi => h i (by omega), h n (by omega) (Ne.symm e)]; omega
theorem sumI_neg (n : Nat) (g : Nat → Int) : sumI n (fun i => -g i) = -sumI n g := by
  induction n with
  | zero => rfl
  | succ n ih => show sumI n _ + -g n = -(sumI n g + g n); rw [ih]; omega
theorem sumI_mul (n : Nat) (c : Int) (g : Nat → Int) : sumI n (fun i => c * g i) = c * sumI n g := by
  induction n with
  | zero => simp [sumI]
  | succ n ih => show sumI n _ + c * g n = c * (sumI n g + g n); rw [ih, Int.mul_add]
theorem sumI_swap (m n : Nat) (g : Nat → Nat → Int) : sumI m (fun i => sumI n (g i)) = sumI n (fun j => sumI m fun i => g i j) := by
  induction m with
  | zero => exact (sumI_zero fun _ _ => rfl).symm
  | succ m ih => show sumI m _ + sumI n (g m) = sumI n (fun j => sumI m (fun i => g i j) + g m j); rw [ih, sumI_add]

/-- How many are at most an element. -/
def cntD (n : Nat) (f : Nat → Nat → Bool) (y : Nat) : Nat := (List.range n).countP fun z => f z y
theorem cntD_le (n : Nat) (f : Nat → Nat → Bool) (y : Nat) : cntD n f y ≤ n := by
  have := List.countP_le_length (p := fun z => f z y) (l := List.range n)
  simpa [cntD] using this
theorem cntD_pos {n y : Nat} {f : Nat → Nat → Bool} (ho : IsO n f) (hy : y < n) : 0 < cntD n f y := List.countP_pos_iff.2 ⟨y, List.mem_range.2 hy, ho.refl hy⟩
theorem cntD_lt {n y z : Nat} {f : Nat → Nat → Bool} (ho : IsO n f) (hz : z < n) (hy : y < n) (h : f z y = true) (hne : z ≠ y) : cntD n f z < cntD n f y := by
  have h9 : (List.range n).countP (fun i => decide (i < n) && f i z) < (List.range n).countP (fun i => decide (i < n) && f i y) := count_lt (fun i hi => by
    rw [Bool.and_eq_true, decide_eq_true_iff] at hi ⊢
    exact ⟨hi.1, ho.trans hi.1 hz hy hi.2 h⟩) ⟨y, hy, by rw [decide_eq_true hy, ho.refl hy]; rfl, by
      cases c : f y z
      · simp
      · exact absurd (ho.anti hz hy h c) hne⟩
  have e : ∀ g : Nat → Bool, (List.range n).countP (fun i => decide (i < n) && g i) = (List.range n).countP g := fun g => List.countP_congr fun i hi => by rw [decide_eq_true (List.mem_range.1 hi)]; simp
  rw [e, e] at h9
  exact h9
/-- What is strictly between, with the lower end. -/
def btw (f : Nat → Nat → Bool) (x y z : Nat) : Bool := f x z && f z y && decide (z ≠ y)
def muA (n : Nat) (f : Nat → Nat → Bool) : Nat → Nat → Nat → Int
  | 0, _, _ => 0
  | k + 1, x, y => if x = y then 1 else if f x y then -sumI n fun z => if btw f x y z then muA n f k x z else 0 else 0
theorem muA_stable {n : Nat} {f : Nat → Nat → Bool} (ho : IsO n f) : ∀ (k l : Nat) {x y : Nat}, x < n → y < n → cntD n f y ≤ k → cntD n f y ≤ l → muA n f k x y = muA n f l x y
  | 0, _, x, y, hx, hy, h1, _ => absurd (cntD_pos ho hy) (by omega)
  | _ + 1, 0, x, y, hx, hy, _, h2 => absurd (cntD_pos ho hy) (by omega)
  | k + 1, l + 1, x, y, hx, hy, h1, h2 => by
    unfold muA
    by_cases e : x = y
    · rw [if_pos e, if_pos e]
    · rw [if_neg e, if_neg e]
      split
      · congr 1
        refine sumI_congr fun z hz => ?_
        cases hb : btw f x y z
        · rfl
        · rw [if_pos rfl, if_pos rfl]
          unfold btw at hb
          simp only [Bool.and_eq_true, decide_eq_true_iff] at hb
          have := cntD_lt ho hz hy hb.1.2 hb.2
          exact muA_stable ho k l hx hz (by omega) (by omega)
      · rfl
def muF (n : Nat) (f : Nat → Nat → Bool) (x y : Nat) : Int := muA n f (n + 1) x y
theorem muF_self {n x : Nat} {f : Nat → Nat → Bool} : muF n f x x = 1 := by unfold muF muA; rw [if_pos rfl]
theorem muF_out {n x y : Nat} {f : Nat → Nat → Bool} (hne : x ≠ y) (h : f x y = false) : muF n f x y = 0 := by unfold muF muA; rw [if_neg hne, h]; rfl
theorem muF_in {n x y : Nat} {f : Nat → Nat → Bool} (ho : IsO n f) (hx : x < n) (hy : y < n) (hne : x ≠ y) (h : f x y = true) : muF n f x y = -sumI n fun z => if btw f x y z then muF n f x z else 0 := by
  rw [show muF n f x y = muA n f (n + 1) x y from rfl]
  rw [muA, if_neg hne, if_pos h]
  congr 1
  refine sumI_congr fun z hz => ?_
  cases hb : btw f x y z
  · rfl
  · rw [if_pos rfl, if_pos rfl]
    unfold btw at hb
    simp only [Bool.and_eq_true, decide_eq_true_iff] at hb
    have h1 := cntD_lt ho hz hy hb.1.2 hb.2
    have h2 := cntD_le n f y
    have h3 := cntD_le n f z
    exact muA_stable ho n (n + 1) hx hz (by omega) (by omega)
theorem muA_bound {n : Nat} {f : Nat → Nat → Bool} : ∀ (k x y : Nat), -(((n + 1) ^ k : Nat) : Int) ≤ muA n f k x y ∧ muA n f k x y ≤ (((n + 1) ^ k : Nat) : Int)
  | 0, x, y => by simp [muA]
  | k + 1, x, y => by
    have hp : 0 < (n + 1) ^ (k + 1) := Nat.pow_pos (by omega)
    have hp0 : 0 < (n + 1) ^ k := Nat.pow_pos (by omega)
    unfold muA
    split
    · omega
    · split
      · have h := sumI_bound (B := (((n + 1) ^ k : Nat) : Int)) (by omega) (n := n) (g := fun z => if btw f x y z then muA n f k x z else 0) fun i _ => by
          skip
          split
          · exact muA_bound k x i
          · omega
        have e : ((n : Nat) : Int) * (((n + 1) ^ k : Nat) : Int) ≤ (((n + 1) ^ (k + 1) : Nat) : Int) := by
          rw [Nat.pow_succ, ← Int.natCast_mul]
          have : n * (n + 1) ^ k ≤ (n + 1) ^ k * (n + 1) := by rw [Nat.mul_comm]; exact Nat.mul_le_mul_left _ (by omega)
          omega
        omega
      · omega
theorem muF_bound {n : Nat} {f : Nat → Nat → Bool} (hn : n ≤ 12) (x y : Nat) : -302875106592253 ≤ muF n f x y ∧ muF n f x y ≤ 302875106592253 := by
  have h := muA_bound (n := n) (f := f) (n + 1) x y
  have h1 : (n + 1) ^ (n + 1) ≤ 13 ^ 13 := Nat.le_trans (Nat.pow_le_pow_left (by omega) _) (Nat.pow_le_pow_right (by omega) (by omega))
  have h2 : (13 : Nat) ^ 13 = 302875106592253 := by decide
  unfold muF
  omega
/-- A list of all elements, in which none comes before one below it. -/
structure LinL (n : Nat) (f : Nat → Nat → Bool) (xs : List Int) : Prop where
  len : xs.length = n
  rng : ∀ i, i < n → ∃ a : Nat, gt xs i = (a : Int) ∧ a < n
  all : ∀ a : Nat, a < n → ∃ i, i < n ∧ gt xs i = (a : Int)
  ord : ∀ i j, i < n → j < n → f (gt xs i).toNat (gt xs j).toNat = true → i ≠ j → i < j
  inj : ∀ i j, i < n → j < n → gt xs i = gt xs j → i = j
end Go.X
namespace Go.X
/-- All numbers below 'n', in some order. -/
structure PermL (n : Nat) (xs : List Int) : Prop where
  len : xs.length = n
  rng : ∀ i, i < n → ∃ a : Nat, gt xs i = (a : Int) ∧ a < n
  inj : ∀ i j, i < n → j < n → gt xs i = gt xs j → i = j
  all : ∀ a : Nat, a < n → ∃ i, i < n ∧ gt xs i = (a : Int)
def swI (i j k : Nat) : Nat := if k = j then i else if k = i then j else k
theorem swI_lt {i j k n : Nat} (hi : i < n) (hj : j < n) (hk : k < n) : swI i j k < n := by unfold swI; split <;> (try split) <;> omega
theorem swI_swI (i j k : Nat) : swI i j (swI i j k) = k := by unfold swI; split <;> (try split) <;> (try split) <;> (try split) <;> omega
theorem gt_swI {xs : List Int} {i j : Nat} (hi : i < xs.length) (hj : j < xs.length) (k : Nat) : gt ((xs.set i (gt xs j)).set j (gt xs i)) k = gt xs (swI i j k) := by
  rw [gt_set (by simpa using hj), gt_set hi]
  unfold swI
  split
  · rfl
  · split <;> rfl
theorem PermL.swap {n : Nat} {xs : List Int} (h : PermL n xs) {i j : Nat} (hi : i < n) (hj : j < n) : PermL n ((xs.set i (gt xs j)).set j (gt xs i)) := by
  have hl := h.len
  have hg := fun k => gt_swI (xs := xs) (i := i) (j := j) (by omega) (by omega) k
  refine ⟨by simp [hl], fun k hk => ?_, fun a b ha hb e => ?_, fun a ha => ?_⟩
  · rw [hg]; exact h.rng _ (swI_lt hi hj hk)
  · rw [hg, hg] at e
    have := h.inj _ _ (swI_lt hi hj ha) (swI_lt hi hj hb) e
    rw [← swI_swI i j a, this, swI_swI]
  · obtain ⟨k, hk, e⟩ := h.all a ha
    exact ⟨swI i j k, swI_lt hi hj hk, by rw [hg, swI_swI]; exact e⟩
theorem permL_iota (n : Nat) (xs : List Int) (hl : xs.length = n) (hg : ∀ i, i < n → gt xs i = ((i : Nat) : Int)) : PermL n xs :=
  ⟨hl, fun i hi => ⟨i, hg i hi, hi⟩, fun i j hi hj e => by rw [hg i hi, hg j hj] at e; omega, fun a ha => ⟨a, ha, hg a ha⟩⟩
abbrev kyF (K : Nat → Nat) (xs : List Int) (i : Nat) : Nat := K (gt xs i).toNat
/-- The first 'm' rise. -/
def RiseK (K : Nat → Nat) (xs : List Int) (m : Nat) : Prop := ∀ a b, a < b → b < m → kyF K xs a ≤ kyF K xs b
/-- The first 'm' rise but for what stands at 'j', which may be too great for those before it. -/
def RiseJ (K : Nat → Nat) (xs : List Int) (m j : Nat) : Prop := ∀ a b, a < b → b < m → b ≠ j → kyF K xs a ≤ kyF K xs b
theorem riseJ_start {K : Nat → Nat} {xs : List Int} {i : Nat} (h : RiseK K xs i) : RiseJ K xs (i + 1) i := fun a b hab hb hne => h a b hab (by omega)
theorem riseJ_stop {K : Nat → Nat} {xs : List Int} {i j : Nat} (h : RiseJ K xs (i + 1) j) (hj : j = 0 ∨ ¬ kyF K xs j < kyF K xs (j - 1)) : RiseK K xs (i + 1) := fun a b hab hb => by
  by_cases e : b = j
  · subst e
    rcases hj with h0 | h0
    · omega
    · by_cases ea : a = b - 1
      · subst ea; omega
      · have := h a (b - 1) (by omega) (by omega) (by omega); omega
  · exact h a b hab hb e
theorem riseJ_step {K : Nat → Nat} {n : Nat} {xs : List Int} {i j : Nat} (hp : PermL n xs) (hi : i < n) (hji : j ≤ i) (h : RiseJ K xs (i + 1) j) (hj : 0 < j) (hlt : kyF K xs j < kyF K xs (j - 1)) :
    RiseJ K ((xs.set j (gt xs (j - 1))).set (j - 1) (gt xs j)) (i + 1) (j - 1) := fun a b hab hb hne => by
  have hl := hp.len
  have hg := fun k => gt_swI (xs := xs) (i := j) (j := j - 1) (by omega) (by omega) k
  show K _ ≤ K _
  rw [hg, hg]
  have hs : ∀ k, swI j (j - 1) k = if k = j - 1 then j else if k = j then j - 1 else k := fun k => rfl
  rw [hs, hs, if_neg hne]
  by_cases e1 : b = j
  · rw [if_pos e1]
    by_cases e2 : a = j - 1
    · rw [if_pos e2]; exact Nat.le_of_lt hlt
    · rw [if_neg e2, if_neg (by omega)]; exact h a (j - 1) (by omega) (by omega) (by omega)
  · rw [if_neg e1]
    by_cases e2 : a = j - 1
    · rw [if_pos e2]; exact h j b (by omega) hb e1
    · rw [if_neg e2]
      by_cases e3 : a = j
      · rw [if_pos e3]; exact h (j - 1) b (by omega) hb e1
      · rw [if_neg e3]; exact h a b hab hb e1
/-- What rises by the number of elements at most it is a list in which none comes before one below it. -/
theorem linL {n : Nat} {f : Nat → Nat → Bool} (ho : IsO n f) {xs : List Int} (hp : PermL n xs) (hr : RiseK (cntD n f) xs n) : LinL n f xs :=
  ⟨hp.len, hp.rng, hp.all, fun i j hi hj hf hne => by
    refine Classical.byContradiction fun hc => ?_
    obtain ⟨a, ha, ha2⟩ := hp.rng i hi
    obtain ⟨b, hb, hb2⟩ := hp.rng j hj
    have h1 := hr j i (by omega) hi
    rw [ha, hb, Int.toNat_natCast, Int.toNat_natCast] at hf
    unfold kyF at h1
    rw [ha, hb, Int.toNat_natCast, Int.toNat_natCast] at h1
    have := cntD_lt ho ha2 hb2 hf (fun e => hne (hp.inj i j hi hj (by rw [ha, hb, e])))
    omega, hp.inj⟩
end Go.X
