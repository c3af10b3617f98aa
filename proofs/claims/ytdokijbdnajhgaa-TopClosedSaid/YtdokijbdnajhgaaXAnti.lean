/-
  Antichains, plain: what the ideals of an order shatter, and that there are as many antichains as ideals.
-/
import Derived.Test.YtdokijbdnajhgaaXWith
set_option linter.unusedSimpArgs false
set_option linter.unusedVariables false
namespace Go.X
theorem nodup_le {α : Type} [DecidableEq α] : ∀ {l l' : List α}, l.Nodup → (∀ x, x ∈ l → x ∈ l') → l.length ≤ l'.length
  | [], _, _, _ => Nat.zero_le _
  | x :: l, l', hn, hs => by
    rw [List.nodup_cons] at hn
    have hx := hs x (List.mem_cons_self ..)
    have h1 : l.length ≤ (l'.erase x).length := nodup_le hn.2 fun y hy => by
      have hne : y ≠ x := fun e => hn.1 (e ▸ hy)
      exact (List.mem_erase_of_ne hne).2 (hs y (List.mem_cons_of_mem _ hy))
    rw [List.length_erase_of_mem hx] at h1
    have : 0 < l'.length := List.length_pos_of_mem hx
    simp only [List.length_cons]; omega
theorem nodup_map {α β : Type} {f : α → β} : ∀ {l : List α}, l.Nodup → (∀ x y, x ∈ l → y ∈ l → f x = f y → x = y) → (l.map f).Nodup
  | [], _, _ => List.nodup_nil
  | x :: l, hn, hi => by
    rw [List.nodup_cons] at hn
    rw [List.map_cons, List.nodup_cons]
    refine ⟨fun hm => ?_, nodup_map hn.2 fun a b ha hb => hi a b (List.mem_cons_of_mem _ ha) (List.mem_cons_of_mem _ hb)⟩
    obtain ⟨y, hy, e⟩ := List.mem_map.1 hm
    exact hn.1 (hi y x (List.mem_cons_of_mem _ hy) (List.mem_cons_self ..) e ▸ hy)
/-- As many of one kind as of the other, if there are maps that lose nothing. -/
theorem filt_le {N : Nat} {P Q : Nat → Bool} (F : Nat → Nat) (hF : ∀ a, a < N → P a = true → F a < N ∧ Q (F a) = true) (hi : ∀ a b, a < N → b < N → P a = true → P b = true → F a = F b → a = b) : (filtF N P).length ≤ (filtF N Q).length := by
  unfold filtF
  rw [List.length_map, List.length_map]
  have hn : ((List.range N).filter P).Nodup := List.nodup_range.filter _
  rw [← List.length_map (f := F)]
  refine nodup_le (nodup_map hn fun x y hx hy e => ?_) fun x hx => ?_
  · rw [List.mem_filter, List.mem_range] at hx hy
    exact hi x y hx.1 hy.1 hx.2 hy.2 e
  · obtain ⟨a, ha, rfl⟩ := List.mem_map.1 hx
    rw [List.mem_filter, List.mem_range] at ha ⊢
    exact hF a ha.1 ha.2
theorem count_lt {p q : Nat → Bool} (h : ∀ i, q i = true → p i = true) : ∀ {n : Nat}, (∃ j, j < n ∧ p j = true ∧ q j = false) → (List.range n).countP q < (List.range n).countP p
  | 0, ⟨j, hj, _⟩ => absurd hj (by omega)
  | n + 1, ⟨j, hj, h1, h2⟩ => by
    rw [List.range_succ, List.countP_append, List.countP_append]
    have hle : ∀ m, (List.range m).countP q ≤ (List.range m).countP p := fun m => List.countP_mono_left fun x _ => h x
    simp only [List.countP_cons, List.countP_nil]
    by_cases e : j = n
    · subst e
      rw [h1, h2]
      have := hle j
      simp; omega
    · have := count_lt h (n := n) ⟨j, by omega, h1, h2⟩
      cases c : q n
      · simp; split <;> omega
      · rw [h n c]; simp; omega

/-- No element below another one. -/
def alnR (n : Nat) (f : Nat → Nat → Bool) (s x : Nat) : Bool := (List.range n).all fun y => decide (x = y) || !s.testBit x || !s.testBit y || !f x y
def alnB (n : Nat) (f : Nat → Nat → Bool) (s : Nat) : Bool := (List.range n).all fun x => alnR n f s x
theorem alnB_iff {n s : Nat} {f : Nat → Nat → Bool} : alnB n f s = true ↔ ∀ x y, x < n → y < n → s.testBit x = true → s.testBit y = true → f x y = true → x = y := by
  unfold alnB alnR
  rw [rall_iff]
  constructor
  · intro h x y hx hy h1 h2 h3
    have := rall_iff.1 (h x hx) y hy
    rw [h1, h2, h3] at this
    simpa using this
  · intro h x hx
    refine rall_iff.2 fun y hy => ?_
    by_cases e : x = y
    · rw [decide_eq_true e]; rfl
    · cases h1 : s.testBit x
      · simp
      · cases h2 : s.testBit y
        · simp
        · cases h3 : f x y
          · simp
          · exact absurd (h x y hx hy h1 h2 h3) e
/-- All that is below something in a set. -/
def dnS (n : Nat) (f : Nat → Nat → Bool) (s : Nat) : Nat := colN n fun z => (List.range n).any fun y => s.testBit y && f z y
theorem dnS_lt (n : Nat) (f : Nat → Nat → Bool) (s : Nat) : dnS n f s < 2 ^ n := colN_lt n _
theorem dnS_bit {n s z : Nat} {f : Nat → Nat → Bool} : (dnS n f s).testBit z = true ↔ z < n ∧ ∃ y, y < n ∧ s.testBit y = true ∧ f z y = true := by
  unfold dnS
  rw [colN_bit, Bool.and_eq_true, decide_eq_true_iff, List.any_eq_true]
  constructor
  · rintro ⟨h, y, hy, h1⟩
    rw [Bool.and_eq_true] at h1
    exact ⟨h, y, List.mem_range.1 hy, h1.1, h1.2⟩
  · rintro ⟨h, y, hy, h1, h2⟩
    exact ⟨h, y, List.mem_range.2 hy, by rw [h1, h2]; rfl⟩
theorem dnS_ideal {n s : Nat} {f : Nat → Nat → Bool} (ho : IsO n f) : idlB n f (dnS n f s) = true := by
  rw [idlB_iff]
  intro x y hx hy hb hf
  rw [dnS_bit] at hb ⊢
  obtain ⟨_, w, hw, h1, h2⟩ := hb
  exact ⟨hy, w, hw, h1, ho.trans hy hx hw hf h2⟩
/-- The greatest ones of a set. -/
def mxS (n : Nat) (f : Nat → Nat → Bool) (s : Nat) : Nat := colN n fun z => s.testBit z && (List.range n).all fun y => !s.testBit y || !f z y || decide (y = z)
theorem mxS_lt (n : Nat) (f : Nat → Nat → Bool) (s : Nat) : mxS n f s < 2 ^ n := colN_lt n _
theorem mxS_bit {n s z : Nat} {f : Nat → Nat → Bool} : (mxS n f s).testBit z = true ↔ z < n ∧ s.testBit z = true ∧ ∀ y, y < n → s.testBit y = true → f z y = true → y = z := by
  unfold mxS
  rw [colN_bit, Bool.and_eq_true, decide_eq_true_iff, Bool.and_eq_true, rall_iff]
  constructor
  · rintro ⟨h, h1, h2⟩
    exact ⟨h, h1, fun y hy a b => by have := h2 y hy; rw [a, b] at this; simpa using this⟩
  · rintro ⟨h, h1, h2⟩
    exact ⟨h, h1, fun y hy => by
      cases a : s.testBit y
      · rfl
      · cases b : f z y
        · rfl
        · rw [decide_eq_true (h2 y hy a b)]; rfl⟩
theorem below_mx {n s : Nat} {f : Nat → Nat → Bool} (ho : IsO n f) : ∀ (k z : Nat), (List.range n).countP (f z) ≤ k → z < n → s.testBit z = true → ∃ y, y < n ∧ (mxS n f s).testBit y = true ∧ f z y = true
  | 0, z, hk, hz, _ => by
    exfalso
    have : 0 < (List.range n).countP (f z) := List.countP_pos_iff.2 ⟨z, List.mem_range.2 hz, ho.refl hz⟩
    omega
  | k + 1, z, hk, hz, hb => by
    by_cases hm : (mxS n f s).testBit z = true
    · exact ⟨z, hz, hm, ho.refl hz⟩
    · have : ∃ y, y < n ∧ s.testBit y = true ∧ f z y = true ∧ y ≠ z := Classical.byContradiction fun hne => hm (mxS_bit.2 ⟨hz, hb, fun y hy a b => Classical.byContradiction fun e => hne ⟨y, hy, a, b, e⟩⟩)
      obtain ⟨y, hy, h1, h2, hne⟩ := this
      have hlt : (List.range n).countP (f y) < (List.range n).countP (f z) := by
        have h9 : (List.range n).countP (fun i => decide (i < n) && f y i) < (List.range n).countP (fun i => decide (i < n) && f z i) := count_lt (fun i hi => by
          rw [Bool.and_eq_true, decide_eq_true_iff] at hi ⊢
          exact ⟨hi.1, ho.trans hz hy hi.1 h2 hi.2⟩) ⟨z, hz, by rw [decide_eq_true hz, ho.refl hz]; rfl, by
          cases c : f y z
          · simp
          · exact absurd (ho.anti hz hy h2 c).symm hne⟩
        have e : ∀ g : Nat → Bool, (List.range n).countP (fun i => decide (i < n) && g i) = (List.range n).countP g := fun g => List.countP_congr fun i hi => by rw [decide_eq_true (List.mem_range.1 hi)]; simp
        rw [e, e] at h9; exact h9
      obtain ⟨w, hw, h3, h4⟩ := below_mx ho k y (by omega) hy h1
      exact ⟨w, hw, h3, ho.trans hz hy hw h2 h4⟩
theorem mx_dn {n s : Nat} {f : Nat → Nat → Bool} (ho : IsO n f) (hs : s < 2 ^ n) (ha : alnB n f s = true) : mxS n f (dnS n f s) = s := by
  rw [alnB_iff] at ha
  apply Nat.eq_of_testBit_eq
  intro i
  rw [Bool.eq_iff_iff, mxS_bit]
  constructor
  · rintro ⟨hi, h1, h2⟩
    obtain ⟨_, y, hy, h3, h4⟩ := dnS_bit.1 h1
    have := h2 y hy (dnS_bit.2 ⟨hy, y, hy, h3, ho.refl hy⟩) h4
    subst this; exact h3
  · intro hb
    have hi := bit_lt hs hb
    refine ⟨hi, dnS_bit.2 ⟨hi, i, hi, hb, ho.refl hi⟩, fun y hy h1 h2 => ?_⟩
    obtain ⟨_, w, hw, h3, h4⟩ := dnS_bit.1 h1
    have e := ha i w hi hw hb h3 (ho.trans hi hy hw h2 h4)
    subst e
    exact ho.anti hy hi h4 h2
theorem dn_mx {n s : Nat} {f : Nat → Nat → Bool} (ho : IsO n f) (hs : s < 2 ^ n) (hi : idlB n f s = true) : dnS n f (mxS n f s) = s := by
  rw [idlB_iff] at hi
  apply Nat.eq_of_testBit_eq
  intro i
  rw [Bool.eq_iff_iff, dnS_bit]
  constructor
  · rintro ⟨h, y, hy, h1, h2⟩
    exact hi y i hy h (mxS_bit.1 h1).2.1 h2
  · intro hb
    have h := bit_lt hs hb
    obtain ⟨y, hy, h1, h2⟩ := below_mx ho _ i (Nat.le_refl _) h hb
    exact ⟨h, y, hy, h1, h2⟩
theorem mx_anti {n s : Nat} {f : Nat → Nat → Bool} : alnB n f (mxS n f s) = true := by
  rw [alnB_iff]
  intro x y hx hy h1 h2 h3
  exact ((mxS_bit.1 h1).2.2 y hy (mxS_bit.1 h2).2.1 h3).symm
theorem anti_ideals {n : Nat} {f : Nat → Nat → Bool} (ho : IsO n f) : (filtF (2 ^ n) (alnB n f)).length = (idealsF n f).length :=
  Nat.le_antisymm
    (filt_le (dnS n f) (fun a _ _ => ⟨dnS_lt n f a, dnS_ideal ho⟩) fun a b ha hb h1 h2 e => by rw [← mx_dn ho ha h1, ← mx_dn ho hb h2, e])
    (filt_le (mxS n f) (fun a _ _ => ⟨mxS_lt n f a, mx_anti⟩) fun a b ha hb h1 h2 e => by rw [← dn_mx ho ha h1, ← dn_mx ho hb h2, e])
/-- The ideals shatter just the antichains. -/
theorem shat_anti {n m : Nat} {f : Nat → Nat → Bool} (ho : IsO n f) (hm : m < 2 ^ n) : shB (idealsF n f) m = alnB n f m := by
  rw [Bool.eq_iff_iff, shB_iff, alnB_iff]
  constructor
  · intro h x y hx hy h1 h2 h3
    refine Classical.byContradiction fun hne => ?_
    obtain ⟨I, hI, e⟩ := h (2 ^ y) (Nat.eq_of_testBit_eq fun i => by
      rw [Nat.testBit_and, Nat.testBit_two_pow]
      by_cases c : y = i
      · subst c; rw [h2]; simp
      · simp [c])
    obtain ⟨q, hq, hid, rfl⟩ := filtF_mem.1 hI
    rw [Int.toNat_natCast] at e
    have hy1 : (q &&& m).testBit y = true := by rw [e, Nat.testBit_two_pow]; simp
    rw [Nat.testBit_and, Bool.and_eq_true] at hy1
    have hx1 := idlB_iff.1 hid y x hy hx hy1.1 h3
    have hx2 : (q &&& m).testBit x = true := by rw [Nat.testBit_and, hx1, h1]; rfl
    rw [e, Nat.testBit_two_pow] at hx2
    exact hne (by simpa using hx2 : y = x).symm
  · intro h s hs
    refine ⟨(dnS n f s : Nat), filtF_mem.2 ⟨_, dnS_lt n f s, dnS_ideal ho, rfl⟩, ?_⟩
    rw [Int.toNat_natCast]
    apply Nat.eq_of_testBit_eq
    intro i
    have hsub : ∀ j, s.testBit j = true → m.testBit j = true := fun j hj => by rw [← hs, Nat.testBit_and, Bool.and_eq_true] at hj; exact hj.2
    rw [Bool.eq_iff_iff, Nat.testBit_and, Bool.and_eq_true, dnS_bit]
    constructor
    · rintro ⟨⟨hi, y, hy, h1, h2⟩, h3⟩
      have := h i y hi hy h3 (hsub y h1) h2
      subst this; exact h1
    · intro hb
      have hi := bit_lt hm (hsub i hb)
      exact ⟨⟨hi, i, hi, hb, ho.refl hi⟩, hsub i hb⟩
end Go.X
