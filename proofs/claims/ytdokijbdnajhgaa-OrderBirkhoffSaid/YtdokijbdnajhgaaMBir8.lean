/-
  Of any integer and any pairs: the law OrderBirkhoff returns true (the ideals of an order are a lattice without a bad five, whose join elements count as the order does; a lattice without a bad five has as many elements as its join elements have ideals, and lies as their sets do), and nothing that was there turns.
  Conditions: none beyond the given statement's.
-/
import Derived.Test.YtdokijbdnajhgaaMBir7
import Derived.Ground.Names2Prog
import Derived.Shelf.Slices.SearchI
import Derived.Test.YtdokijbdnajhgaaProg
import Derived.Test.YtdokijbdnajhgaaRows
set_option linter.unusedSimpArgs false
set_option linter.unusedVariables false
namespace Go.Proofs.Ytdokijbdnajhgaa
open Go Go.X

theorem rbF_iff {n x y : Nat} {f : Nat → Nat → Bool} : rbF n f x y = true ↔ (x ≠ y ∧ f x y = true) ∧ ∀ z, z < n → x ≠ z → f x z = true → z ≠ y → f z y = true → False := by
  unfold rbF
  rw [Bool.and_eq_true, Bool.and_eq_true, decide_eq_true_iff, rall_iff]
  refine and_congr_right fun _ => ?_
  constructor
  · intro h z hz h1 h2 h3 h4
    have := h z hz
    rw [decide_eq_true h1, h2, decide_eq_true h3, h4] at this
    cases this
  · intro h z hz
    rw [Bool.not_eq_true', Bool.eq_false_iff]
    intro h9
    simp only [Bool.and_eq_true, decide_eq_true_iff] at h9
    exact h z hz h9.1.1 h9.1.2 h9.2.1 h9.2.2
section
variable {n : Nat} {f : Nat → Nat → Bool}
theorem jel_uniq {x c : Nat} (hc : c < n) (h : rbF n f c x = true) (hu : ∀ d, d < n → rbF n f d x = true → d = c) : jelB n f x = true := by
  unfold jelB rbN
  rw [decide_eq_true_iff]
  have e : (List.range n).countP (fun y => rbF n f y x) = (List.range n).countP fun y => decide (y = c) := List.countP_congr fun y hy => by
    rw [decide_eq_true_iff]
    exact ⟨fun h9 => hu y (List.mem_range.1 hy) h9, fun h9 => by rw [h9]; exact h⟩
  rw [e, countP_drop (P := fun y => decide (y = c)) (Q := fun _ => false) (x := c) (by simp) rfl (fun i hi => by simp [hi]) hc]
  simp
theorem jel_has {x : Nat} (h : jelB n f x = true) : ∃ c, c < n ∧ rbF n f c x = true := by
  unfold jelB rbN at h
  rw [decide_eq_true_iff] at h
  obtain ⟨c, h1, h2⟩ := List.countP_pos_iff.1 (show 0 < (List.range n).countP fun y => rbF n f y x by omega)
  exact ⟨c, List.mem_range.1 h1, h2⟩
theorem jel_only {x a b : Nat} (h : jelB n f x = true) (ha : a < n) (hb : b < n) (h1 : rbF n f a x = true) (h2 : rbF n f b x = true) : a = b := by
  unfold jelB rbN at h
  rw [decide_eq_true_iff] at h
  refine Classical.byContradiction fun hne => ?_
  have e : (List.range n).countP (fun y => rbF n f y x) = (List.range n).countP (fun y => rbF n f y x && !decide (y = a)) + 1 :=
    countP_drop (P := fun y => rbF n f y x) (Q := fun y => rbF n f y x && !decide (y = a)) (x := a) h1 (by simp) (fun i hi => by simp [hi]) ha
  have : 0 < (List.range n).countP fun y => rbF n f y x && !decide (y = a) := List.countP_pos_iff.2 ⟨b, List.mem_range.2 hb, by rw [h2]; simp [Ne.symm hne]⟩
  omega
/-- Something of a kind has nothing of it below. -/
theorem min_ex (ho : IsO n f) (P : Nat → Prop) : ∀ (c : Nat) {x : Nat}, x < n → cntD n f x ≤ c → P x → ∃ w, w < n ∧ f w x = true ∧ P w ∧ ∀ v, v < n → v ≠ w → f v w = true → ¬ P v
  | 0, x, hx, hc, _ => absurd (cntD_pos ho hx) (by omega)
  | c + 1, x, hx, hc, h => by
    by_cases e : ∃ v, v < n ∧ v ≠ x ∧ f v x = true ∧ P v
    · obtain ⟨v, h1, h2, h3, h4⟩ := e
      have := cntD_lt ho h1 hx h3 h2
      obtain ⟨w, w1, w2, w3, w4⟩ := min_ex ho P c h1 (by omega) h4
      exact ⟨w, w1, ho.trans w1 h1 hx w2 h3, w3, w4⟩
    · exact ⟨x, hx, ho.refl hx, h, fun v h1 h2 h3 h4 => e ⟨v, h1, h2, h3, h4⟩⟩
/-- What is below is at most something right below. -/
theorem cover_ex (ho : IsO n f) : ∀ (c : Nat) {v w : Nat}, v < n → w < n → n - cntD n f v ≤ c → v ≠ w → f v w = true → ∃ d, d < n ∧ f v d = true ∧ rbF n f d w = true
  | c, v, w, hv, hw, hc, hne, hf => by
    by_cases e : ∃ z, z < n ∧ v ≠ z ∧ f v z = true ∧ z ≠ w ∧ f z w = true
    · obtain ⟨z, h1, h2, h3, h4, h5⟩ := e
      have h6 := cntD_lt ho hv h1 h3 h2
      have h7 := cntD_le n f z
      match c, hc with
      | 0, hc => omega
      | c + 1, hc =>
        obtain ⟨d, d1, d2, d3⟩ := cover_ex ho c h1 hw (by omega) h4 h5
        exact ⟨d, d1, ho.trans hv h1 d1 h3 d2, d3⟩
    · exact ⟨v, hv, ho.refl hv, rbF_iff.2 ⟨⟨hne, hf⟩, fun z h1 h2 h3 h4 h5 => e ⟨z, h1, h2, h3, h4, h5⟩⟩⟩
/-- All that is below a join element is at most one element below it. -/
theorem jel_low (ho : IsO n f) {w : Nat} (hw : w < n) (h : jelB n f w = true) : ∃ c, c < n ∧ c ≠ w ∧ f c w = true ∧ ∀ v, v < n → v ≠ w → f v w = true → f v c = true := by
  obtain ⟨c, h1, h2⟩ := jel_has h
  have h3 := (rbF_iff.1 h2).1
  refine ⟨c, h1, h3.1, h3.2, fun v hv hne hf => ?_⟩
  obtain ⟨d, d1, d2, d3⟩ := cover_ex ho _ hv hw (Nat.le_refl _) hne hf
  rw [jel_only h h1 d1 h2 d3]; exact d2
variable (ho : IsO n f) (hg : noGap n f)
include ho hg
theorem mN_self {x y : Nat} (hx : x < n) (hy : y < n) (h : f x y = true) : mN n f x y = x := by
  obtain ⟨_, h1, h2, h3, h4⟩ := mN_at ho hg hx hy
  exact ho.anti h1 hx h2 (h4 x hx (ho.refl hx) h)
/-- What the join elements below say of two elements. -/
theorem birk_le {x y : Nat} (hx : x < n) (hy : y < n) (h : ∀ w, w < n → jelB n f w = true → f w x = true → f w y = true) : f x y = true := by
  refine Classical.byContradiction fun hxy => ?_
  obtain ⟨_, z1, z2, z3, z4⟩ := mN_at ho hg hx hy
  have hzx : ¬ f x (mN n f x y) = true := fun e => hxy (ho.trans hx z1 hy e z3)
  obtain ⟨w, w1, w2, w3, w4⟩ := min_ex ho (fun w => f w x = true ∧ ¬ f w (mN n f x y) = true) _ hx (Nat.le_refl _) ⟨ho.refl hx, hzx⟩
  obtain ⟨_, c1, c2, c3, c4⟩ := mN_at ho hg w1 z1
  have hcw : mN n f w (mN n f x y) ≠ w := fun e => w3.2 (by rw [e] at c3; exact c3)
  have hlow : ∀ v, v < n → v ≠ w → f v w = true → f v (mN n f w (mN n f x y)) = true := fun v hv hne hf => by
    have h1 : f v x = true := ho.trans hv w1 hx hf w2
    have h2 : f v (mN n f x y) = true := Classical.byContradiction fun h3 => w4 v hv hne hf ⟨h1, h3⟩
    exact c4 v hv hf h2
  have hj : jelB n f w = true := jel_uniq c1 (rbF_iff.2 ⟨⟨hcw, c2⟩, fun t ht h1 h2 h3 h4 => h1 (ho.anti c1 ht h2 (hlow t ht h3 h4))⟩) fun d hd h1 => by
    obtain ⟨⟨d1, d2⟩, d3⟩ := rbF_iff.1 h1
    refine Classical.byContradiction fun hne => ?_
    exact d3 _ c1 hne (hlow d hd d1 d2) hcw c2
  exact w3.2 (z4 w w1 w2 (h w w1 hj w2))
theorem jel_prime (hd : distB n f = true) {w a b : Nat} (hw : w < n) (ha : a < n) (hb : b < n) (hj : jelB n f w = true) (h : f w (jN n f a b) = true) : f w a = true ∨ f w b = true := by
  obtain ⟨c, c1, c2, c3, c4⟩ := jel_low ho hw hj
  have hjl := jN_lt ho hg ha hb
  have h1 := distB_iff.1 hd w a b hw ha hb
  rw [mN_self ho hg hw hjl h] at h1
  obtain ⟨_, p1, p2, p3, p4⟩ := mN_at ho hg hw ha
  obtain ⟨_, q1, q2, q3, q4⟩ := mN_at ho hg hw hb
  obtain ⟨_, j1, j2, j3, j4⟩ := jN_at ho hg p1 q1
  by_cases e1 : mN n f w a = w
  · exact .inl (by rw [e1] at p3; exact p3)
  by_cases e2 : mN n f w b = w
  · exact .inr (by rw [e2] at q3; exact q3)
  exfalso
  have h2 := j4 c c1 (c4 _ p1 e1 p2) (c4 _ q1 e2 q2)
  rw [← h1] at h2
  exact c2 (ho.anti c1 hw c3 h2)
/-- The join of those of a set of join elements that come first. -/
def supK (n : Nat) (f : Nat → Nat → Bool) (al : List Int) (t : Nat) : Nat → Nat
  | 0 => loN n f
  | k + 1 => if t.testBit k then jN n f (supK n f al t k) (gt al k).toNat else supK n f al t k
end
section
variable {n : Nat} {f : Nat → Nat → Bool} (ho : IsO n f) (hg : noGap n f) (hn : 1 ≤ n)
/-- How the join elements lie among themselves. -/
abbrev jelQ (n : Nat) (f : Nat → Nat → Bool) (k l : Nat) : Bool := f (gt (jelF n f) k).toNat (gt (jelF n f) l).toNat
omit ho hg hn in
theorem jel_get {k : Nat} (h : k < (jelF n f).length) : (gt (jelF n f) k).toNat < n ∧ jelB n f (gt (jelF n f) k).toNat = true := by
  obtain ⟨a, h1, h2, h3⟩ := jel_at h
  rw [h1, Int.toNat_natCast]; exact ⟨h2, h3⟩
omit ho hg hn in
theorem jel_idx {w : Nat} (hw : w < n) (hj : jelB n f w = true) : ∃ k, k < (jelF n f).length ∧ (gt (jelF n f) k).toNat = w := by
  have hm : ((w : Nat) : Int) ∈ jelF n f := filtF_mem.2 ⟨w, hw, hj, rfl⟩
  obtain ⟨k, h1, h2⟩ := mem_gt hm
  exact ⟨k, h1, by rw [h2, Int.toNat_natCast]⟩
omit ho hg hn in
theorem jel_inj {k l : Nat} (hk : k < (jelF n f).length) (hl : l < (jelF n f).length) (h : (gt (jelF n f) k).toNat = (gt (jelF n f) l).toNat) : k = l := by
  obtain ⟨a, h1, _⟩ := jel_at hk
  obtain ⟨b, h2, _⟩ := jel_at hl
  have hp : (jelF n f).Pairwise (· < ·) := filtF_asc _ _
  rw [List.pairwise_iff_getElem] at hp
  rw [gt_eq hk, gt_eq hl] at h
  rw [gt_eq hk] at h1
  rw [gt_eq hl] at h2
  rcases Nat.lt_trichotomy k l with e | e | e
  · have := hp k l hk hl e; omega
  · exact e
  · have := hp l k hl hk e; omega
include ho in
theorem jelQ_o : IsO (jelF n f).length (jelQ n f) :=
  isO_mk (fun x hx => ho.refl (jel_get hx).1) (fun x y hx hy a b => jel_inj hx hy (ho.anti (jel_get hx).1 (jel_get hy).1 a b)) fun x y z hx hy hz a b => ho.trans (jel_get hx).1 (jel_get hy).1 (jel_get hz).1 a b
/-- The set of the join elements that are at most an element. -/
abbrev phi (n : Nat) (f : Nat → Nat → Bool) (x : Nat) : Nat := birK f (jelF n f) (jelF n f).length x
omit ho hg hn in
theorem phi_bit {x k : Nat} : (phi n f x).testBit k = (decide (k < (jelF n f).length) && f (gt (jelF n f) k).toNat x) := colN_bit _ _ _
include ho hg in
theorem phi_le {x y : Nat} (hx : x < n) (hy : y < n) : incl (phi n f x) (phi n f y) = f x y := by
  rw [Bool.eq_iff_iff, incl_iff]
  constructor
  · intro h
    refine birk_le ho hg hx hy fun w hw hj hf => ?_
    obtain ⟨k, h1, h2⟩ := jel_idx hw hj
    have := h k (by rw [phi_bit, decide_eq_true h1, h2, hf]; rfl)
    rw [phi_bit, decide_eq_true h1, h2] at this
    simpa using this
  · intro h q hq
    rw [phi_bit, Bool.and_eq_true, decide_eq_true_iff] at hq ⊢
    exact ⟨hq.1, ho.trans (jel_get hq.1).1 hx hy hq.2 h⟩
include ho in
theorem phi_idl {x : Nat} (hx : x < n) : idlB (jelF n f).length (jelQ n f) (phi n f x) = true := by
  rw [idlB_iff]
  intro a b ha hb h1 h2
  rw [phi_bit, decide_eq_true ha] at h1
  rw [phi_bit, decide_eq_true hb]
  exact ho.trans (jel_get hb).1 (jel_get ha).1 hx h2 (by simpa using h1)
include ho hg hn in
theorem supK_lt (t : Nat) : ∀ k, k ≤ (jelF n f).length → supK n f (jelF n f) t k < n
  | 0, _ => (lo_at ho hg hn).2.1
  | k + 1, hk => by
    have ih := supK_lt t k (by omega)
    unfold supK
    split
    · exact jN_lt ho hg ih (jel_get (by omega)).1
    · exact ih
include ho hg hn in
theorem supK_up (t : Nat) : ∀ k, k ≤ (jelF n f).length → ∀ i, i < k → t.testBit i = true → f (gt (jelF n f) i).toNat (supK n f (jelF n f) t k) = true
  | 0, _, i, hi, _ => absurd hi (by omega)
  | k + 1, hk, i, hi, hb => by
    have hl := supK_lt ho hg hn t k (by omega)
    have hi9 := (jel_get (show i < (jelF n f).length by omega)).1
    have hk9 := (jel_get (show k < (jelF n f).length by omega)).1
    obtain ⟨_, j1, j2, j3, _⟩ := jN_at ho hg hl hk9
    unfold supK
    by_cases e : i = k
    · subst e
      rw [if_pos hb]; exact j3
    · have ih := supK_up t k (by omega) i (by omega) hb
      split
      · exact ho.trans hi9 hl j1 ih j2
      · exact ih
include ho hg hn in
theorem supK_dn (hd : distB n f = true) (t : Nat) {w : Nat} (hw : w < n) (hj : jelB n f w = true) : ∀ k, k ≤ (jelF n f).length → f w (supK n f (jelF n f) t k) = true → ∃ i, i < k ∧ t.testBit i = true ∧ f w (gt (jelF n f) i).toNat = true
  | 0, _, h => by
    obtain ⟨c, c1, c2, c3, _⟩ := jel_low ho hw hj
    have hlo := (lo_at ho hg hn).2
    have h1 := hlo.2 c c1
    exact absurd (ho.anti c1 hw c3 (ho.trans hw hlo.1 c1 h h1)) c2
  | k + 1, hk, h => by
    have hl := supK_lt ho hg hn t k (by omega)
    have hk9 := (jel_get (show k < (jelF n f).length by omega)).1
    unfold supK at h
    split at h
    · rename_i hb
      rcases jel_prime ho hg hd hw hl hk9 hj h with h1 | h1
      · obtain ⟨i, i1, i2, i3⟩ := supK_dn hd t hw hj k (by omega) h1
        exact ⟨i, by omega, i2, i3⟩
      · exact ⟨k, by omega, hb, h1⟩
    · obtain ⟨i, i1, i2, i3⟩ := supK_dn hd t hw hj k (by omega) h
      exact ⟨i, by omega, i2, i3⟩
include ho hg hn in
theorem phi_sur (hd : distB n f = true) {t : Nat} (ht : t < 2 ^ (jelF n f).length) (hi : idlB (jelF n f).length (jelQ n f) t = true) : ∃ x, x < n ∧ phi n f x = t := by
  refine ⟨supK n f (jelF n f) t (jelF n f).length, supK_lt ho hg hn t _ (Nat.le_refl _), Nat.eq_of_testBit_eq fun q => ?_⟩
  rw [phi_bit]
  by_cases hq : q < (jelF n f).length
  · rw [decide_eq_true hq, Bool.true_and, Bool.eq_iff_iff]
    constructor
    · intro h
      obtain ⟨i, h1, h2, h3⟩ := supK_dn ho hg hn hd t (jel_get hq).1 (jel_get hq).2 _ (Nat.le_refl _) h
      exact idlB_iff.1 hi i q h1 hq h2 h3
    · exact supK_up ho hg hn t _ (Nat.le_refl _) q hq
  · rw [decide_eq_false hq, Bool.false_and]
    exact (Nat.testBit_lt_two_pow (Nat.lt_of_lt_of_le ht (Nat.pow_le_pow_right (by omega) (by omega)))).symm
include ho hg in
theorem phi_inj {x y : Nat} (hx : x < n) (hy : y < n) (h : phi n f x = phi n f y) : x = y := by
  have h1 := phi_le ho hg hx hy
  have h2 := phi_le ho hg hy hx
  rw [h, incl_iff.2 (fun q hq => hq)] at h1
  rw [h, incl_iff.2 (fun q hq => hq)] at h2
  exact ho.anti hx hy h1.symm h2.symm
include ho hg hn in
/-- Birkhoff: as many ideals of the join elements as there are elements. -/
theorem birk_len (hd : distB n f = true) : (idealsF (jelF n f).length (jelQ n f)).length = n := by
  have hL : ((List.range n).map fun x => ((phi n f x : Nat) : Int)).Nodup := nodup_map List.nodup_range fun x y hx hy e => phi_inj ho hg (List.mem_range.1 hx) (List.mem_range.1 hy) (by omega)
  have hC : (idealsF (jelF n f).length (jelQ n f)).Nodup := (filtF_asc _ _).imp fun h => by omega
  have h1 := nodup_le hL (l' := idealsF (jelF n f).length (jelQ n f)) fun x hx => by
    obtain ⟨q, hq, rfl⟩ := List.mem_map.1 hx
    exact filtF_mem.2 ⟨_, colN_lt _ _, phi_idl ho (List.mem_range.1 hq), rfl⟩
  have h2 := nodup_le hC (l' := (List.range n).map fun x => ((phi n f x : Nat) : Int)) fun x hx => by
    obtain ⟨q, hq, hc, rfl⟩ := filtF_mem.1 hx
    obtain ⟨z, hz, e⟩ := phi_sur ho hg hn hd hq hc
    exact List.mem_map.2 ⟨z, List.mem_range.2 hz, by rw [e]⟩
  rw [List.length_map, List.length_range] at h1 h2
  omega
include ho hg hn in
theorem jel_none (h : (jelF n f).length = 0) : n = 1 := by
  refine Classical.byContradiction fun hne => ?_
  have h0 : ∀ x, x < n → phi n f x = 0 := fun x _ => by show birK f (jelF n f) (jelF n f).length x = 0; rw [h]; rfl
  have := phi_inj ho hg (show 0 < n by omega) (show 1 < n by omega) (by rw [h0 0 (by omega), h0 1 (by omega)])
  omega
end
end Go.Proofs.Ytdokijbdnajhgaa
namespace Go.Proofs.Ytdokijbdnajhgaa
open Go Go.X

theorem idq_and {n a b : Nat} {f : Nat → Nat → Bool} (ha : idlB n f a = true) (hb : idlB n f b = true) : idlB n f (a &&& b) = true := by
  rw [idlB_iff] at *
  intro x y hx hy h1 h2
  rw [Nat.testBit_and, Bool.and_eq_true] at h1 ⊢
  exact ⟨ha x y hx hy h1.1 h2, hb x y hx hy h1.2 h2⟩
theorem idq_or {n a b : Nat} {f : Nat → Nat → Bool} (ha : idlB n f a = true) (hb : idlB n f b = true) : idlB n f (a ||| b) = true := by
  rw [idlB_iff] at *
  intro x y hx hy h1 h2
  rw [Nat.testBit_or, Bool.or_eq_true] at h1 ⊢
  exact h1.elim (fun h => .inl (ha x y hx hy h h2)) fun h => .inr (hb x y hx hy h h2)
theorem idq_dn {n m : Nat} {f : Nat → Nat → Bool} (ho : IsO n f) (hm : m < n) : idlB n f (dnF n f m) = true := by
  rw [idlB_iff]
  intro x y hx hy h1 h2
  rw [dnF_bit, decide_eq_true hx] at h1
  rw [dnF_bit, decide_eq_true hy]
  exact ho.trans hy hx hm h2 (by simpa using h1)
/-- The ideal at a place. -/
abbrev idA (n : Nat) (f : Nat → Nat → Bool) (i : Nat) : Nat := (gt (idealsF n f) i).toNat
section
variable {n : Nat} {f g : Nat → Nat → Bool} (ho : IsO n f) (hgx : ∀ i j, i < (idealsF n f).length → j < (idealsF n f).length → g i j = incl (idA n f i) (idA n f j))
omit ho hgx in
theorem ida_get {i : Nat} (h : i < (idealsF n f).length) : idA n f i < 2 ^ n ∧ idlB n f (idA n f i) = true ∧ gt (idealsF n f) i = (idA n f i : Int) := by
  obtain ⟨a, h1, h2, h3⟩ := filtF_gt h
  have h4 : gt (idealsF n f) i = (a : Int) := h1
  unfold idA
  rw [h4, Int.toNat_natCast]; exact ⟨h2, h3, rfl⟩
omit ho hgx in
theorem ida_idx {a : Nat} (h1 : a < 2 ^ n) (h2 : idlB n f a = true) : ∃ i, i < (idealsF n f).length ∧ idA n f i = a := by
  obtain ⟨i, h3, h4⟩ := mem_gt (filtF_mem.2 ⟨a, h1, h2, rfl⟩ : (a : Int) ∈ idealsF n f)
  exact ⟨i, h3, by unfold idA; rw [show gt (idealsF n f) i = (a : Int) from h4, Int.toNat_natCast]⟩
omit ho hgx in
theorem ida_inj {i j : Nat} (hi : i < (idealsF n f).length) (hj : j < (idealsF n f).length) (h : idA n f i = idA n f j) : i = j := by
  have h1 := (ida_get hi).2.2
  have h2 := (ida_get hj).2.2
  have hp : (idealsF n f).Pairwise (· < ·) := filtF_asc _ _
  rw [List.pairwise_iff_getElem] at hp
  rw [gt_eq hi] at h1
  rw [gt_eq hj] at h2
  rcases Nat.lt_trichotomy i j with e | e | e
  · have := hp i j hi hj e; omega
  · exact e
  · have := hp j i hj hi e; omega
include hgx in
theorem idg_o : IsO (idealsF n f).length g :=
  isO_mk (fun x hx => by rw [hgx x x hx hx]; exact incl_iff.2 fun q hq => hq) (fun x y hx hy a b => ida_inj hx hy (incl_anti (by rw [← hgx x y hx hy]; exact a) (by rw [← hgx y x hy hx]; exact b)))
    fun x y z hx hy hz a b => by
      rw [hgx x y hx hy] at a
      rw [hgx y z hy hz] at b
      rw [hgx x z hx hz]
      exact incl_iff.2 fun q hq => incl_iff.1 b q (incl_iff.1 a q hq)
include hgx in
theorem idg_j {i j : Nat} (hi : i < (idealsF n f).length) (hj : j < (idealsF n f).length) : ∃ z, z < (idealsF n f).length ∧ idA n f z = idA n f i ||| idA n f j ∧ g i z = true ∧ g j z = true ∧ ∀ w, w < (idealsF n f).length → g i w = true → g j w = true → g z w = true := by
  obtain ⟨z, h1, h2⟩ := ida_idx (Nat.or_lt_two_pow (ida_get hi).1 (ida_get hj).1) (idq_or (ida_get hi).2.1 (ida_get hj).2.1)
  refine ⟨z, h1, h2, ?_, ?_, fun w hw a b => ?_⟩
  · rw [hgx i z hi h1, h2, incl_iff]; intro q hq; rw [Nat.testBit_or, hq]; rfl
  · rw [hgx j z hj h1, h2, incl_iff]; intro q hq; rw [Nat.testBit_or, hq, Bool.or_true]
  · rw [hgx i w hi hw, incl_iff] at a
    rw [hgx j w hj hw, incl_iff] at b
    rw [hgx z w h1 hw, h2, incl_iff]
    intro q hq
    rw [Nat.testBit_or, Bool.or_eq_true] at hq
    exact hq.elim (a q) (b q)
include hgx in
theorem idg_m {i j : Nat} (hi : i < (idealsF n f).length) (hj : j < (idealsF n f).length) : ∃ z, z < (idealsF n f).length ∧ idA n f z = idA n f i &&& idA n f j ∧ g z i = true ∧ g z j = true ∧ ∀ w, w < (idealsF n f).length → g w i = true → g w j = true → g w z = true := by
  obtain ⟨z, h1, h2⟩ := ida_idx (Nat.lt_of_le_of_lt Nat.and_le_left (ida_get hi).1 : idA n f i &&& idA n f j < 2 ^ n) (idq_and (ida_get hi).2.1 (ida_get hj).2.1)
  refine ⟨z, h1, h2, ?_, ?_, fun w hw a b => ?_⟩
  · rw [hgx z i h1 hi, h2, incl_iff]; intro q hq; rw [Nat.testBit_and, Bool.and_eq_true] at hq; exact hq.1
  · rw [hgx z j h1 hj, h2, incl_iff]; intro q hq; rw [Nat.testBit_and, Bool.and_eq_true] at hq; exact hq.2
  · rw [hgx w i hw hi, incl_iff] at a
    rw [hgx w j hw hj, incl_iff] at b
    rw [hgx w z hw h1, h2, incl_iff]
    intro q hq
    rw [Nat.testBit_and, a q hq, b q hq]; rfl
include hgx in
theorem idg_lat : noGap (idealsF n f).length g := ng_of (idg_o hgx) (fun i j hi hj => by
    obtain ⟨z, h1, _, h2⟩ := idg_j hgx hi hj
    exact ⟨z, h1, h2⟩) fun i j hi hj => by
    obtain ⟨z, h1, _, h2⟩ := idg_m hgx hi hj
    exact ⟨z, h1, h2⟩
include hgx in
theorem idg_jN {i j : Nat} (hi : i < (idealsF n f).length) (hj : j < (idealsF n f).length) : jN (idealsF n f).length g i j < (idealsF n f).length ∧ idA n f (jN (idealsF n f).length g i j) = idA n f i ||| idA n f j := by
  obtain ⟨z, h1, h2, h3, h4, h5⟩ := idg_j hgx hi hj
  have e : jN (idealsF n f).length g i j = z := by unfold jN; rw [join_is (idg_o hgx) h1 h3 h4 h5]; rfl
  rw [e]; exact ⟨h1, h2⟩
include hgx in
theorem idg_mN {i j : Nat} (hi : i < (idealsF n f).length) (hj : j < (idealsF n f).length) : mN (idealsF n f).length g i j < (idealsF n f).length ∧ idA n f (mN (idealsF n f).length g i j) = idA n f i &&& idA n f j := by
  obtain ⟨z, h1, h2, h3, h4, h5⟩ := idg_m hgx hi hj
  have e : mN (idealsF n f).length g i j = z := by unfold mN; rw [show meetF (idealsF n f).length g i j = (z : Int) from join_is (flip_o (idg_o hgx)) h1 h3 h4 h5]; rfl
  rw [e]; exact ⟨h1, h2⟩
include hgx in
theorem idg_dist : distB (idealsF n f).length g = true := distB_iff.2 fun x y z hx hy hz => by
  obtain ⟨a1, a2⟩ := idg_jN hgx hy hz
  obtain ⟨b1, b2⟩ := idg_mN hgx hx a1
  obtain ⟨c1, c2⟩ := idg_mN hgx hx hy
  obtain ⟨d1, d2⟩ := idg_mN hgx hx hz
  obtain ⟨e1, e2⟩ := idg_jN hgx c1 d1
  refine ida_inj b1 e1 ?_
  rw [b2, a2, e2, c2, d2]
  refine Nat.eq_of_testBit_eq fun i => ?_
  simp only [Nat.testBit_and, Nat.testBit_or]
  cases (idA n f x).testBit i <;> rfl
omit hgx ho in
theorem dn_in {m a : Nat} (hm : m < n) (ha : idlB n f a = true) (hb : a.testBit m = true) : incl (dnF n f m) a = true := incl_iff.2 fun q hq => by
  rw [dnF_bit, Bool.and_eq_true, decide_eq_true_iff] at hq
  exact idlB_iff.1 ha m q hm hq.1 hb hq.2
omit hgx in
include ho in
theorem dn_self {m : Nat} (hm : m < n) : (dnF n f m).testBit m = true := by rw [dnF_bit, decide_eq_true hm, ho.refl hm]; rfl
include ho hgx in
/-- The join elements are the ideals of one element. -/
theorem idg_jel {y : Nat} (hy : y < (idealsF n f).length) : jelB (idealsF n f).length g y = true ↔ ∃ m, m < n ∧ idA n f y = dnF n f m := by
  have hgo := idg_o hgx
  obtain ⟨y1, y2, _⟩ := ida_get hy
  constructor
  · intro hj
    obtain ⟨c, c1, c2, c3, c4⟩ := jel_low hgo hy hj
    have hne : ¬ incl (idA n f y) (idA n f c) = true := fun h => c2 (hgo.anti c1 hy c3 (by rw [hgx y c hy c1]; exact h))
    have : ∃ m, (idA n f y).testBit m = true ∧ ¬ (idA n f c).testBit m = true := Classical.byContradiction fun h => hne (incl_iff.2 fun q hq => Classical.byContradiction fun h2 => h ⟨q, hq, h2⟩)
    obtain ⟨m, m1, m2⟩ := this
    have hmn := bit_lt y1 m1
    obtain ⟨v, v1, v2⟩ := ida_idx (dnF_lt n f m) (idq_dn ho hmn)
    have hvy : g v y = true := by rw [hgx v y v1 hy, v2]; exact dn_in hmn y2 m1
    refine ⟨m, hmn, ?_⟩
    by_cases e : v = y
    · subst e; exact v2
    · exfalso
      have h1 := c4 v v1 e hvy
      rw [hgx v c v1 c1, v2] at h1
      exact m2 (incl_iff.1 h1 m (dn_self ho hmn))
  · rintro ⟨m, hm, e⟩
    have hym : (idA n f y).testBit m = true := by rw [e]; exact dn_self ho hm
    have hoff : idlB n f (andNot (idA n f y) (2 ^ m)) = true := by
      rw [idlB_iff]
      intro x z hx hz h1 h2
      rw [bit_off, Bool.and_eq_true, Bool.not_eq_true', decide_eq_false_iff_not] at h1 ⊢
      refine ⟨idlB_iff.1 y2 x z hx hz h1.1 h2, fun e2 => ?_⟩
      subst e2
      have h3 := h1.1
      rw [e, dnF_bit, decide_eq_true hx] at h3
      exact h1.2 (ho.anti hm hx h2 (by simpa using h3))
    obtain ⟨c, c1, c2⟩ := ida_idx (off_lt y1) hoff
    have hcm : (idA n f c).testBit m = false := by rw [c2, bit_off]; simp
    have hcy : c ≠ y := fun e2 => by rw [e2, hym] at hcm; cases hcm
    have hgc : g c y = true := by rw [hgx c y c1 hy, c2, incl_iff]; intro q hq; rw [bit_off, Bool.and_eq_true] at hq; exact hq.1
    have hup : ∀ v, v < (idealsF n f).length → v ≠ y → g v y = true → g v c = true := fun v hv hne hf => by
      have hvm : (idA n f v).testBit m = false := by
        rw [Bool.eq_false_iff]
        intro h9
        have h1 := dn_in hm (ida_get hv).2.1 h9
        rw [← e, ← hgx y v hy hv] at h1
        exact hne (hgo.anti hv hy hf h1)
      rw [hgx v y hv hy, incl_iff] at hf
      rw [hgx v c hv c1, c2, incl_iff]
      intro q hq
      rw [bit_off, hf q hq]
      by_cases e2 : m = q
      · subst e2; rw [hvm] at hq; cases hq
      · simp [e2]
    exact jel_uniq c1 (rbF_iff.2 ⟨⟨hcy, hgc⟩, fun t ht h1 h2 h3 h4 => h1 (hgo.anti c1 ht h2 (hup t ht h3 h4))⟩) fun d hd h1 => by
      obtain ⟨⟨d1, d2⟩, d3⟩ := rbF_iff.1 h1
      refine Classical.byContradiction fun hne => ?_
      exact d3 c c1 hne (hup d hd d1 d2) hcy hgc
/-- Whose ideal a join element is. -/
def sigF (n : Nat) (f g : Nat → Nat → Bool) (k : Nat) : Nat := (firstF n fun m => decide (idA n f (gt (jelF (idealsF n f).length g) k).toNat = dnF n f m)).toNat
include ho hgx in
theorem sig_at {k : Nat} (hk : k < (jelF (idealsF n f).length g).length) : sigF n f g k < n ∧ idA n f (gt (jelF (idealsF n f).length g) k).toNat = dnF n f (sigF n f g k) := by
  obtain ⟨h1, h2⟩ := jel_get hk
  obtain ⟨m, hm, e⟩ := (idg_jel ho hgx h1).1 h2
  unfold sigF
  rcases firstF_cases n (fun m => decide (idA n f (gt (jelF (idealsF n f).length g) k).toNat = dnF n f m)) with ⟨_, h3⟩ | ⟨z, h3, h4, h5, _⟩
  · have := h3 m hm
    rw [decide_eq_true e] at this; cases this
  · rw [h3, Int.toNat_natCast]
    exact ⟨h4, of_decide_eq_true h5⟩
include ho hgx in
theorem sig_inj {k l : Nat} (hk : k < (jelF (idealsF n f).length g).length) (hl : l < (jelF (idealsF n f).length g).length) (h : sigF n f g k = sigF n f g l) : k = l := by
  have h1 := (sig_at ho hgx hk).2
  have h2 := (sig_at ho hgx hl).2
  rw [h, ← h2] at h1
  exact jel_inj hk hl (ida_inj (jel_get hk).1 (jel_get hl).1 h1)
include ho hgx in
theorem sig_sur {m : Nat} (hm : m < n) : ∃ k, k < (jelF (idealsF n f).length g).length ∧ sigF n f g k = m := by
  obtain ⟨v, v1, v2⟩ := ida_idx (dnF_lt n f m) (idq_dn ho hm)
  obtain ⟨k, k1, k2⟩ := jel_idx v1 ((idg_jel ho hgx v1).2 ⟨m, hm, v2⟩)
  obtain ⟨s1, s2⟩ := sig_at ho hgx k1
  rw [k2, v2] at s2
  exact ⟨k, k1, (dn_inj ho hm s1 s2).symm⟩
include ho hgx in
theorem idg_len : (jelF (idealsF n f).length g).length = n := by
  have h1 := nodup_le (l := (List.range (jelF (idealsF n f).length g).length).map (sigF n f g)) (l' := List.range n) (nodup_map List.nodup_range fun x y hx hy e => sig_inj ho hgx (List.mem_range.1 hx) (List.mem_range.1 hy) e) fun x hx => by
    obtain ⟨q, hq, rfl⟩ := List.mem_map.1 hx
    exact List.mem_range.2 (sig_at ho hgx (List.mem_range.1 hq)).1
  have h2 := nodup_le (l := List.range n) (l' := (List.range (jelF (idealsF n f).length g).length).map (sigF n f g)) List.nodup_range fun x hx => by
    obtain ⟨k, k1, k2⟩ := sig_sur ho hgx (List.mem_range.1 hx)
    exact List.mem_map.2 ⟨k, List.mem_range.2 k1, k2⟩
  rw [List.length_map, List.length_range, List.length_range] at h1 h2
  omega
include ho hgx in
theorem sig_perm : PermN n (sigF n f g) :=
  ⟨fun k hk => (sig_at ho hgx (by rw [idg_len ho hgx]; exact hk)).1, fun k l hk hl h => sig_inj ho hgx (by rw [idg_len ho hgx]; exact hk) (by rw [idg_len ho hgx]; exact hl) h, fun x hx => by
    obtain ⟨k, h1, h2⟩ := sig_sur ho hgx hx
    exact ⟨k, by rw [idg_len ho hgx] at h1; exact h1, h2⟩⟩
include ho hgx in
/-- The join elements lie among themselves as the order does. -/
theorem sig_le {k l : Nat} (hk : k < n) (hl : l < n) : jelQ (idealsF n f).length g k l = f (sigF n f g k) (sigF n f g l) := by
  have hk9 : k < (jelF (idealsF n f).length g).length := by rw [idg_len ho hgx]; exact hk
  have hl9 : l < (jelF (idealsF n f).length g).length := by rw [idg_len ho hgx]; exact hl
  obtain ⟨a1, a2⟩ := sig_at ho hgx hk9
  obtain ⟨b1, b2⟩ := sig_at ho hgx hl9
  unfold jelQ
  rw [hgx _ _ (jel_get hk9).1 (jel_get hl9).1, a2, b2, dn_incl ho a1 b1]
end
end Go.Proofs.Ytdokijbdnajhgaa
namespace Go.Proofs.Ytdokijbdnajhgaa
open Go.Shelf
end Go.Proofs.Ytdokijbdnajhgaa
namespace Go.Proofs.Ytdokijbdnajhgaa
open Go Go.X Go.Sort
end Go.Proofs.Ytdokijbdnajhgaa
namespace Go.Proofs.Ytdokijbdnajhgaa
open Go Go.X

end Go.Proofs.Ytdokijbdnajhgaa
namespace Go.Proofs.Ytdokijbdnajhgaa
open Go Go.X

end Go.Proofs.Ytdokijbdnajhgaa
namespace Go.Proofs.Ytdokijbdnajhgaa
open Go Go.X

end Go.Proofs.Ytdokijbdnajhgaa
namespace Go.Proofs.Ytdokijbdnajhgaa
open Go Go.X

theorem ng_congr {m : Nat} {f g : Nat → Nat → Bool} (h : ∀ x y, x < m → y < m → f x y = g x y) (hn : noGap m f) : noGap m g := fun i j hij hj => by
  have := hn i j hij hj
  unfold gapB at *
  rw [join_congr h (by omega) hj, show meetF m f i j = meetF m g i j from join_congr (f := flipF f) (g := flipF g) (fun x y hx hy => h y x hy hx) (by omega) hj] at this
  exact this
theorem tab_lat {m : Nat} {h : Nat → Nat → Bool} (h1 : 1 ≤ m) (h2 : m ≤ 12) (ho : IsO m h) (hg : noGap m h) : chkT (tabF m h) = 0 ∧ opnC (tabF m h) = 0 := by
  have hc : chkT (tabF m h) = 0 := chkT_zero (by rw [tabF_length]; exact h1) (by rw [tabF_length]; exact h2) (isT_tabF ho)
  refine ⟨hc, opnC_of hc (ngB_iff.2 ?_)⟩
  rw [tabF_length]
  exact ng_congr (fun x y hx hy => (pb_tabF hx hy).symm) hg
theorem tab_lenB {m : Nat} {h : Nat → Nat → Bool} {r : List (List Bool)} (e : r = tabF m h) (hm : m ≤ 4096) : r.length ≤ 1000000 ∧ ∀ i, i < r.length → (gt r i).length ≤ 1000000 := by
  obtain ⟨h1, h2⟩ := tab_le e hm
  exact ⟨by omega, fun i hi => by have := h2 i hi; omega⟩

end Go.Proofs.Ytdokijbdnajhgaa
namespace Go.Proofs.Ytdokijbdnajhgaa
open Go Go.X

theorem up_congr {n x : Nat} {f g : Nat → Nat → Bool} (h : ∀ x y, x < n → y < n → f x y = g x y) (hx : x < n) : upF n f x = upF n g x := colN_congr fun y hy => h x y hx hy
theorem linK_congr {n : Nat} {f g : Nat → Nat → Bool} (h : ∀ x y, x < n → y < n → f x y = g x y) : ∀ k s, linK n f k s = linK n g k s
  | 0, _ => rfl
  | k + 1, s => by
    unfold linK
    congr 1
    refine sumI_congr fun x hx => ?_
    rw [show lastB n f s x = lastB n g s x from by unfold lastB; rw [up_congr h hx], linK_congr h k]
theorem linN_congr {n s : Nat} {f g : Nat → Nat → Bool} (h : ∀ x y, x < n → y < n → f x y = g x y) : linN n f s = linN n g s := linK_congr h _ _
theorem euA_congr {n : Nat} {f g : Nat → Nat → Bool} (h : ∀ x y, x < n → y < n → f x y = g x y) : ∀ k y, y < n → euA n f k y = euA n g k y
  | 0, _, _ => rfl
  | k + 1, y, hy => by
    unfold euA
    congr 1
    refine sumI_congr fun x hx => ?_
    rw [show blw f x y = blw g x y from by unfold blw; rw [h x y hx hy], euA_congr h k x hx]
theorem eulN_congr {n : Nat} {f g : Nat → Nat → Bool} (h : ∀ x y, x < n → y < n → f x y = g x y) : eulN n f = eulN n g := sumI_congr fun y hy => euA_congr h _ y hy
theorem idl_pos (n : Nat) (f : Nat → Nat → Bool) : 0 < (idealsF n f).length := by
  obtain ⟨i, hi, _⟩ := ida_idx (n := n) (f := f) (a := 0) (Nat.pow_pos (by omega)) (idlB_iff.2 fun x y _ _ h => by rw [Nat.zero_testBit] at h; cases h)
  omega
theorem ido_le {p : List (List Bool)} (h : chkT p = 0) (hi : idoC p = 0) : (idealsF p.length (pb p)).length ≤ 12 := by
  unfold idoC at hi
  rw [if_pos h] at hi
  split at hi
  · assumption
  · cases hi
/-- The order of ideals, as a table. -/
structure IdqP (p q : List (List Bool)) : Prop where
  len : q.length = (idealsF p.length (pb p)).length
  le : q.length ≤ 12
  sq : Sq q q.length
  chk : chkT q = 0
  opn : opnC q = 0
  lat : noGap q.length (pb q)
  ord : IsO q.length (pb q)
  dist : distB q.length (pb q) = true
  jel : (jelF q.length (pb q)).length = p.length
  rel : ∀ i j, i < (idealsF p.length (pb p)).length → j < (idealsF p.length (pb p)).length → pb q i j = incl (idA p.length (pb p) i) (idA p.length (pb p) j)
theorem idqP_of {p q : List (List Bool)} (hio : IsO p.length (pb p)) (hck : chkT p = 0) (hic : idoC p = 0) (hq : q = tabF (idealsF p.length (pb p)).length (incF (idealsF p.length (pb p)))) : IdqP p q := by
  have hN := ido_le hck hic
  have hN1 := idl_pos p.length (pb p)
  obtain ⟨h1, h2⟩ := tab_lat (m := (idealsF p.length (pb p)).length) (h := incF (idealsF p.length (pb p))) hN1 hN (idg_o (f := pb p) fun _ _ _ _ => rfl) (idg_lat (f := pb p) fun _ _ _ _ => rfl)
  rw [← hq] at h1 h2
  have hl : q.length = (idealsF p.length (pb p)).length := by rw [hq, tabF_length]
  have hgx : ∀ i j, i < (idealsF p.length (pb p)).length → j < (idealsF p.length (pb p)).length → pb q i j = incl (idA p.length (pb p) i) (idA p.length (pb p) j) := fun i j hi hj => by rw [hq, pb_tabF hi hj]; rfl
  refine ⟨hl, by omega, ?_, h1, h2, ?_, ?_, ?_, ?_, hgx⟩
  · rw [hl, hq]; exact tabF_sq _ _
  · rw [hl]; exact idg_lat hgx
  · rw [hl]; exact idg_o hgx
  · rw [hl]; exact idg_dist hgx
  · rw [hl]; exact idg_len hio hgx
/-- The join elements of the order of ideals count as the order does. -/
theorem part_alike {p q r : List (List Bool)} (hio : IsO p.length (pb p)) (h1 : 1 ≤ p.length) (h2 : p.length ≤ 12) (hI : IdqP p q) (hr : r = tabF p.length (subF (pb q) (jelF q.length (pb q)))) :
    chkT r = 0 ∧ linN r.length (pb r) (2 ^ r.length - 1) = linN p.length (pb p) (2 ^ p.length - 1) ∧ eulN r.length (pb r) = eulN p.length (pb p) := by
  have hs := sig_perm hio hI.rel
  have hrl : r.length = p.length := by rw [hr, tabF_length]
  have hre : ∀ k l, k < p.length → l < p.length → pb r k l = pb p (sigF p.length (pb p) (pb q) k) (sigF p.length (pb p) (pb q) l) := fun k l hk hl => by
    rw [hr, pb_tabF hk hl, ← sig_le hio hI.rel hk hl, ← hI.len]; rfl
  have hro : IsO p.length (pb r) := by
    have h := iso_o hs hio
    exact isO_mk (fun x hx => by rw [hre x x hx hx]; exact h.refl hx) (fun x y hx hy a b => h.anti hx hy (by rw [hre x y hx hy] at a; exact a) (by rw [hre y x hy hx] at b; exact b)) fun x y z hx hy hz a b => by
      rw [hre x y hx hy] at a
      rw [hre y z hy hz] at b
      rw [hre x z hx hz]
      exact h.trans hx hy hz a b
  refine ⟨?_, ?_, ?_⟩
  · have h3 : chkT (tabF p.length (pb r)) = 0 := by rw [chkT_tabF h1 h2, if_pos (ordB_iff.2 hro)]
    have h4 : r = tabF p.length (pb r) := by
      conv => lhs; rw [hr]
      exact tabF_congr fun x y hx hy => by rw [hr, pb_tabF hx hy]
    rw [h4]; exact h3
  · rw [hrl, linN_congr hre]; exact iso_lin_all hs hio h2
  · rw [hrl, eulN_congr hre]; exact iso_eul hs hio
theorem opn91 {p : List (List Bool)} (h : chkT p = 0) (h2 : opnC p ≠ 0) : opnC p = 91 := by
  unfold opnC at *
  rw [if_pos h] at *
  split at h2 <;> simp_all
theorem birF_at {n x : Nat} {f : Nat → Nat → Bool} (hx : x < n) : gt (birF n f) x = ((phi n f x : Nat) : Int) := by unfold birF; rw [gt_mapR hx]
theorem pb_ideals {k : Nat} {f : Nat → Nat → Bool} : idealsF (tabF k f).length (pb (tabF k f)) = idealsF k f := by
  rw [tabF_length]
  refine filtF_congr fun q hq => ?_
  rw [Bool.eq_iff_iff, idlB_iff, idlB_iff]
  exact ⟨fun h x y hx hy hb hf => h x y hx hy hb (by rw [pb_tabF hy hx]; exact hf), fun h x y hx hy hb hf => h x y hx hy hb (by rw [pb_tabF hy hx] at hf; exact hf)⟩
end Go.Proofs.Ytdokijbdnajhgaa
namespace Go.Proofs.Ytdokijbdnajhgaa
open Go Go.X

set_option maxRecDepth 10000 in
theorem orderBirkhoff_spec (h : Heap) (n : Int) (vl : Value) (ls : List (Int × Int)) (hr_vl : RdE encP h vl ls) (hp1 : ls.length ≤ 9223372036854775807) : Fx Try.prog 6 [.int .i64 n, vl] h (fun v h' => v = .bool true ∧ Ext h.size h h') := by
  refine fx_intro (n := 326) [(0, .int .i64 n), (1, vl)] Try.func6 rfl rfl (by simp) ⟨rfl, rfl, trivial⟩ fun g0 => ?_
  refine wi_seq <| wi_reg rfl <| lx_assign (.bool false) rfl rfl <| lx_nil <| wi_seq <| wi_reg rfl <| lx_move (.int .i64 n) rfl rfl <| lx_move (vl) rfl rfl <| lx_call [.int .i64 n, vl, .int .i64 5] rfl rfl Try.call15 rfl (tame_spec h n vl ls 5 hr_vl (by omega) (by omega) (by omega)) (fun _ _ _ => trivial) ?_
  rintro vp h1 ⟨_, hsp, p, rfl, ho1, hot1, htm, hx1⟩
  have ho2 := ho1.base (Nat.le_refl h.size)
  have hot2 := hot1.base (Nat.le_refl h.size)
  have hl_hot2 := hot2.1
  refine lx_assign (vp) rfl rfl <| lx_nil <| wi_seq <| wi_reg rfl <| ?_
  obtain ⟨hpt, hp0, hpm⟩ := htm
  have hpq : Sq p p.length := isT_sq hpt
  have hio := isT_o hpt
  have hck : chkT p = 0 := chkT_zero hp0 (by omega) hpt
  have hle : ∀ i, i < p.length → (gt p i).length ≤ 1000000 := fun i hi => by rw [hpq.2 i hi]; omega
  refine lx_move (vp) rfl rfl <| lx_call [vp] rfl rfl Try.call17 rfl (idealOrder_spec h1 vp hsp p ho2.rd hot2.rt (by omega) hle) (fun _ _ _ => trivial) ?_
  rintro _ h2 ⟨vq, hsq, q, rfl, ho3, hot3, hio9, hx2⟩
  have hx0_1 := hx1.trans2 hx2 hx1.size
  have ho4 := ho2.extS hx2
  have hot4 := hot2.extS hx2
  have ho5 := ho3.base hx1.size
  have hot5 := hot3.base hx1.size
  have hl_hot5 := hot5.1
  refine lx_move (.tuple #[vq, .int .i64 (idoC p)]) rfl rfl <| lx_extract (vq) rfl rfl rfl <| lx_extract (.int .i64 (idoC p)) rfl rfl rfl <| lx_assign (vq) rfl rfl <| lx_assign (.int .i64 (idoC p)) rfl rfl <| lx_nil <| wi_seq <| wi_seq <| wi_reg rfl <| lx_move (.int .i64 (idoC p)) rfl rfl <| lx_eql rfl rfl rfl <| lx_nil <| ?_
  refine wi_cutE (σ := Unit) (rngB 55 167 [4, 8, 9, 10, 11, 12, 13, 14, 15, 16, 17, 18, 19, 20, 21, 22, 23, 24, 25, 26]) (fun (_ : Unit) => []) (fun (_ : Unit) (hh : Heap) => Ext h.size h hh) (fun J1 => ?_) ?_
  · refine wi_condS (t := decide (idoC p = (0 : Int))) rfl (fun c1 => ?_) (fun c1 => ?_)
    · refine wi_seq <| wi_reg rfl <| ?_
      have hic : idoC p = 0 := by have := of_decide_eq_true ‹decide (idoC p = 0) = true›; exact this
      have hI := idqP_of hio hck hic (goodA hio9 hic)
      have hqq := hI.sq
      have hqle : ∀ i, i < q.length → (gt q i).length ≤ 1000000 := fun i hi => by rw [hqq.2 i hi]; have := hI.le; omega
      have hql := hI.le
      refine lx_move (vq) rfl rfl <| lx_call [vq] rfl rfl Try.call32 rfl (joinEls_spec h2 vq hsq q ho5.rd hot5.rt (by omega) hqle) (fun _ _ _ => trivial) ?_
      rintro _ h3 ⟨vj, xj, rfl, ho6, hje, hx3⟩
      have hx0_2 := hx0_1.trans2 hx3 hx0_1.size
      have ho7 := ho4.extS hx3
      have hot6 := hot4.extS hx3
      have ho8 := ho5.extS hx3
      have hot7 := hot5.extS hx3
      have ho9 := ho6.base hx0_1.size
      refine lx_move (.tuple #[vj, .int .i64 (opnC q)]) rfl rfl <| lx_extract (vj) rfl rfl rfl <| lx_extract (.int .i64 (opnC q)) rfl rfl rfl <| lx_assign (vj) rfl rfl <| lx_assign (.int .i64 (opnC q)) rfl rfl <| lx_nil <| wi_seq <| wi_reg rfl <| lx_move (vq) rfl rfl <| lx_call [vq] rfl rfl Try.call33 rfl (obad_spec h3 vq hsq q ho8.rd hot7.rt (by omega) hqle) (fun _ _ _ => trivial) ?_
      rintro _ h4 ⟨xo, xa, xb, xc, xi, xbb, rfl, hxb, hx4⟩
      have hx0_3 := hx0_2.trans2 hx4 hx0_2.size
      have ho10 := ho7.extS hx4
      have hot8 := hot6.extS hx4
      have ho11 := ho8.extS hx4
      have hot9 := hot7.extS hx4
      have ho12 := ho9.extS hx4
      refine lx_move (.tuple #[.agg #[.int .i64 ((xo : Nat) : Int), .int .i64 ((xa : Nat) : Int), .int .i64 ((xb : Nat) : Int), .int .i64 ((xc : Nat) : Int), .int .i64 ((xi : Nat) : Int)], .bool xbb, .int .i64 (opnC q)]) rfl rfl <| lx_extract (.agg #[.int .i64 ((xo : Nat) : Int), .int .i64 ((xa : Nat) : Int), .int .i64 ((xb : Nat) : Int), .int .i64 ((xc : Nat) : Int), .int .i64 ((xi : Nat) : Int)]) rfl rfl rfl <| lx_extract (.bool xbb) rfl rfl rfl <| lx_extract (.int .i64 (opnC q)) rfl rfl rfl <| lx_alloc rfl rfl Try.zeroValue48 (fun _ _ _ => trivial) fun bn1 h5 hbn1 hbk1 hx5 hsz1 => ?_
      have hbb1 : h.size ≤ bn1 := by have := hx0_3.size; omega
      have hdj1 : Value.ownBlock vp ≠ some bn1 := by intro e; have := (ho10.lt e).2; omega
      have hnb1 : Nbt hsp bn1 := nbt_new hot8 (by omega)
      have hdj2 : Value.ownBlock vq ≠ some bn1 := by intro e; have := (ho11.lt e).2; omega
      have hnb2 : Nbt hsq bn1 := nbt_new hot9 (by omega)
      have hdj3 : Value.ownBlock vj ≠ some bn1 := by intro e; have := (ho12.lt e).2; omega
      have hx0_4 := hx0_3.trans2 hx5 hx0_3.size
      have ho13 := ho10.extS hx5
      have hot10 := hot8.extS hx5
      have ho14 := ho11.extS hx5
      have hot11 := hot9.extS hx5
      have ho15 := ho12.extS hx5
      have hbk1 : Blk h5 bn1 #[.int .i64 0, .int .i64 0, .int .i64 0, .int .i64 0, .int .i64 0] 48 := hbk1
      refine lx_stBA (#[.int .i64 ((xo : Nat) : Int), .int .i64 ((xa : Nat) : Int), .int .i64 ((xb : Nat) : Int), .int .i64 ((xc : Nat) : Int), .int .i64 ((xi : Nat) : Int)]) rfl rfl Try.sizeOf48 hbk1 rfl rfl rfl rfl (by simp [Value.oneCell']) (fun _ _ _ _ => trivial) fun h6 hbk2 hc1 => ?_
      have hx0_5 := hx0_4.trans (hc1.ext hbb1)
      have ho16 := hc1.owE ho13 hdj1
      have hot12 := hot10.chgB hc1 hnb1
      have ho17 := hc1.owE ho14 hdj2
      have hot13 := hot11.chgB hc1 hnb2
      have ho18 := hc1.owE ho15 hdj3
      refine lx_assign (.bool xbb) rfl rfl <| lx_assign (.int .i64 (opnC q)) rfl rfl <| lx_nil <| wi_seq <| wi_reg rfl <| lx_move (vq) rfl rfl <| lx_call [vq] rfl rfl Try.call34 rfl (obirk_spec h6 vq hsq q ho17.rd hot13.rt (by omega) hqle) (fun _ _ _ => trivial) ?_
      rintro _ h7 ⟨vbi, xbi, rfl, ho19, hbi, hx6⟩
      have hx0_6 := hx0_5.trans2 hx6 hx0_5.size
      have ho20 := ho16.extS hx6
      have hot14 := hot12.extS hx6
      have ho21 := ho17.extS hx6
      have hot15 := hot13.extS hx6
      have ho22 := ho18.extS hx6
      have hb1 := hbk2.extS hx6
      have ho23 := ho19.base hx0_5.size
      refine lx_move (.tuple #[vbi, .int .i64 (birC q)]) rfl rfl <| lx_extract (vbi) rfl rfl rfl <| lx_extract (.int .i64 (birC q)) rfl rfl rfl <| lx_assign (vbi) rfl rfl <| lx_assign (.int .i64 (birC q)) rfl rfl <| lx_nil <| wi_seq <| wi_seq <| wi_reg rfl <| ?_
      have hqo := hI.opn
      have hxj : xj = jelF q.length (pb q) := by rw [hje, if_pos hqo]
      have hxl : xj.length = p.length := by rw [hxj]; exact hI.jel
      have hxr := hxb.elim (fun h => absurd hqo h.1) fun h => h.2
      have hxd := badR_dist hI.ord hI.lat hxr
      rw [hI.dist] at hxd
      have hbc : birC q = 0 := birC_of hqo (bb := false) (by rw [hI.dist]; rfl)
      have hxf : xbb = false := hxd
      subst hxf
      have hzg : ∀ i, i < xj.length → ∃ a : Nat, gt xj i = (a : Int) ∧ a < q.length := fun i hi => by
        rw [hxj] at hi ⊢
        obtain ⟨a, h1, h2, _⟩ := jel_at hi
        exact ⟨a, h1, h2⟩
      refine lx_move (.int .i64 (opnC q)) rfl rfl <| lx_neqF rfl rfl rfl (fun h9 => h9 hqo) <| lx_move (.bool false) rfl rfl <| lx_move (.int .i64 (opnC q)) rfl rfl <| lx_neqF rfl rfl rfl (fun h9 => h9 hqo) <| lx_pick false (.bool false) rfl rfl rfl <| lx_move (.bool false) rfl rfl <| lx_move (.int .i64 (birC q)) rfl rfl <| lx_neqF rfl rfl rfl (fun h9 => h9 hbc) <| lx_pick false (.bool false) rfl rfl rfl <| lx_move (.bool false) rfl rfl <| lx_move (.bool false) rfl rfl <| lx_pick false (.bool false) rfl rfl rfl <| lx_move (.bool false) rfl rfl <| lx_move (vj) rfl rfl <| lx_len rfl Try.underlying25 ho22.rd rfl <| lx_move (vp) rfl rfl <| lx_len rfl Try.underlying23 ho20.rd rfl <| lx_neqF rfl rfl rfl (by omega) <| lx_pick false (.bool false) rfl rfl rfl <| lx_nil <| wi_false rfl <| wi_skip <| wi_seq <| wi_reg rfl <| lx_assign (.slice none 0 0) rfl rfl <| lx_nil <| wi_seq <| wi_seq <| wi_reg rfl <| lx_assign (.int .i64 0) rfl rfl <| lx_nil <| wi_block <| ?_
      refine wi_loop (σ := Nat × Value × (List Hdr) × (List (List Bool))) (rngB 91 123 [15, 16, 17, 18]) (fun (ss : Nat × Value × (List Hdr) × (List (List Bool))) => [(16, .int .i64 ((ss.1 : Nat) : Int)), (15, ss.2.1)]) (fun (ss : Nat × Value × (List Hdr) × (List (List Bool))) (hh : Heap) => OwE encHd hh h.size 70 vp hsp ∧ OT encB hh h.size 4 hsp p ∧ OwE encHd hh h.size 70 vq hsq ∧ OT encB hh h.size 4 hsq q ∧ OwE encI hh h.size 3 vj xj ∧ OwE encHd hh h.size 70 ss.2.1 ss.2.2.1 ∧ OT encB hh h.size 4 ss.2.2.1 ss.2.2.2 ∧ Dj vp ss.2.1 ∧ Dj vq ss.2.1 ∧ Ext h.size h hh ∧ (ss.1 ≤ xj.length) ∧ (ss.2.2.2 = (List.range ss.1).map fun q9 => rowF xj.length (subF (pb q) xj q9))) (fun (ss : Nat × Value × (List Hdr) × (List (List Bool))) => xj.length - ss.1) (0, .slice none 0 0, [], []) ⟨rfl, rfl, trivial⟩ ⟨?_, ?_, ?_, ?_, ?_, ?_, ?_, (dj_nil_r _), (dj_nil_r _), hx0_6, ?_, ?_⟩ ?_
      · first | exact ho20 | (simpa using ho20)
      · first | exact hot14 | (simpa using hot14)
      · first | exact ho21 | (simpa using ho21)
      · first | exact hot15 | (simpa using hot15)
      · first | exact ho22 | (simpa using ho22)
      · first | exact (owE_nil encHd _ h.size 70) | (simpa using (owE_nil encHd _ h.size 70))
      · first | exact (OT.nil encB _ h.size 4) | (simpa using (OT.nil encB _ h.size 4))
      · try dsimp only
        omega
      · try dsimp only
        first | done | rfl
      rintro g1 ⟨i, vt, ht, rows⟩ hh1 ⟨ho24, hot16, ho25, hot17, ho26, ho27, hot18, hdj4, hdj5, hx0_7, hi, hrw⟩ IH1
      dsimp only at *
      have hrl : rows.length = i := by rw [hrw]; simp
      have hl_hot16 := hot16.1
      have hl_hot17 := hot17.1
      have hl_hot18 := hot18.1
      refine wi_seq <| wi_seq <| wi_reg rfl <| lx_move (.int .i64 ((i : Nat) : Int)) rfl rfl <| lx_move (vj) rfl rfl <| lx_len rfl Try.underlying25 ho26.rd rfl <| lx_lssS rfl rfl rfl (fun c2 => ?_) (fun c2 => ?_)
      · refine lx_nil <| wi_true rfl <| wi_skip <| wi_seq <| wi_block <| wi_seq <| wi_reg rfl <| lx_assign (.slice none 0 0) rfl rfl <| lx_nil <| wi_seq <| wi_seq <| wi_reg rfl <| lx_assign (.int .i64 0) rfl rfl <| lx_nil <| wi_block <| ?_
        refine wi_loop (σ := Nat × Value × (List Bool)) (rngB 97 119 [17, 18]) (fun (ss : Nat × Value × (List Bool)) => [(18, .int .i64 ((ss.1 : Nat) : Int)), (17, ss.2.1)]) (fun (ss : Nat × Value × (List Bool)) (hh : Heap) => OwE encHd hh h.size 70 vp hsp ∧ OT encB hh h.size 4 hsp p ∧ OwE encHd hh h.size 70 vq hsq ∧ OT encB hh h.size 4 hsq q ∧ OwE encI hh h.size 3 vj xj ∧ OwE encHd hh h.size 70 vt ht ∧ OT encB hh h.size 4 ht rows ∧ Dj vp vt ∧ Dj vq vt ∧ OwE encB hh h.size 4 ss.2.1 ss.2.2 ∧ Djt hsp ss.2.1 ∧ Djt hsq ss.2.1 ∧ Djt ht ss.2.1 ∧ Ext h.size h hh ∧ (ss.1 ≤ xj.length) ∧ (ss.2.2 = (List.range ss.1).map (subF (pb q) xj i))) (fun (ss : Nat × Value × (List Bool)) => xj.length - ss.1) (0, .slice none 0 0, []) ⟨rfl, rfl, trivial⟩ ⟨?_, ?_, ?_, ?_, ?_, ?_, ?_, hdj4, hdj5, ?_, (djt_nil _), (djt_nil _), (djt_nil _), hx0_7, ?_, ?_⟩ ?_
        · first | exact ho24 | (simpa using ho24)
        · first | exact hot16 | (simpa using hot16)
        · first | exact ho25 | (simpa using ho25)
        · first | exact hot17 | (simpa using hot17)
        · first | exact ho26 | (simpa using ho26)
        · first | exact ho27 | (simpa using ho27)
        · first | exact hot18 | (simpa using hot18)
        · first | exact (owE_nil encB _ h.size 4) | (simpa using (owE_nil encB _ h.size 4))
        · try dsimp only
          omega
        · try dsimp only
          first | done | rfl
        rintro g2 ⟨j, w, l⟩ hh2 ⟨ho28, hot19, ho29, hot20, ho30, ho31, hot21, hdj6, hdj7, ho32, hdt1, hdt2, hdt3, hx0_8, hj, hl⟩ IH2
        dsimp only at *
        have hll : l.length = j := by rw [hl]; simp
        have hl_hot19 := hot19.1
        have hl_hot20 := hot20.1
        have hl_hot21 := hot21.1
        refine wi_seq <| wi_seq <| wi_reg rfl <| lx_move (.int .i64 ((j : Nat) : Int)) rfl rfl <| lx_move (vj) rfl rfl <| lx_len rfl Try.underlying25 ho30.rd rfl <| lx_lssS rfl rfl rfl (fun c3 => ?_) (fun c3 => ?_)
        · refine lx_nil <| wi_true rfl <| wi_skip <| wi_seq <| wi_block <| wi_draw mo rfl (by decide +kernel) <| ?_
          obtain ⟨a, hga, ha4⟩ := hzg i (by omega)
          obtain ⟨b, hgb, hb4⟩ := hzg j (by omega)
          refine lx_move (w) rfl rfl <| lx_move (vq) rfl rfl <| lx_move (vj) rfl rfl <| lx_move (.int .i64 ((i : Nat) : Int)) rfl rfl <| lx_ix (i := i) rfl eT25 ho30.rd rfl rfl (by omega) <| lx_ld (i := i) (j := 0) (.int .i64 ((a : Nat) : Int)) rfl rfl fl3 ho30.rd (by omega) (by show some (Value.int .i64 (gt xj i)) = _; rw [hga]) rfl <| lx_ix (i := a) rfl eT29 ho29.rd rfl rfl (by omega) <| lx_ld (i := a) (j := 0) ((gt hsq a).v) rfl rfl fl70 ho29.rd (by omega) rfl rfl <| lx_move (vj) rfl rfl <| lx_move (.int .i64 ((j : Nat) : Int)) rfl rfl <| lx_ix (i := j) rfl eT25 ho30.rd rfl rfl (by omega) <| lx_ld (i := j) (j := 0) (.int .i64 ((b : Nat) : Int)) rfl rfl fl3 ho30.rd (by omega) (by show some (Value.int .i64 (gt xj j)) = _; rw [hgb]) rfl <| lx_ix (i := b) rfl eT70 (hot20.2.1 a (by omega)).rd rfl rfl (by rw [hqq.2 a (by omega)]; omega) <| lx_ld (i := b) (j := 0) (.bool (gt (gt q a) b)) rfl rfl fl4 (hot20.2.1 a (by omega)).rd (by rw [hqq.2 a (by omega)]; omega) rfl rfl <| lx_appendL (E := encB) (B := h.size) [gt (gt q a) b] [.bool (gt (gt q a) b)] rfl rfl (fun _ => rfl) rfl eT70 rfl rfl rfl rfl ho32 (fun _ => rfl) (by show l.length + 1 ≤ _; omega) (by show (l.length + 1) * 1 ≤ _; omega) hx0_8.size (fun _ _ => trivial) fun u1 v1 h8 ho33 hc2 hg1 => ?_
          have hx0_9 := hx0_8.trans (ho32.ext hc2 hx0_8.size)
          have ho34 := ho28.chg hc2 (dj_ty ho28 ho32 (by decide))
          have ho35 := ho29.chg hc2 (dj_ty ho29 ho32 (by decide))
          have ho36 := ho30.chg hc2 (dj_ty ho30 ho32 (by decide))
          have ho37 := ho31.chg hc2 (dj_ty ho31 ho32 (by decide))
          have hot22 := hot19.chg hc2 hdt1
          have hot23 := hot20.chg hc2 hdt2
          have hot24 := hot21.chg hc2 hdt3
          refine lx_assign (v1) rfl rfl <| lx_nil <| wi_inBlock <| wi_reg rfl <| lx_move (.int .i64 ((j : Nat) : Int)) rfl rfl <| lx_add (((j + 1 : Nat) : Int)) rfl rfl rfl (by omega) (by omega) (by omega) <| lx_assign (.int .i64 ((j + 1 : Nat) : Int)) rfl rfl <| lx_nil <| ?_
          -- L2.1
          refine IH2 _ _ (j + 1, v1, l ++ [gt (gt q a) b]) (agree_ups rfl agree_self) ⟨rfl, rfl, trivial⟩ ⟨?_, ?_, ?_, ?_, ?_, ?_, ?_, hdj6, hdj7, ?_, (djt_app hdt1 hot19 hg1), (djt_app hdt2 hot20 hg1), (djt_app hdt3 hot21 hg1), hx0_9, ?_, ?_⟩ ?_
          · first | exact ho34 | (simpa using ho34)
          · first | exact hot22 | (simpa using hot22)
          · first | exact ho35 | (simpa using ho35)
          · first | exact hot23 | (simpa using hot23)
          · first | exact ho36 | (simpa using ho36)
          · first | exact ho37 | (simpa using ho37)
          · first | exact hot24 | (simpa using hot24)
          · first | exact ho33 | (simpa using ho33)
          · try dsimp only
            omega
          · try dsimp only
            rw [hl, List.range_succ, List.map_append]
            congr 1
            show [_] = [subF (pb q) xj i j]
            unfold subF; rw [hga, hgb]; rfl
          · first | omega | (dsimp only; omega)
        · have hot25 : OT encB hh2 h.size 4 (ht ++ [hdrOf w]) (rows ++ [l]) := OT.snoc hot21 ho32 hdt3
          refine lx_nil <| wi_false rfl <| wi_exit rfl <| wi_reg rfl <| lx_move (vt) rfl rfl <| lx_move (w) rfl rfl <| lx_appendL (E := encHd) (B := h.size) [hdrOf w] [w] rfl rfl (fun _ => rfl) rfl eT29 rfl rfl (hdr_cells1 ho32.rd) rfl ho31 (fun _ => rfl) (by show ht.length + 1 ≤ _; omega) (by show (ht.length + 1) * 24 ≤ _; omega) hx0_8.size (fun _ _ => trivial) fun u2 v2 h9 ho38 hc3 hg2 => ?_
          have hx0_10 := hx0_8.trans (ho31.ext hc3 hx0_8.size)
          have ho39 := ho28.chg hc3 hdj6
          have ho40 := ho29.chg hc3 hdj7
          have ho41 := ho30.chg hc3 (dj_ty ho30 ho31 (by decide))
          have hot26 := hot19.chg hc3 (djt_ty hot19 ho31 (by decide))
          have hot27 := hot20.chg hc3 (djt_ty hot20 ho31 (by decide))
          have hot28 : OT encB h9 h.size 4 (ht ++ [hdrOf w]) (rows ++ [l]) := hot25.chg hc3 (djt_ty hot25 ho31 (by decide))
          have hl_hot28 := hot28.1
          refine lx_assign (v2) rfl rfl <| lx_nil <| wi_inBlock <| wi_reg rfl <| lx_move (.int .i64 ((i : Nat) : Int)) rfl rfl <| lx_add (((i + 1 : Nat) : Int)) rfl rfl rfl (by omega) (by omega) (by omega) <| lx_assign (.int .i64 ((i + 1 : Nat) : Int)) rfl rfl <| lx_nil <| ?_
          -- L0.1
          refine IH1 _ _ (i + 1, v2, ht ++ [hdrOf w], rows ++ [l]) (agree_ups rfl (agree_mix (rngB_sub (by decide) (by decide) rfl) (agree_ups rfl agree_self))) ⟨rfl, rfl, trivial⟩ ⟨?_, ?_, ?_, ?_, ?_, ?_, ?_, (dj_app hdj6 ho28 hg2), (dj_app hdj7 ho29 hg2), hx0_10, ?_, ?_⟩ ?_
          · first | exact ho39 | (simpa using ho39)
          · first | exact hot26 | (simpa using hot26)
          · first | exact ho40 | (simpa using ho40)
          · first | exact hot27 | (simpa using hot27)
          · first | exact ho41 | (simpa using ho41)
          · first | exact ho38 | (simpa using ho38)
          · first | exact hot28 | (simpa using hot28)
          · try dsimp only
            omega
          · try dsimp only
            rw [hrw, List.range_succ, List.map_append, hl, show j = xj.length from by omega]; rfl
          · first | omega | (dsimp only; omega)
      · refine lx_nil <| wi_false rfl <| wi_exit rfl <| wi_seq <| wi_reg rfl <| ?_
        have hpart : rows = tabF p.length (subF (pb q) (jelF q.length (pb q))) := by rw [hrw, show i = xj.length from by omega, hxl, hxj]; rfl
        have hple := tab_lenB hpart (by omega)
        obtain ⟨hpc, hplin, hpeul⟩ := part_alike hio hp0 (by omega) hI hpart
        refine lx_move (vp) rfl rfl <| lx_call [vp] rfl rfl Try.call45 rfl (olinear_spec hh1 vp hsp p ho24.rd hot16.rt (by omega) hle) (fun _ _ _ => trivial) ?_
        rintro _ h10 ⟨rfl, hx7⟩
        have hx0_11 := hx0_7.trans2 hx7 hx0_7.size
        have ho42 := ho24.extS hx7
        have hot29 := hot16.extS hx7
        have ho43 := ho25.extS hx7
        have hot30 := hot17.extS hx7
        have ho44 := ho26.extS hx7
        have ho45 := ho27.extS hx7
        have hot31 := hot18.extS hx7
        refine lx_move (.tuple #[.int .i64 ((if chkT p = 0 then linN p.length (pb p) (2 ^ p.length - 1) else 0)), .int .i64 (chkT p)]) rfl rfl <| lx_extract (.int .i64 ((if chkT p = 0 then linN p.length (pb p) (2 ^ p.length - 1) else 0))) rfl rfl rfl <| lx_extract (.int .i64 (chkT p)) rfl rfl rfl <| lx_assign (.int .i64 ((if chkT p = 0 then linN p.length (pb p) (2 ^ p.length - 1) else 0))) rfl rfl <| lx_assign (.int .i64 (chkT p)) rfl rfl <| lx_nil <| wi_seq <| wi_reg rfl <| lx_move (vt) rfl rfl <| lx_call [vt] rfl rfl Try.call45 rfl (olinear_spec h10 vt ht rows ho45.rd hot31.rt hple.1 hple.2) (fun _ _ _ => trivial) ?_
        rintro _ h11 ⟨rfl, hx8⟩
        have hx0_12 := hx0_11.trans2 hx8 hx0_11.size
        have ho46 := ho42.extS hx8
        have hot32 := hot29.extS hx8
        have ho47 := ho43.extS hx8
        have hot33 := hot30.extS hx8
        have ho48 := ho44.extS hx8
        have ho49 := ho45.extS hx8
        have hot34 := hot31.extS hx8
        refine lx_move (.tuple #[.int .i64 ((if chkT rows = 0 then linN rows.length (pb rows) (2 ^ rows.length - 1) else 0)), .int .i64 (chkT rows)]) rfl rfl <| lx_extract (.int .i64 ((if chkT rows = 0 then linN rows.length (pb rows) (2 ^ rows.length - 1) else 0))) rfl rfl rfl <| lx_extract (.int .i64 (chkT rows)) rfl rfl rfl <| lx_assign (.int .i64 ((if chkT rows = 0 then linN rows.length (pb rows) (2 ^ rows.length - 1) else 0))) rfl rfl <| lx_assign (.int .i64 (chkT rows)) rfl rfl <| lx_nil <| wi_seq <| wi_reg rfl <| lx_move (vp) rfl rfl <| lx_call [vp] rfl rfl Try.call46 rfl (oeul_spec h11 vp hsp p ho46.rd hot32.rt (by omega) hle) (fun _ _ _ => trivial) ?_
        rintro _ h12 ⟨rfl, hx9⟩
        have hx0_13 := hx0_12.trans2 hx9 hx0_12.size
        have ho50 := ho46.extS hx9
        have hot35 := hot32.extS hx9
        have ho51 := ho47.extS hx9
        have hot36 := hot33.extS hx9
        have ho52 := ho48.extS hx9
        have ho53 := ho49.extS hx9
        have hot37 := hot34.extS hx9
        refine lx_move (.tuple #[.int .i64 (eulC p), .int .i64 (chkT p)]) rfl rfl <| lx_extract (.int .i64 (eulC p)) rfl rfl rfl <| lx_extract (.int .i64 (chkT p)) rfl rfl rfl <| lx_assign (.int .i64 (eulC p)) rfl rfl <| lx_assign (.int .i64 (chkT p)) rfl rfl <| lx_nil <| wi_seq <| wi_reg rfl <| lx_move (vt) rfl rfl <| lx_call [vt] rfl rfl Try.call46 rfl (oeul_spec h12 vt ht rows ho53.rd hot37.rt hple.1 hple.2) (fun _ _ _ => trivial) ?_
        rintro _ h13 ⟨rfl, hx10⟩
        have hx0_14 := hx0_13.trans2 hx10 hx0_13.size
        have ho54 := ho50.extS hx10
        have hot38 := hot35.extS hx10
        have ho55 := ho51.extS hx10
        have hot39 := hot36.extS hx10
        have ho56 := ho52.extS hx10
        have ho57 := ho53.extS hx10
        have hot40 := hot37.extS hx10
        refine lx_move (.tuple #[.int .i64 (eulC rows), .int .i64 (chkT rows)]) rfl rfl <| lx_extract (.int .i64 (eulC rows)) rfl rfl rfl <| lx_extract (.int .i64 (chkT rows)) rfl rfl rfl <| lx_assign (.int .i64 (eulC rows)) rfl rfl <| lx_assign (.int .i64 (chkT rows)) rfl rfl <| lx_nil <| wi_seq <| wi_reg rfl <| ?_
        have hlin9 : (if chkT p = 0 then linN p.length (pb p) (2 ^ p.length - 1) else 0) = (if chkT rows = 0 then linN rows.length (pb rows) (2 ^ rows.length - 1) else 0) := by rw [if_pos hck, if_pos hpc, hplin]
        have heul9 : eulC p = eulC rows := by unfold eulC; rw [if_pos hck, if_pos hpc, hpeul]
        refine lx_move (.int .i64 (chkT p)) rfl rfl <| lx_neqF rfl rfl rfl (fun h9 => h9 hck) <| lx_move (.bool false) rfl rfl <| lx_move (.int .i64 (chkT rows)) rfl rfl <| lx_neqF rfl rfl rfl (fun h9 => h9 hpc) <| lx_pick false (.bool false) rfl rfl rfl <| lx_move (.bool false) rfl rfl <| lx_move (.int .i64 (chkT p)) rfl rfl <| lx_neqF rfl rfl rfl (fun h9 => h9 hck) <| lx_pick false (.bool false) rfl rfl rfl <| lx_move (.bool false) rfl rfl <| lx_move (.int .i64 (chkT rows)) rfl rfl <| lx_neqF rfl rfl rfl (fun h9 => h9 hpc) <| lx_pick false (.bool false) rfl rfl rfl <| lx_move (.bool false) rfl rfl <| lx_move (.int .i64 ((if chkT p = 0 then linN p.length (pb p) (2 ^ p.length - 1) else 0))) rfl rfl <| lx_move (.int .i64 ((if chkT rows = 0 then linN rows.length (pb rows) (2 ^ rows.length - 1) else 0))) rfl rfl <| lx_neqF rfl rfl rfl (fun h9 => h9 hlin9) <| lx_pick false (.bool false) rfl rfl rfl <| lx_move (.bool false) rfl rfl <| lx_move (.int .i64 (eulC p)) rfl rfl <| lx_move (.int .i64 (eulC rows)) rfl rfl <| lx_neqF rfl rfl rfl (fun h9 => h9 heul9) <| lx_pick false (.bool false) rfl rfl rfl <| lx_nil <| wi_false rfl <| wi_skip <| ?_
        -- Jt54.1
        refine J1 _ _ () (agree_ups rfl (agree_mix (rngB_sub (by decide) (by decide) rfl) (agree_ups rfl agree_upsJ))) trivial hx0_14
    · refine wi_skip <| ?_
      -- Jt54.2
      refine J1 _ _ () (agree_ups rfl agree_upsJ) trivial hx0_1
  rintro g3 _ hh3 hx0_15
  refine wi_seq <| wi_reg rfl <| lx_move (.int .i64 n) rfl rfl <| lx_move (vl) rfl rfl <| lx_call [.int .i64 n, vl, .int .i64 12] rfl rfl Try.call15 rfl (tame_spec hh3 n vl ls 12 (hr_vl.extS hx0_15) (by omega) (by omega) (by omega)) (fun _ _ _ => trivial) ?_
  rintro vg h14 ⟨_, hsg, bg, rfl, ho58, hot41, htb, hx11⟩
  have hx0_16 := hx0_15.trans2 hx11 hx0_15.size
  have ho59 := ho58.base hx0_15.size
  have hot42 := hot41.base hx0_15.size
  have hl_hot42 := hot42.1
  refine lx_assign (vg) rfl rfl <| lx_nil <| wi_seq <| wi_reg rfl <| ?_
  obtain ⟨hgt, hg0, hgm⟩ := htb
  have hgq : Sq bg bg.length := isT_sq hgt
  have hgi := isT_o hgt
  have hgc : chkT bg = 0 := chkT_zero hg0 (by omega) hgt
  have hgle : ∀ i, i < bg.length → (gt bg i).length ≤ 1000000 := fun i hi => by rw [hgq.2 i hi]; omega
  refine lx_move (vg) rfl rfl <| lx_call [vg] rfl rfl Try.call33 rfl (obad_spec h14 vg hsg bg ho59.rd hot42.rt (by omega) hgle) (fun _ _ _ => trivial) ?_
  rintro _ h15 ⟨yo, ya, yb, yc, yi, ybb, rfl, hyb, hx12⟩
  have hx0_17 := hx0_16.trans2 hx12 hx0_16.size
  have ho60 := ho59.extS hx12
  have hot43 := hot42.extS hx12
  refine lx_move (.tuple #[.agg #[.int .i64 ((yo : Nat) : Int), .int .i64 ((ya : Nat) : Int), .int .i64 ((yb : Nat) : Int), .int .i64 ((yc : Nat) : Int), .int .i64 ((yi : Nat) : Int)], .bool ybb, .int .i64 (opnC bg)]) rfl rfl <| lx_extract (.agg #[.int .i64 ((yo : Nat) : Int), .int .i64 ((ya : Nat) : Int), .int .i64 ((yb : Nat) : Int), .int .i64 ((yc : Nat) : Int), .int .i64 ((yi : Nat) : Int)]) rfl rfl rfl <| lx_extract (.bool ybb) rfl rfl rfl <| lx_extract (.int .i64 (opnC bg)) rfl rfl rfl <| lx_alloc rfl rfl Try.zeroValue48 (fun _ _ _ => trivial) fun bn2 h16 hbn2 hbk3 hx13 hsz2 => ?_
  have hbb2 : h.size ≤ bn2 := by have := hx0_17.size; omega
  have hdj8 : Value.ownBlock vg ≠ some bn2 := by intro e; have := (ho60.lt e).2; omega
  have hnb3 : Nbt hsg bn2 := nbt_new hot43 (by omega)
  have hx0_18 := hx0_17.trans2 hx13 hx0_17.size
  have ho61 := ho60.extS hx13
  have hot44 := hot43.extS hx13
  have hbk3 : Blk h16 bn2 #[.int .i64 0, .int .i64 0, .int .i64 0, .int .i64 0, .int .i64 0] 48 := hbk3
  refine lx_stBA (#[.int .i64 ((yo : Nat) : Int), .int .i64 ((ya : Nat) : Int), .int .i64 ((yb : Nat) : Int), .int .i64 ((yc : Nat) : Int), .int .i64 ((yi : Nat) : Int)]) rfl rfl Try.sizeOf48 hbk3 rfl rfl rfl rfl (by simp [Value.oneCell']) (fun _ _ _ _ => trivial) fun h17 hbk4 hc4 => ?_
  have hx0_19 := hx0_18.trans (hc4.ext hbb2)
  have ho62 := hc4.owE ho61 hdj8
  have hot45 := hot44.chgB hc4 hnb3
  refine lx_assign (.bool ybb) rfl rfl <| lx_assign (.int .i64 (opnC bg)) rfl rfl <| lx_nil <| wi_seq <| wi_reg rfl <| lx_move (vg) rfl rfl <| lx_call [vg] rfl rfl Try.call34 rfl (obirk_spec h17 vg hsg bg ho62.rd hot45.rt (by omega) hgle) (fun _ _ _ => trivial) ?_
  rintro _ h18 ⟨vs, xs, rfl, ho63, hbs, hx14⟩
  have hx0_20 := hx0_19.trans2 hx14 hx0_19.size
  have ho64 := ho62.extS hx14
  have hot46 := hot45.extS hx14
  have hb2 := hbk4.extS hx14
  have ho65 := ho63.base hx0_19.size
  refine lx_move (.tuple #[vs, .int .i64 (birC bg)]) rfl rfl <| lx_extract (vs) rfl rfl rfl <| lx_extract (.int .i64 (birC bg)) rfl rfl rfl <| lx_assign (vs) rfl rfl <| lx_assign (.int .i64 (birC bg)) rfl rfl <| lx_nil <| wi_seq <| wi_seq <| wi_reg rfl <| lx_move (.int .i64 (opnC bg)) rfl rfl <| lx_neqS rfl rfl rfl (fun c4 => ?_) (fun c4 => ?_)
  · refine lx_nil <| wi_true rfl <| wi_seq <| wi_reg rfl <| ?_
    have hop91 := opn91 hgc (by assumption)
    have hbc91 : birC bg = 91 := by rw [show birC bg = opnC bg from if_neg (by omega)]; exact hop91
    refine lx_move (.int .i64 (opnC bg)) rfl rfl <| lx_eqlT rfl rfl rfl hop91 <| lx_move (.bool true) rfl rfl <| lx_move (.int .i64 (birC bg)) rfl rfl <| lx_eqlT rfl rfl rfl hbc91 <| lx_pick true (.bool true) rfl rfl rfl <| lx_move (.bool true) rfl rfl <| lx_call [] rfl rfl Try.call20 rfl (awake_spec h18 ) (fun _ _ _ => trivial) ?_
    rintro _ h19 ⟨rfl, hx15⟩
    have hx0_21 := hx0_20.trans2 hx15 hx0_20.size
    have ho66 := ho64.extS hx15
    have hot47 := hot46.extS hx15
    have ho67 := ho65.extS hx15
    have hb3 := hb2.extS hx15
    refine lx_pick true (.bool true) rfl rfl rfl <| lx_assign (.bool true) rfl rfl <| lx_nil <| ?_
    -- R1
    refine wi_ret ⟨.bool true, (res_one rfl rfl), ⟨rfl, hx0_21⟩⟩
  · refine lx_nil <| wi_false rfl <| wi_skip <| wi_seq <| wi_seq <| wi_reg rfl <| ?_
    have hgo : opnC bg = 0 := by omega
    have hgg : noGap bg.length (pb bg) := ngB_iff.1 (opnC_zero hgo).2
    have hyr := hyb.elim (fun h => absurd hgo h.1) fun h => h.2
    have hyd := badR_dist hgi hgg hyr
    have hbcg := birC_of hgo hyd
    refine lx_move (.bool ybb) rfl rfl <| lx_nil <| wi_condS (t := ybb) rfl (fun c5 => ?_) (fun c5 => ?_)
    · refine wi_seq <| wi_reg rfl <| ?_
      rw [if_pos (by assumption)] at hbcg
      refine lx_move (.int .i64 (birC bg)) rfl rfl <| lx_eqlT rfl rfl rfl hbcg <| lx_move (.bool true) rfl rfl <| lx_call [] rfl rfl Try.call20 rfl (awake_spec h18 ) (fun _ _ _ => trivial) ?_
      rintro _ h20 ⟨rfl, hx16⟩
      have hx0_22 := hx0_20.trans2 hx16 hx0_20.size
      have ho68 := ho64.extS hx16
      have hot48 := hot46.extS hx16
      have ho69 := ho65.extS hx16
      have hb4 := hb2.extS hx16
      refine lx_pick true (.bool true) rfl rfl rfl <| lx_assign (.bool true) rfl rfl <| lx_nil <| ?_
      -- R2
      refine wi_ret ⟨.bool true, (res_one rfl rfl), ⟨rfl, hx0_22⟩⟩
    · refine wi_skip <| wi_seq <| wi_reg rfl <| ?_
      rw [if_neg (by rw [show ybb = false from by assumption]; simp)] at hbcg
      have hgd : distB bg.length (pb bg) = true := by rw [show ybb = false from by assumption] at hyd; simpa using hyd.symm
      have hxs : xs = birF bg.length (pb bg) := by rw [hbs, if_pos hbcg]
      have hxsl : xs.length = bg.length := by rw [hxs]; exact mapR_len _ _
      refine lx_move (vg) rfl rfl <| lx_call [vg] rfl rfl Try.call32 rfl (joinEls_spec h18 vg hsg bg ho64.rd hot46.rt (by omega) hgle) (fun _ _ _ => trivial) ?_
      rintro _ h21 ⟨vk, xk, rfl, ho70, hjk, hx17⟩
      have hx0_23 := hx0_20.trans2 hx17 hx0_20.size
      have ho71 := ho64.extS hx17
      have hot49 := hot46.extS hx17
      have ho72 := ho65.extS hx17
      have hb5 := hb2.extS hx17
      have ho73 := ho70.base hx0_20.size
      refine lx_move (.tuple #[vk, .int .i64 (opnC bg)]) rfl rfl <| lx_extract (vk) rfl rfl rfl <| lx_extract (.int .i64 (opnC bg)) rfl rfl rfl <| lx_assign (vk) rfl rfl <| lx_assign (.int .i64 (opnC bg)) rfl rfl <| lx_nil <| wi_seq <| wi_seq <| wi_reg rfl <| ?_
      have hxk : xk = jelF bg.length (pb bg) := by rw [hjk, if_pos hgo]
      have hxkl : xk.length ≤ bg.length := by rw [hxk]; exact jel_len _ _
      have hzk : ∀ i, i < xk.length → ∃ a : Nat, gt xk i = (a : Int) ∧ a < bg.length := fun i hi => by
        rw [hxk] at hi ⊢
        obtain ⟨a, h1, h2, _⟩ := jel_at hi
        exact ⟨a, h1, h2⟩
      refine lx_move (.int .i64 (birC bg)) rfl rfl <| lx_neqF rfl rfl rfl (fun h9 => h9 hbcg) <| lx_move (.bool false) rfl rfl <| lx_move (.int .i64 (opnC bg)) rfl rfl <| lx_neqF rfl rfl rfl (fun h9 => h9 hgo) <| lx_pick false (.bool false) rfl rfl rfl <| lx_move (.bool false) rfl rfl <| lx_move (vs) rfl rfl <| lx_len rfl Try.underlying25 ho72.rd rfl <| lx_move (vg) rfl rfl <| lx_len rfl Try.underlying23 ho71.rd rfl <| lx_neqF rfl rfl rfl (by omega) <| lx_pick false (.bool false) rfl rfl rfl <| lx_nil <| wi_false rfl <| wi_skip <| wi_seq <| wi_seq <| wi_reg rfl <| lx_move (vk) rfl rfl <| lx_len rfl Try.underlying25 ho73.rd rfl <| lx_eqlS rfl rfl rfl (fun c6 => ?_) (fun c6 => ?_)
      · refine lx_nil <| wi_true rfl <| wi_seq <| wi_reg rfl <| ?_
        have hone := jel_none hgi hgg hg0 (by rw [← hxk]; omega)
        refine lx_move (vg) rfl rfl <| lx_len rfl Try.underlying23 ho71.rd rfl <| lx_eqlT rfl rfl rfl (by omega) <| lx_move (.bool true) rfl rfl <| lx_call [] rfl rfl Try.call20 rfl (awake_spec h21 ) (fun _ _ _ => trivial) ?_
        rintro _ h22 ⟨rfl, hx18⟩
        have hx0_24 := hx0_23.trans2 hx18 hx0_23.size
        have ho74 := ho71.extS hx18
        have hot50 := hot49.extS hx18
        have ho75 := ho72.extS hx18
        have ho76 := ho73.extS hx18
        have hb6 := hb5.extS hx18
        refine lx_pick true (.bool true) rfl rfl rfl <| lx_assign (.bool true) rfl rfl <| lx_nil <| ?_
        -- R3
        refine wi_ret ⟨.bool true, (res_one rfl rfl), ⟨rfl, hx0_24⟩⟩
      · refine lx_nil <| wi_false rfl <| wi_skip <| wi_seq <| wi_reg rfl <| lx_assign (.slice none 0 0) rfl rfl <| lx_nil <| wi_seq <| wi_seq <| wi_reg rfl <| lx_assign (.int .i64 0) rfl rfl <| lx_nil <| wi_block <| ?_
        refine wi_loop (σ := Nat × Value × (List Hdr) × (List (List Bool))) (rngB 225 257 [35, 36, 37, 38]) (fun (ss : Nat × Value × (List Hdr) × (List (List Bool))) => [(36, .int .i64 ((ss.1 : Nat) : Int)), (35, ss.2.1)]) (fun (ss : Nat × Value × (List Hdr) × (List (List Bool))) (hh : Heap) => OwE encHd hh h.size 70 vg hsg ∧ OT encB hh h.size 4 hsg bg ∧ OwE encI hh h.size 3 vk xk ∧ OwE encI hh h.size 3 vs xs ∧ OwE encHd hh h.size 70 ss.2.1 ss.2.2.1 ∧ OT encB hh h.size 4 ss.2.2.1 ss.2.2.2 ∧ Dj vg ss.2.1 ∧ Ext h.size h hh ∧ (ss.1 ≤ xk.length) ∧ (ss.2.2.2 = (List.range ss.1).map fun q9 => rowF xk.length (subF (pb bg) xk q9))) (fun (ss : Nat × Value × (List Hdr) × (List (List Bool))) => xk.length - ss.1) (0, .slice none 0 0, [], []) ⟨rfl, rfl, trivial⟩ ⟨?_, ?_, ?_, ?_, ?_, ?_, (dj_nil_r _), hx0_23, ?_, ?_⟩ ?_
        · first | exact ho71 | (simpa using ho71)
        · first | exact hot49 | (simpa using hot49)
        · first | exact ho73 | (simpa using ho73)
        · first | exact ho72 | (simpa using ho72)
        · first | exact (owE_nil encHd _ h.size 70) | (simpa using (owE_nil encHd _ h.size 70))
        · first | exact (OT.nil encB _ h.size 4) | (simpa using (OT.nil encB _ h.size 4))
        · try dsimp only
          omega
        · try dsimp only
          first | done | rfl
        rintro g4 ⟨i, vt, ht, rows⟩ hh4 ⟨ho77, hot51, ho78, ho79, ho80, hot52, hdj9, hx0_25, hi, hrw⟩ IH3
        dsimp only at *
        have hrl : rows.length = i := by rw [hrw]; simp
        have hl_hot51 := hot51.1
        have hl_hot52 := hot52.1
        refine wi_seq <| wi_seq <| wi_reg rfl <| lx_move (.int .i64 ((i : Nat) : Int)) rfl rfl <| lx_move (vk) rfl rfl <| lx_len rfl Try.underlying25 ho78.rd rfl <| lx_lssS rfl rfl rfl (fun c7 => ?_) (fun c7 => ?_)
        · refine lx_nil <| wi_true rfl <| wi_skip <| wi_seq <| wi_block <| wi_seq <| wi_reg rfl <| lx_assign (.slice none 0 0) rfl rfl <| lx_nil <| wi_seq <| wi_seq <| wi_reg rfl <| lx_assign (.int .i64 0) rfl rfl <| lx_nil <| wi_block <| ?_
          refine wi_loop (σ := Nat × Value × (List Bool)) (rngB 231 253 [37, 38]) (fun (ss : Nat × Value × (List Bool)) => [(38, .int .i64 ((ss.1 : Nat) : Int)), (37, ss.2.1)]) (fun (ss : Nat × Value × (List Bool)) (hh : Heap) => OwE encHd hh h.size 70 vg hsg ∧ OT encB hh h.size 4 hsg bg ∧ OwE encI hh h.size 3 vk xk ∧ OwE encI hh h.size 3 vs xs ∧ OwE encHd hh h.size 70 vt ht ∧ OT encB hh h.size 4 ht rows ∧ Dj vg vt ∧ OwE encB hh h.size 4 ss.2.1 ss.2.2 ∧ Djt hsg ss.2.1 ∧ Djt ht ss.2.1 ∧ Ext h.size h hh ∧ (ss.1 ≤ xk.length) ∧ (ss.2.2 = (List.range ss.1).map (subF (pb bg) xk i))) (fun (ss : Nat × Value × (List Bool)) => xk.length - ss.1) (0, .slice none 0 0, []) ⟨rfl, rfl, trivial⟩ ⟨?_, ?_, ?_, ?_, ?_, ?_, hdj9, ?_, (djt_nil _), (djt_nil _), hx0_25, ?_, ?_⟩ ?_
          · first | exact ho77 | (simpa using ho77)
          · first | exact hot51 | (simpa using hot51)
          · first | exact ho78 | (simpa using ho78)
          · first | exact ho79 | (simpa using ho79)
          · first | exact ho80 | (simpa using ho80)
          · first | exact hot52 | (simpa using hot52)
          · first | exact (owE_nil encB _ h.size 4) | (simpa using (owE_nil encB _ h.size 4))
          · try dsimp only
            omega
          · try dsimp only
            first | done | rfl
          rintro g5 ⟨j, w, l⟩ hh5 ⟨ho81, hot53, ho82, ho83, ho84, hot54, hdj10, ho85, hdt4, hdt5, hx0_26, hj, hl⟩ IH4
          dsimp only at *
          have hll : l.length = j := by rw [hl]; simp
          have hl_hot53 := hot53.1
          have hl_hot54 := hot54.1
          refine wi_seq <| wi_seq <| wi_reg rfl <| lx_move (.int .i64 ((j : Nat) : Int)) rfl rfl <| lx_move (vk) rfl rfl <| lx_len rfl Try.underlying25 ho82.rd rfl <| lx_lssS rfl rfl rfl (fun c8 => ?_) (fun c8 => ?_)
          · refine lx_nil <| wi_true rfl <| wi_skip <| wi_seq <| wi_block <| wi_draw mo rfl (by decide +kernel) <| ?_
            obtain ⟨a, hga, ha4⟩ := hzk i (by omega)
            obtain ⟨b, hgb, hb4⟩ := hzk j (by omega)
            refine lx_move (w) rfl rfl <| lx_move (vg) rfl rfl <| lx_move (vk) rfl rfl <| lx_move (.int .i64 ((i : Nat) : Int)) rfl rfl <| lx_ix (i := i) rfl eT25 ho82.rd rfl rfl (by omega) <| lx_ld (i := i) (j := 0) (.int .i64 ((a : Nat) : Int)) rfl rfl fl3 ho82.rd (by omega) (by show some (Value.int .i64 (gt xk i)) = _; rw [hga]) rfl <| lx_ix (i := a) rfl eT23 ho81.rd rfl rfl (by omega) <| lx_ld (i := a) (j := 0) ((gt hsg a).v) rfl rfl fl70 ho81.rd (by omega) rfl rfl <| lx_move (vk) rfl rfl <| lx_move (.int .i64 ((j : Nat) : Int)) rfl rfl <| lx_ix (i := j) rfl eT25 ho82.rd rfl rfl (by omega) <| lx_ld (i := j) (j := 0) (.int .i64 ((b : Nat) : Int)) rfl rfl fl3 ho82.rd (by omega) (by show some (Value.int .i64 (gt xk j)) = _; rw [hgb]) rfl <| lx_ix (i := b) rfl eT70 (hot53.2.1 a (by omega)).rd rfl rfl (by rw [hgq.2 a (by omega)]; omega) <| lx_ld (i := b) (j := 0) (.bool (gt (gt bg a) b)) rfl rfl fl4 (hot53.2.1 a (by omega)).rd (by rw [hgq.2 a (by omega)]; omega) rfl rfl <| lx_appendL (E := encB) (B := h.size) [gt (gt bg a) b] [.bool (gt (gt bg a) b)] rfl rfl (fun _ => rfl) rfl eT70 rfl rfl rfl rfl ho85 (fun _ => rfl) (by show l.length + 1 ≤ _; omega) (by show (l.length + 1) * 1 ≤ _; omega) hx0_26.size (fun _ _ => trivial) fun u3 v3 h23 ho86 hc5 hg3 => ?_
            have hx0_27 := hx0_26.trans (ho85.ext hc5 hx0_26.size)
            have ho87 := ho81.chg hc5 (dj_ty ho81 ho85 (by decide))
            have ho88 := ho83.chg hc5 (dj_ty ho83 ho85 (by decide))
            have ho89 := ho82.chg hc5 (dj_ty ho82 ho85 (by decide))
            have ho90 := ho84.chg hc5 (dj_ty ho84 ho85 (by decide))
            have hot55 := hot53.chg hc5 hdt4
            have hot56 := hot54.chg hc5 hdt5
            refine lx_assign (v3) rfl rfl <| lx_nil <| wi_inBlock <| wi_reg rfl <| lx_move (.int .i64 ((j : Nat) : Int)) rfl rfl <| lx_add (((j + 1 : Nat) : Int)) rfl rfl rfl (by omega) (by omega) (by omega) <| lx_assign (.int .i64 ((j + 1 : Nat) : Int)) rfl rfl <| lx_nil <| ?_
            -- L6.1
            refine IH4 _ _ (j + 1, v3, l ++ [gt (gt bg a) b]) (agree_ups rfl agree_self) ⟨rfl, rfl, trivial⟩ ⟨?_, ?_, ?_, ?_, ?_, ?_, hdj10, ?_, (djt_app hdt4 hot53 hg3), (djt_app hdt5 hot54 hg3), hx0_27, ?_, ?_⟩ ?_
            · first | exact ho87 | (simpa using ho87)
            · first | exact hot55 | (simpa using hot55)
            · first | exact ho89 | (simpa using ho89)
            · first | exact ho88 | (simpa using ho88)
            · first | exact ho90 | (simpa using ho90)
            · first | exact hot56 | (simpa using hot56)
            · first | exact ho86 | (simpa using ho86)
            · try dsimp only
              omega
            · try dsimp only
              rw [hl, List.range_succ, List.map_append]
              congr 1
              show [_] = [subF (pb bg) xk i j]
              unfold subF; rw [hga, hgb]; rfl
            · first | omega | (dsimp only; omega)
          · have hot57 : OT encB hh5 h.size 4 (ht ++ [hdrOf w]) (rows ++ [l]) := OT.snoc hot54 ho85 hdt5
            refine lx_nil <| wi_false rfl <| wi_exit rfl <| wi_reg rfl <| lx_move (vt) rfl rfl <| lx_move (w) rfl rfl <| lx_appendL (E := encHd) (B := h.size) [hdrOf w] [w] rfl rfl (fun _ => rfl) rfl eT29 rfl rfl (hdr_cells1 ho85.rd) rfl ho84 (fun _ => rfl) (by show ht.length + 1 ≤ _; omega) (by show (ht.length + 1) * 24 ≤ _; omega) hx0_26.size (fun _ _ => trivial) fun u4 v4 h24 ho91 hc6 hg4 => ?_
            have hx0_28 := hx0_26.trans (ho84.ext hc6 hx0_26.size)
            have ho92 := ho81.chg hc6 hdj10
            have ho93 := ho83.chg hc6 (dj_ty ho83 ho84 (by decide))
            have ho94 := ho82.chg hc6 (dj_ty ho82 ho84 (by decide))
            have hot58 := hot53.chg hc6 (djt_ty hot53 ho84 (by decide))
            have hot59 : OT encB h24 h.size 4 (ht ++ [hdrOf w]) (rows ++ [l]) := hot57.chg hc6 (djt_ty hot57 ho84 (by decide))
            have hl_hot59 := hot59.1
            refine lx_assign (v4) rfl rfl <| lx_nil <| wi_inBlock <| wi_reg rfl <| lx_move (.int .i64 ((i : Nat) : Int)) rfl rfl <| lx_add (((i + 1 : Nat) : Int)) rfl rfl rfl (by omega) (by omega) (by omega) <| lx_assign (.int .i64 ((i + 1 : Nat) : Int)) rfl rfl <| lx_nil <| ?_
            -- L4.1
            refine IH3 _ _ (i + 1, v4, ht ++ [hdrOf w], rows ++ [l]) (agree_ups rfl (agree_mix (rngB_sub (by decide) (by decide) rfl) (agree_ups rfl agree_self))) ⟨rfl, rfl, trivial⟩ ⟨?_, ?_, ?_, ?_, ?_, ?_, (dj_app hdj10 ho81 hg4), hx0_28, ?_, ?_⟩ ?_
            · first | exact ho92 | (simpa using ho92)
            · first | exact hot58 | (simpa using hot58)
            · first | exact ho94 | (simpa using ho94)
            · first | exact ho93 | (simpa using ho93)
            · first | exact ho91 | (simpa using ho91)
            · first | exact hot59 | (simpa using hot59)
            · try dsimp only
              omega
            · try dsimp only
              rw [hrw, List.range_succ, List.map_append, hl, show j = xk.length from by omega]; rfl
            · first | omega | (dsimp only; omega)
        · refine lx_nil <| wi_false rfl <| wi_exit rfl <| wi_seq <| wi_reg rfl <| ?_
          have hpart : rows = tabF (jelF bg.length (pb bg)).length (jelQ bg.length (pb bg)) := by rw [hrw, show i = xk.length from by omega, hxk]; rfl
          have hjl0 : 0 < (jelF bg.length (pb bg)).length := by rw [← hxk]; omega
          have hjl1 : (jelF bg.length (pb bg)).length ≤ 12 := by rw [← hxk]; omega
          have hple := tab_lenB hpart (by omega)
          have hpc : chkT rows = 0 := by rw [hpart, chkT_tabF hjl0 hjl1, if_pos (ordB_iff.2 (jelQ_o hgi))]
          refine lx_move (vt) rfl rfl <| lx_call [vt] rfl rfl Try.call16 rfl (oideals_spec hh4 vt ht rows ho80.rd hot52.rt hple.1 hple.2) (fun _ _ _ => trivial) ?_
          rintro _ h25 ⟨vid, xid, rfl, ho95, hid, hx19⟩
          have hx0_29 := hx0_25.trans2 hx19 hx0_25.size
          have ho96 := ho77.extS hx19
          have hot60 := hot51.extS hx19
          have ho97 := ho79.extS hx19
          have ho98 := ho78.extS hx19
          have ho99 := ho80.extS hx19
          have hot61 := hot52.extS hx19
          have ho100 := ho95.base hx0_25.size
          refine lx_move (.tuple #[vid, .int .i64 (chkT rows)]) rfl rfl <| lx_extract (vid) rfl rfl rfl <| lx_extract (.int .i64 (chkT rows)) rfl rfl rfl <| lx_assign (vid) rfl rfl <| lx_assign (.int .i64 (chkT rows)) rfl rfl <| lx_nil <| wi_seq <| wi_seq <| wi_reg rfl <| ?_
          have hxid : xid = idealsF (jelF bg.length (pb bg)).length (jelQ bg.length (pb bg)) := by rw [goodA hid hpc, hpart]; exact pb_ideals
          have hxil : xid.length = bg.length := by rw [hxid]; exact birk_len hgi hgg hg0 hgd
          refine lx_move (.int .i64 (chkT rows)) rfl rfl <| lx_neqF rfl rfl rfl (fun h9 => h9 hpc) <| lx_move (.bool false) rfl rfl <| lx_move (vid) rfl rfl <| lx_len rfl Try.underlying25 ho100.rd rfl <| lx_move (vg) rfl rfl <| lx_len rfl Try.underlying23 ho96.rd rfl <| lx_neqF rfl rfl rfl (by omega) <| lx_pick false (.bool false) rfl rfl rfl <| lx_nil <| wi_false rfl <| wi_skip <| wi_seq <| wi_seq <| wi_reg rfl <| lx_assign (.int .i64 0) rfl rfl <| lx_nil <| wi_block <| ?_
          refine wi_loop (σ := Nat) (rngB 271 325 [4, 41, 42, 43, 44]) (fun (x : Nat) => [(41, .int .i64 ((x : Nat) : Int))]) (fun (x : Nat) (hh : Heap) => OwE encHd hh h.size 70 vg hsg ∧ OT encB hh h.size 4 hsg bg ∧ OwE encI hh h.size 3 vs xs ∧ OwE encI hh h.size 3 vid xid ∧ Ext h.size h hh ∧ (x ≤ xs.length)) (fun (x : Nat) => xs.length - x) 0 ⟨rfl, trivial⟩ ⟨?_, ?_, ?_, ?_, hx0_29, ?_⟩ ?_
          · first | exact ho96 | (simpa using ho96)
          · first | exact hot60 | (simpa using hot60)
          · first | exact ho97 | (simpa using ho97)
          · first | exact ho100 | (simpa using ho100)
          · try dsimp only
            omega
          rintro g6 x hh6 ⟨ho101, hot62, ho102, ho103, hx0_30, hx⟩ IH5
          have hl_hot62 := hot62.1
          refine wi_seq <| wi_seq <| wi_reg rfl <| lx_move (.int .i64 ((x : Nat) : Int)) rfl rfl <| lx_move (vs) rfl rfl <| lx_len rfl Try.underlying25 ho102.rd rfl <| lx_lssS rfl rfl rfl (fun c9 => ?_) (fun c9 => ?_)
          · refine lx_nil <| wi_true rfl <| wi_skip <| wi_seq <| wi_block <| wi_seq <| wi_reg rfl <| lx_assign (.bool false) rfl rfl <| lx_nil <| wi_seq <| wi_seq <| wi_reg rfl <| lx_assign (.int .i64 0) rfl rfl <| lx_nil <| wi_block <| ?_
            refine wi_loop (σ := Nat × Bool) (rngB 277 295 [42, 43]) (fun (ss : Nat × Bool) => [(43, .int .i64 ((ss.1 : Nat) : Int)), (42, .bool ss.2)]) (fun (ss : Nat × Bool) (hh : Heap) => hh6 = hh ∧ (ss.1 ≤ xid.length) ∧ (ss.2 = (List.range ss.1).any fun i9 => decide (gt xid i9 = gt xs x))) (fun (ss : Nat × Bool) => xid.length - ss.1) (0, false) ⟨rfl, rfl, trivial⟩ ⟨rfl, ?_, ?_⟩ ?_
            · try dsimp only
              omega
            · try dsimp only
              first | done | rfl
            rintro g7 ⟨k, w⟩ hh7 ⟨rfl, hk, hw⟩ IH6
            dsimp only at *
            refine wi_seq <| wi_seq <| wi_reg rfl <| lx_move (.int .i64 ((k : Nat) : Int)) rfl rfl <| lx_move (vid) rfl rfl <| lx_len rfl Try.underlying25 ho103.rd rfl <| lx_lssS rfl rfl rfl (fun c10 => ?_) (fun c10 => ?_)
            · refine lx_nil <| wi_true rfl <| wi_skip <| wi_seq <| wi_block <| wi_draw mo rfl (by decide +kernel) <| lx_move (.bool w) rfl rfl <| lx_move (.bool w) rfl rfl <| ?_
              cases c11 : w
              · refine lx_move (vid) rfl rfl <| lx_move (.int .i64 ((k : Nat) : Int)) rfl rfl <| lx_ix (i := k) rfl eT25 ho103.rd rfl rfl (by omega) <| lx_ld (i := k) (j := 0) (.int .i64 (gt xid k)) rfl rfl fl3 ho103.rd (by omega) rfl rfl <| lx_move (vs) rfl rfl <| lx_move (.int .i64 ((x : Nat) : Int)) rfl rfl <| lx_ix (i := x) rfl eT25 ho102.rd rfl rfl (by omega) <| lx_ld (i := x) (j := 0) (.int .i64 (gt xs x)) rfl rfl fl3 ho102.rd (by omega) rfl rfl <| lx_eql rfl rfl rfl <| lx_pick false (.bool (decide (gt xid k = gt xs x))) rfl rfl rfl <| lx_assign (.bool (decide (gt xid k = gt xs x))) rfl rfl <| lx_nil <| wi_inBlock <| wi_reg rfl <| lx_move (.int .i64 ((k : Nat) : Int)) rfl rfl <| lx_add (((k + 1 : Nat) : Int)) rfl rfl rfl (by omega) (by omega) (by omega) <| lx_assign (.int .i64 ((k + 1 : Nat) : Int)) rfl rfl <| lx_nil <| ?_
                -- L10.1
                refine IH6 _ _ (k + 1, decide (gt xid k = gt xs x)) (agree_ups rfl agree_self) ⟨rfl, rfl, trivial⟩ ⟨rfl, ?_, ?_⟩ ?_
                · try dsimp only
                  omega
                · try dsimp only
                  rw [List.range_succ, List.any_append, ← hw]
                  first
                  | (rw [show w = true from by assumption]; rfl)
                  | (rw [show w = false from by assumption]; simp)
                · first | omega | (dsimp only; omega)
              · refine lx_skip rfl <| lx_skip rfl <| lx_skip rfl <| lx_skip rfl <| lx_skip rfl <| lx_skip rfl <| lx_skip rfl <| lx_skip rfl <| lx_skip rfl <| lx_pick true (.bool true) rfl rfl rfl <| lx_assign (.bool true) rfl rfl <| lx_nil <| wi_inBlock <| wi_reg rfl <| lx_move (.int .i64 ((k : Nat) : Int)) rfl rfl <| lx_add (((k + 1 : Nat) : Int)) rfl rfl rfl (by omega) (by omega) (by omega) <| lx_assign (.int .i64 ((k + 1 : Nat) : Int)) rfl rfl <| lx_nil <| ?_
                -- L10.2
                refine IH6 _ _ (k + 1, true) (agree_ups rfl agree_self) ⟨rfl, rfl, trivial⟩ ⟨rfl, ?_, ?_⟩ ?_
                · try dsimp only
                  omega
                · try dsimp only
                  rw [List.range_succ, List.any_append, ← hw]
                  first
                  | (rw [show w = true from by assumption]; rfl)
                  | (rw [show w = false from by assumption]; simp)
                · first | omega | (dsimp only; omega)
            · refine lx_nil <| wi_false rfl <| wi_exit rfl <| wi_seq <| wi_seq <| wi_reg rfl <| lx_assign (.int .i64 0) rfl rfl <| lx_nil <| wi_block <| ?_
              refine wi_loop (σ := Nat) (rngB 295 323 [4, 44]) (fun (y : Nat) => [(44, .int .i64 ((y : Nat) : Int))]) (fun (y : Nat) (hh : Heap) => hh6 = hh ∧ (y ≤ xs.length)) (fun (y : Nat) => xs.length - y) 0 ⟨rfl, trivial⟩ ⟨rfl, ?_⟩ ?_
              · try dsimp only
                omega
              rintro g8 y hh8 ⟨rfl, hy⟩ IH7
              refine wi_seq <| wi_seq <| wi_reg rfl <| lx_move (.int .i64 ((y : Nat) : Int)) rfl rfl <| lx_move (vs) rfl rfl <| lx_len rfl Try.underlying25 ho102.rd rfl <| lx_lssS rfl rfl rfl (fun c12 => ?_) (fun c12 => ?_)
              · refine lx_nil <| wi_true rfl <| wi_skip <| wi_seq <| wi_block <| wi_seq <| wi_draw mo rfl (by decide +kernel) <| ?_
                have hsx : gt xs x = ((phi bg.length (pb bg) x : Nat) : Int) := by rw [hxs]; exact birF_at (by omega)
                have hsy : gt xs y = ((phi bg.length (pb bg) y : Nat) : Int) := by rw [hxs]; exact birF_at (by omega)
                have hlx : phi bg.length (pb bg) x < 4096 := Nat.lt_of_lt_of_le (colN_lt _ _) (pow12 (by rw [← hxk]; omega))
                have hly : phi bg.length (pb bg) y < 4096 := Nat.lt_of_lt_of_le (colN_lt _ _) (pow12 (by rw [← hxk]; omega))
                have haw : phi bg.length (pb bg) x &&& phi bg.length (pb bg) y ≤ phi bg.length (pb bg) x := Nat.and_le_left
                have hphi := phi_le hgi hgg (show x < bg.length by omega) (show y < bg.length by omega)
                refine lx_move (vs) rfl rfl <| lx_move (.int .i64 ((x : Nat) : Int)) rfl rfl <| lx_ix (i := x) rfl eT25 ho102.rd rfl rfl (by omega) <| lx_ld (i := x) (j := 0) (.int .i64 ((phi bg.length (pb bg) x : Nat) : Int)) rfl rfl fl3 ho102.rd (by omega) (by show some (Value.int .i64 (gt xs x)) = _; rw [hsx]) rfl <| lx_move (vs) rfl rfl <| lx_move (.int .i64 ((y : Nat) : Int)) rfl rfl <| lx_ix (i := y) rfl eT25 ho102.rd rfl rfl (by omega) <| lx_ld (i := y) (j := 0) (.int .i64 ((phi bg.length (pb bg) y : Nat) : Int)) rfl rfl fl3 ho102.rd (by omega) (by show some (Value.int .i64 (gt xs y)) = _; rw [hsy]) rfl <| lx_and (m := phi bg.length (pb bg) x) (n := phi bg.length (pb bg) y) rfl rfl rfl (by show _ < 2 ^ 64; omega) (by show _ < 2 ^ 64; omega) (wrap_i64 (by omega) (by omega)) <| lx_move (vs) rfl rfl <| lx_move (.int .i64 ((x : Nat) : Int)) rfl rfl <| lx_ix (i := x) rfl eT25 ho102.rd rfl rfl (by omega) <| lx_ld (i := x) (j := 0) (.int .i64 ((phi bg.length (pb bg) x : Nat) : Int)) rfl rfl fl3 ho102.rd (by omega) (by show some (Value.int .i64 (gt xs x)) = _; rw [hsx]) rfl <| lx_eql rfl rfl rfl <| lx_move (vg) rfl rfl <| lx_move (.int .i64 ((x : Nat) : Int)) rfl rfl <| lx_ix (i := x) rfl eT23 ho101.rd rfl rfl (by omega) <| lx_ld (i := x) (j := 0) ((gt hsg x).v) rfl rfl fl70 ho101.rd (by omega) rfl rfl <| lx_move (.int .i64 ((y : Nat) : Int)) rfl rfl <| lx_ix (i := y) rfl eT70 (hot62.2.1 x (by omega)).rd rfl rfl (by rw [hgq.2 x (by omega)]; omega) <| lx_ld (i := y) (j := 0) (.bool (gt (gt bg x) y)) rfl rfl fl4 (hot62.2.1 x (by omega)).rd (by rw [hgq.2 x (by omega)]; omega) rfl rfl <| lx_neqBool false rfl Try.underlying4 rfl rfl (by rw [and_D, hphi]; show (pb bg x y != gt (gt bg x) y) = false; exact bne_self_eq_false _) <| lx_nil <| wi_false rfl <| wi_skip <| wi_inBlock <| wi_reg rfl <| lx_move (.int .i64 ((y : Nat) : Int)) rfl rfl <| lx_add (((y + 1 : Nat) : Int)) rfl rfl rfl (by omega) (by omega) (by omega) <| lx_assign (.int .i64 ((y + 1 : Nat) : Int)) rfl rfl <| lx_nil <| ?_
                -- L12.1
                refine IH7 _ _ (y + 1) (agree_ups rfl agree_self) ⟨rfl, trivial⟩ ⟨rfl, ?_⟩ ?_
                · try dsimp only
                  omega
                · first | omega | (dsimp only; omega)
              · refine lx_nil <| wi_false rfl <| wi_exit rfl <| wi_seq <| wi_reg rfl <| ?_
                have hwt : w = true := by
                  have h1 : ((phi bg.length (pb bg) x : Nat) : Int) ∈ xid := by rw [hxid]; exact filtF_mem.2 ⟨_, colN_lt _ _, phi_idl hgi (by omega), rfl⟩
                  obtain ⟨i9, h2, h3⟩ := mem_gt h1
                  rw [hw, List.any_eq_true]
                  exact ⟨i9, List.mem_range.2 (by omega), decide_eq_true (by rw [h3, hxs, birF_at (by omega)])⟩
                subst hwt
                refine lx_move (.bool true) rfl rfl <| lx_notB false rfl rfl rfl <| lx_nil <| wi_false rfl <| wi_skip <| wi_inBlock <| wi_reg rfl <| lx_move (.int .i64 ((x : Nat) : Int)) rfl rfl <| lx_add (((x + 1 : Nat) : Int)) rfl rfl rfl (by omega) (by omega) (by omega) <| lx_assign (.int .i64 ((x + 1 : Nat) : Int)) rfl rfl <| lx_nil <| ?_
                -- L8.1
                refine IH5 _ _ (x + 1) (agree_ups rfl (agree_mix (rngB_sub (by decide) (by decide) rfl) (agree_ups rfl (agree_mix (rngB_sub (by decide) (by decide) rfl) (agree_ups rfl agree_self))))) ⟨rfl, trivial⟩ ⟨?_, ?_, ?_, ?_, hx0_30, ?_⟩ ?_
                · first | exact ho101 | (simpa using ho101)
                · first | exact hot62 | (simpa using hot62)
                · first | exact ho102 | (simpa using ho102)
                · first | exact ho103 | (simpa using ho103)
                · try dsimp only
                  omega
                · first | omega | (dsimp only; omega)
          · refine lx_nil <| wi_false rfl <| wi_exit rfl <| wi_seq <| wi_reg rfl <| lx_call [] rfl rfl Try.call20 rfl (awake_spec hh6 ) (fun _ _ _ => trivial) ?_
            rintro _ h26 ⟨rfl, hx20⟩
            have hx0_31 := hx0_30.trans2 hx20 hx0_30.size
            have ho104 := ho101.extS hx20
            have hot63 := hot62.extS hx20
            have ho105 := ho102.extS hx20
            have ho106 := ho103.extS hx20
            refine lx_assign (.bool true) rfl rfl <| lx_nil <| ?_
            -- R4
            refine wi_ret ⟨.bool true, (res_one rfl rfl), ⟨rfl, hx0_31⟩⟩

end Go.Proofs.Ytdokijbdnajhgaa
namespace Go.Proofs.Ytdokijbdnajhgaa
open Go Go.X Go.ChangeShapes Go.WideShapes Go.ChangeAt Go.RowKit

theorem orderBirkhoff_own : ownKnob Try.prog.godebug = none := by kernel_rfl
theorem orderBirkhoff_laidOut : laidOutB Try.prog = true := by kernel_rfl

set_option maxRecDepth 100000 in
theorem orderBirkhoff_lifted (os : Os) (started : os.Started) (H : Type) (enc : TypeId × Value → H) :
    ReturnsInHanded {} Try.checked os 6 .any (Rows.orderBirkhoffSpec.pre6 enc Try.prog Try.f6 Rows.orderBirkhoffRow.domain false) (Rows.orderBirkhoffSpec.post enc Try.prog Try.f6 false true false false) := by
  refine returnsInHanded_of_change (C := Try.checked) orderBirkhoff_own started (by kernel_rfl) Try.func6
    (ChangeSpec.witness6 (enc := enc) (C := Try.checked) false ⟨#[], #[.int .i64 0, .slice none 0 0], []⟩ 8 (by kernel_rfl) (by kernel_rfl) (by kernel_rfl) (by kernel_rfl)) ?_
  intro W base args ds gs before hval0 hW hcnd _
  have hval : ∀ (j : Nat) t v, Try.f6.params[j]? = some t → args[j]? = some v → Value.okWide Try.prog W .any base t v := hval0
  have hW' := hW
  obtain ⟨p, q, hA0, hV, rfl, hfz, hnd⟩ := hW
  have hA : DataW.TrodAll enc Try.prog W 0 (fun _ => true) true Try.f6.params.toList args.toList ds p := hA0
  rw [Try.params6] at hA hval
  obtain ⟨v0, vs0, d0, ds0, p0, q0, hargs, rfl, rfl, h0, r0⟩ := trodAll_cons hA
  obtain ⟨v1, vs1, d1, ds1, p1, q1, rfl, rfl, rfl, h1, r1⟩ := trodAll_cons r0
  obtain ⟨rfl, rfl, rfl⟩ := trodAll_nil r1
  obtain rfl : args = #[v0, v1] := by cases args; simp_all
  obtain ⟨rfl, rfl⟩ := trodVars_none hV
  obtain ⟨n, rfl, rfl, rfl, w0⟩ := open_int Try.underlying3 (hval 0 3 v0 rfl rfl) h0
  have hb_n := bounds_i64 w0
  have k1 := h1
  have lt1 : ∀ x ∈ p1, x.block < W.heap.size := by obtain ⟨m, hm⟩ := k1; exact DataW.trod_lt m _ _ _ hm
  obtain ⟨l, hr_l, hl_l, hb_l⟩ := lift_pairs Try.underlying22 Try.underlying85 Try.underlying3 (by kernel_rfl) (by kernel_rfl) (hval 1 22 v1 rfl rfl) h1
  clear hA0 hval0
  refine (lift_walk (args := [.int .i64 n, v1]) (orderBirkhoff_spec W.heap n v1 l hr_l hl_l)).mono fun e W' ⟨he, bel⟩ => ?_
  subst he
  exact ⟨_, rfl, _, _, _, [], _, [], hW', trodAll_mk1 (shut_bool Try.underlying4 _), (trodAll_cons_mk (shut_int Try.underlying3 w0) (trodAll_cons_mk (Below.trod orderBirkhoff_laidOut (by kernel_rfl) (of_decide_eq_true (by kernel_rfl)) k1 bel lt1) trodAll_mk0)), rfl, bel.frame _, fun h => by cases h⟩

theorem orderBirkhoff_holds : Rows.OrderBirkhoffSaid :=
  OpenClaim.holds_of_wide 6 Try.f6 rfl rfl rfl rfl rfl rfl rfl ⟨rfl, rfl, rfl, rfl, rfl⟩ rfl rfl rfl rfl rfl (by kernel_rfl) Try.func6 (by kernel_rfl)
    (of_decide_eq_true (by kernel_rfl)) (by unfold Func.isWrapper; first | (rw [if_pos (by decide +kernel)]; kernel_rfl) | (rw [if_neg (by decide +kernel)]; exact ⟨rfl, rfl⟩))
    (fun os started H enc _ => orderBirkhoff_lifted os started H enc)
#print axioms orderBirkhoff_holds
end Go.Proofs.Ytdokijbdnajhgaa
