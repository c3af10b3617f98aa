/-
  Texts in one: XCut, XSeqO, XTarski.
-/
import Derived.Test.YtdokijbdnajhgaaMRot5
set_option linter.unusedSimpArgs false
set_option linter.unusedVariables false
namespace Go.X
def sgN (s k : Nat) : Int := if crN s k % 2 = 0 then 1 else -1
theorem sumI_split (a : Nat) (g : Nat → Int) : ∀ b, sumI (a + b) g = sumI a g + sumI b fun i => g (a + i)
  | 0 => by simp [sumI]
  | b + 1 => by rw [← Nat.add_assoc, sumI, sumI_split a g b, sumI]; omega
theorem crJ_congr {n : Nat} {f : Nat → Nat → Bool} {lo : Nat} {al : List Int} {s t : Nat} : ∀ {k : Nat}, (∀ i, i < k → s.testBit i = t.testBit i) → crJ n f lo al s k = crJ n f lo al t k
  | 0, _ => rfl
  | k + 1, h => by unfold crJ; rw [h k (by omega), crJ_congr fun i hi => h i (by omega)]
theorem crN_congr {s t : Nat} : ∀ {k : Nat}, (∀ i, i < k → s.testBit i = t.testBit i) → crN s k = crN t k
  | 0, _ => rfl
  | k + 1, h => by unfold crN; rw [h k (by omega), crN_congr fun i hi => h i (by omega)]
theorem altS_add (g h : Nat → Int) (K : Nat) : altS (fun k => g k + h k) K = altS g K + altS h K := by
  unfold altS
  rw [← sumI_add]
  refine sumI_congr fun k _ => ?_
  show (if k % 2 = 0 then g k + h k else -(g k + h k)) = _
  by_cases e : k % 2 = 0
  · rw [if_pos e, if_pos e, if_pos e]
  · rw [if_neg e, if_neg e, if_neg e]; omega
theorem altS_one {K c : Nat} (hc : c < K) (v : Int) : altS (fun k => if k = c then v else 0) K = if c % 2 = 0 then v else -v := by
  unfold altS
  rw [sumI_one (k := c) hc fun i _ hne => by
    show (if i % 2 = 0 then (if i = c then v else 0) else -(if i = c then v else 0)) = 0
    rw [if_neg hne]; split <;> rfl]
  show (if c % 2 = 0 then (if c = c then v else 0) else -(if c = c then v else 0)) = _
  rw [if_pos rfl]
theorem altS_zero (K : Nat) : altS (fun _ => 0) K = 0 := by
  unfold altS
  exact sumI_zero fun i _ => by split <;> rfl
section
variable {n : Nat} {f : Nat → Nat → Bool} {lo : Nat} {al : List Int}
/-- The counts, with signs by turns. -/
theorem crL_alt (hi : Nat) : ∀ T, altS (gt (crL n f lo hi al T)) (al.length + 1) = sumI T fun s => if crJ n f lo al s al.length = hi then sgN s al.length else 0
  | 0 => by
    rw [← crL_zero, show altS (gt (List.replicate (al.length + 1) (0 : Int))) (al.length + 1) = altS (fun _ => 0) (al.length + 1) from altS_congr fun k hk => gt_replicate hk, altS_zero]; rfl
  | T + 1 => by
    have e : altS (gt (crL n f lo hi al (T + 1))) (al.length + 1) = altS (fun k => gt (crL n f lo hi al T) k + if crB n f lo hi al k T then 1 else 0) (al.length + 1) := altS_congr fun k hk => by
      unfold crL
      rw [gt_mapR hk, gt_mapR hk, range_countP]
      split <;> simp
    rw [e, altS_add, crL_alt hi T, sumI]
    congr 1
    by_cases h : crJ n f lo al T al.length = hi
    · rw [if_pos h]
      have := crN_le T al.length
      rw [show (fun k => if crB n f lo hi al k T then (1 : Int) else 0) = fun k => if k = crN T al.length then 1 else 0 from funext fun k => by
        unfold crB
        rw [decide_eq_true h, Bool.true_and]
        by_cases e2 : crN T al.length = k
        · rw [if_pos (decide_eq_true e2), if_pos e2.symm]
        · rw [if_neg (by rw [decide_eq_false e2]; simp), if_neg (Ne.symm e2)], altS_one (by omega)]
      rfl
    · rw [if_neg h, show (fun k => if crB n f lo hi al k T then (1 : Int) else 0) = fun _ => 0 from funext fun k => by
        unfold crB
        rw [decide_eq_false h, Bool.false_and]; rfl, altS_zero]
variable (ho : IsO n f) (hg : noGap n f) (hlo : lo < n) (hal : ∀ i, i < al.length → (gt al i).toNat < n)
/-- The sets of the first atoms that join to something at most 't', with signs. -/
def cutH (n : Nat) (f : Nat → Nat → Bool) (lo : Nat) (al : List Int) (t k : Nat) : Int := sumI (2 ^ k) fun s => if f (crJ n f lo al s k) t then sgN s k else 0
include ho hg hlo hal
theorem cutH_succ {t k : Nat} (ht : t < n) (hk : k < al.length) : cutH n f lo al t (k + 1) = if f (gt al k).toNat t then 0 else cutH n f lo al t k := by
  unfold cutH
  rw [Nat.pow_succ, Nat.mul_two, sumI_split]
  have e1 : (sumI (2 ^ k) fun s => if f (crJ n f lo al s (k + 1)) t then sgN s (k + 1) else 0) = sumI (2 ^ k) fun s => if f (crJ n f lo al s k) t then sgN s k else 0 := sumI_congr fun s hs => by
    have hb : s.testBit k = false := Nat.testBit_lt_two_pow hs
    unfold sgN
    rw [crJ, crN, hb]; rfl
  have e2 : (sumI (2 ^ k) fun s => if f (crJ n f lo al (2 ^ k + s) (k + 1)) t then sgN (2 ^ k + s) (k + 1) else 0) = sumI (2 ^ k) fun s => if f (gt al k).toNat t then -(if f (crJ n f lo al s k) t then sgN s k else 0) else 0 := sumI_congr fun s hs => by
    have hb : (2 ^ k + s).testBit k = true := by rw [Nat.testBit_two_pow_add_eq, Nat.testBit_lt_two_pow hs]; rfl
    have hc : ∀ i, i < k → (2 ^ k + s).testBit i = s.testBit i := fun i hi => Nat.testBit_two_pow_add_gt hi s
    have hj : crJ n f lo al (2 ^ k + s) (k + 1) = jN n f (crJ n f lo al s k) (gt al k).toNat := by rw [crJ, if_pos hb, crJ_congr hc]
    have hn : crN (2 ^ k + s) (k + 1) = crN s k + 1 := by rw [crN, if_pos hb, crN_congr hc]
    have hsg : sgN (2 ^ k + s) (k + 1) = -sgN s k := by
      unfold sgN
      rw [hn]
      rcases Nat.mod_two_eq_zero_or_one (crN s k) with h | h
      · rw [if_pos h, if_neg (show ¬ (crN s k + 1) % 2 = 0 by omega)]
      · rw [if_neg (show ¬ crN s k % 2 = 0 by omega), if_pos (show (crN s k + 1) % 2 = 0 by omega)]; rfl
    have hcl := crJ_lt ho hg hlo hal s k (by omega)
    obtain ⟨_, j1, j2, j3, j4⟩ := jN_at ho hg hcl (hal k hk)
    have hf : f (jN n f (crJ n f lo al s k) (gt al k).toNat) t = (f (crJ n f lo al s k) t && f (gt al k).toNat t) := by
      rw [Bool.eq_iff_iff, Bool.and_eq_true]
      exact ⟨fun h => ⟨ho.trans hcl j1 ht j2 h, ho.trans (hal k hk) j1 ht j3 h⟩, fun h => j4 t ht h.1 h.2⟩
    rw [hj, hsg, hf]
    cases f (gt al k).toNat t
    · simp
    · cases f (crJ n f lo al s k) t <;> simp
  rw [e1, e2]
  cases f (gt al k).toNat t
  · rw [if_neg (by simp), show (sumI (2 ^ k) fun s => if (false = true) then -(if f (crJ n f lo al s k) t then sgN s k else 0) else 0) = 0 from sumI_zero fun i _ => if_neg (by simp)]
    omega
  · rw [if_pos rfl, show (sumI (2 ^ k) fun s => if (true = true) then -(if f (crJ n f lo al s k) t then sgN s k else 0) else 0) = -sumI (2 ^ k) fun s => if f (crJ n f lo al s k) t then sgN s k else 0 from by
      rw [← sumI_neg]; exact sumI_congr fun i _ => if_pos rfl]
    omega
theorem cutH_all (h0 : ∀ q, q < n → f lo q = true) {t : Nat} (ht : t < n) : ∀ k, k ≤ al.length → cutH n f lo al t k = if (∃ i, i < k ∧ f (gt al i).toNat t = true) then 0 else 1
  | 0, _ => by
    rw [if_neg (by rintro ⟨i, hi, _⟩; omega)]
    unfold cutH sgN crJ crN
    rw [Nat.pow_zero, h0 t ht]; rfl
  | k + 1, hk => by
    rw [cutH_succ ho hg hlo hal ht (by omega), cutH_all h0 ht k (by omega)]
    by_cases e : f (gt al k).toNat t = true
    · rw [if_pos e, if_pos ⟨k, by omega, e⟩]
    · rw [if_neg e]
      by_cases e2 : ∃ i, i < k ∧ f (gt al i).toNat t = true
      · obtain ⟨i, h1, h2⟩ := e2
        rw [if_pos ⟨i, h1, h2⟩, if_pos ⟨i, by omega, h2⟩]
      · rw [if_neg e2, if_neg]
        rintro ⟨i, h1, h2⟩
        by_cases e3 : i = k
        · subst e3; exact e h2
        · exact e2 ⟨i, by omega, h2⟩
/-- Rota: the sets of atoms that join to an element, with signs. -/
theorem cut_law (h0 : ∀ q, q < n → f lo q = true) (h1 : ∀ t, t < n → t ≠ lo → ∃ i, i < al.length ∧ f (gt al i).toNat t = true) (h2 : ∀ i, i < al.length → f (gt al i).toNat lo = false) {hi : Nat} (hh : hi < n) :
    altS (gt (crL n f lo hi al (2 ^ al.length))) (al.length + 1) = muF n f lo hi := by
  rw [crL_alt]
  refine mu_uniq ho (b := fun y => sumI (2 ^ al.length) fun s => if crJ n f lo al s al.length = y then sgN s al.length else 0) hlo (fun t ht => ?_) hh
  have e1 : smP f (fun y => sumI (2 ^ al.length) fun s => if crJ n f lo al s al.length = y then sgN s al.length else 0) t n = cutH n f lo al t al.length := by
    unfold smP cutH
    rw [show (sumI n fun y => if f y t then (sumI (2 ^ al.length) fun s => if crJ n f lo al s al.length = y then sgN s al.length else 0) else 0) = sumI n fun y => sumI (2 ^ al.length) fun s => if f y t then (if crJ n f lo al s al.length = y then sgN s al.length else 0) else 0 from sumI_congr fun y _ => by
      split
      · rfl
      · exact (sumI_zero fun _ _ => rfl).symm, sumI_swap]
    refine sumI_congr fun s _ => ?_
    have hcl := crJ_lt ho hg hlo hal s al.length (Nat.le_refl _)
    rw [sumI_one (k := crJ n f lo al s al.length) hcl fun i _ hne => by rw [if_neg (Ne.symm hne)]; split <;> rfl, if_pos rfl]
  rw [e1, cutH_all ho hg hlo hal h0 ht _ (Nat.le_refl _)]
  by_cases e : lo = t
  · subst e
    rw [if_pos rfl, if_neg]
    rintro ⟨i, h3, h4⟩
    rw [h2 i h3] at h4; cases h4
  · rw [if_neg e, if_pos (h1 t ht (Ne.symm e))]
end
end Go.X
namespace Go.X
/-- All cells of the type 'T' but those of one block are as they were. -/
def TkO (T : Nat) (o : Option Nat) (h h' : Heap) : Prop := h.size ≤ h'.size ∧ ∀ (b : Nat) (c : Array Value) (f : Nat × Nat), o ≠ some b → h[b]? = some (.cells c T f) → h'[b]? = some (.cells c T f)
theorem TkO.refl (T : Nat) (o : Option Nat) (h : Heap) : TkO T o h h := ⟨Nat.le_refl _, fun _ _ _ _ hb => hb⟩
theorem TkO.trans {T : Nat} {o : Option Nat} {a b c : Heap} (h : TkO T o a b) (k : TkO T o b c) : TkO T o a c := ⟨Nat.le_trans h.1 k.1, fun i x f ho hb => k.2 i x f ho (h.2 i x f ho hb)⟩
theorem TkO.of_tk {T : Nat} {o : Option Nat} {h h' : Heap} (hx : Tk T h h') : TkO T o h h' := ⟨hx.1, fun b c f _ hb => hx.2.1 b c f hb⟩
theorem TkO.of_chg {T : Nat} {h h' : Heap} {v : Value} (hx : Chg v h h') : TkO T v.ownBlock h h' :=
  ⟨hx.size, fun b c f ho hb => (hx.block b (Array.getElem?_eq_some_iff.1 hb).1 (Ne.symm ho)).trans hb⟩
/-- A slice of another block reads on. -/
theorem TkO.owE {α : Type} {E : Enc α} {T : Nat} {o : Option Nat} {h h' : Heap} (hx : TkO T o h h') {v : Value} {B : Nat} {xs : List α} (ho : OwE E h B T v xs) (hne : ∀ g, v.ownBlock = some g → o ≠ some g) : OwE E h' B T v xs := by
  refine ⟨ho.1, ?_⟩
  rcases ho.2 with h1 | ⟨g, cap, cur, rfl, hB, hg, r⟩
  · exact .inl h1
  · exact .inr ⟨g, cap, cur, rfl, hB, hx.2 g _ _ (hne g rfl) hg, r⟩
theorem Ext.of_chgN {N : Nat} {h h' : Heap} {v : Value} (hx : Chg v h h') (hN : ∀ g, v.ownBlock = some g → N ≤ g) (hs : N ≤ h.size) : Ext N h h' := ⟨hx.size, fun b hb => hx.block b (Nat.lt_of_lt_of_le hb hs) (fun e => by have := hN b e.symm; omega)⟩
/-- The rounds' word: 'o' is the block of the body's own slice. -/
def YieldsO (P : Program) (l T : Nat) (args : Nat → List Value) (N : Nat) (J : Nat → Option Nat → Heap → Prop) : Prop :=
  ∀ k o h1, k < N → J k o h1 → YieldOk P l (args k) h1 fun h2 => ∃ o', TkO T o h1 h2 ∧ (∀ b, o' = some b → o = some b ∨ h1.size ≤ b) ∧ J (k + 1) o' h2
/-- A function that is ranged over, which keeps slices of the type 'T' of its own and turns nothing that was there at a round's end. -/
def SeqO (P : Program) (gf : Nat) (lb : List Value) (T : Nat) (Cap : Heap → Prop) (N : Nat) (args : Nat → List Value) : Prop :=
  ∀ (l : Nat) (h : Heap) (J : Nat → Option Nat → Heap → Prop), (∀ k o h1 h2, J k o h1 → Ext h1.size h1 h2 → J k o h2) → (∀ k o h1, J k o h1 → Cap h1) → (∀ k o h1, J k o h1 → ∀ b, o = some b → b < h1.size) →
    YieldsO P l T args N J → J 0 none h → Fx P gf (.func (.yield l) #[] #[] :: lb) h fun _ h' => h.size ≤ h'.size ∧ ∃ o, J N o h'
end Go.X
namespace Go.X
/-! ### The completion -/
section
variable {n : Nat} {f : Nat → Nat → Bool}
end
/-! ### Fixed elements -/
section
variable {n : Nat} {f : Nat → Nat → Bool} {g : Nat → Nat} (ho : IsO n f) (hg : noGap n f) (hn : 1 ≤ n) (hr : ∀ x, x < n → g x < n) (hm : ∀ x y, x < n → y < n → f x y = true → f (g x) (g y) = true)
include ho hg hn hr hm
end
end Go.X
