/-
  The completion of an order, plain: the sets that are all that is at most all that is at least all of them.
-/
import Derived.Test.YtdokijbdnajhgaaXAnti
import Derived.Test.YtdokijbdnajhgaaXMapO
set_option linter.unusedSimpArgs false
set_option linter.unusedVariables false
namespace Go.X
def uppS (n : Nat) (f : Nat → Nat → Bool) (s : Nat) : Nat := colN n fun z => (List.range n).all fun q => !s.testBit q || f q z
def lowS (n : Nat) (f : Nat → Nat → Bool) (s : Nat) : Nat := colN n fun z => (List.range n).all fun q => !s.testBit q || f z q
theorem uppS_lt (n : Nat) (f : Nat → Nat → Bool) (s : Nat) : uppS n f s < 2 ^ n := colN_lt n _
theorem lowS_lt (n : Nat) (f : Nat → Nat → Bool) (s : Nat) : lowS n f s < 2 ^ n := colN_lt n _
theorem uppS_bit {n s z : Nat} {f : Nat → Nat → Bool} : (uppS n f s).testBit z = true ↔ z < n ∧ ∀ q, q < n → s.testBit q = true → f q z = true := by
  unfold uppS
  rw [colN_bit, Bool.and_eq_true, decide_eq_true_iff, rall_iff]
  exact ⟨fun h => ⟨h.1, fun q hq hb => by have := h.2 q hq; rw [hb] at this; simpa using this⟩, fun h => ⟨h.1, fun q hq => by
    cases hb : s.testBit q
    · rfl
    · rw [h.2 q hq hb]; rfl⟩⟩
theorem lowS_bit {n s z : Nat} {f : Nat → Nat → Bool} : (lowS n f s).testBit z = true ↔ z < n ∧ ∀ q, q < n → s.testBit q = true → f z q = true := by
  unfold lowS
  rw [colN_bit, Bool.and_eq_true, decide_eq_true_iff, rall_iff]
  exact ⟨fun h => ⟨h.1, fun q hq hb => by have := h.2 q hq; rw [hb] at this; simpa using this⟩, fun h => ⟨h.1, fun q hq => by
    cases hb : s.testBit q
    · rfl
    · rw [h.2 q hq hb]; rfl⟩⟩
def cutF (n : Nat) (f : Nat → Nat → Bool) (s : Nat) : Nat := lowS n f (uppS n f s)
def cutB (n : Nat) (f : Nat → Nat → Bool) (s : Nat) : Bool := cutF n f s == s
theorem cutF_lt (n : Nat) (f : Nat → Nat → Bool) (s : Nat) : cutF n f s < 2 ^ n := lowS_lt n f _
theorem upp_low_upp (n : Nat) (f : Nat → Nat → Bool) (s : Nat) : uppS n f (lowS n f (uppS n f s)) = uppS n f s := by
  apply Nat.eq_of_testBit_eq
  intro z
  rw [Bool.eq_iff_iff, uppS_bit, uppS_bit]
  constructor
  · rintro ⟨hz, h⟩
    refine ⟨hz, fun q hq hb => h q hq (lowS_bit.2 ⟨hq, fun w hw hb2 => (uppS_bit.1 hb2).2 q hq hb⟩)⟩
  · rintro ⟨hz, h⟩
    exact ⟨hz, fun q hq hb => (lowS_bit.1 hb).2 z hz (uppS_bit.2 ⟨hz, h⟩)⟩
theorem cut_cut (n : Nat) (f : Nat → Nat → Bool) (s : Nat) : cutB n f (cutF n f s) = true := by
  unfold cutB cutF
  rw [upp_low_upp]
  exact beq_self_eq_true _
theorem cut_mem {n : Nat} {f : Nat → Nat → Bool} {x : Int} : (∃ s, s < 2 ^ n ∧ x = ((cutF n f s : Nat) : Int)) ↔ ∃ q : Nat, q < 2 ^ n ∧ cutB n f q = true ∧ (q : Int) = x := by
  constructor
  · rintro ⟨s, hs, rfl⟩
    exact ⟨_, cutF_lt n f s, cut_cut n f s, rfl⟩
  · rintro ⟨q, hq, h, rfl⟩
    exact ⟨q, hq, by unfold cutB at h; rw [beq_iff_eq] at h; rw [h]⟩
def cutsF (n : Nat) (f : Nat → Nat → Bool) : List Int := filtF (2 ^ n) (cutB n f)
theorem cut_down {n x : Nat} {f : Nat → Nat → Bool} (ho : IsO n f) (hx : x < n) : cutB n f (dnF n f x) = true := by
  unfold cutB cutF
  rw [beq_iff_eq]
  apply Nat.eq_of_testBit_eq
  intro z
  rw [Bool.eq_iff_iff, lowS_bit, dnF_bit, Bool.and_eq_true, decide_eq_true_iff]
  constructor
  · rintro ⟨hz, h⟩
    exact ⟨hz, h x hx (uppS_bit.2 ⟨hx, fun q hq hb => by rw [dnF_bit, Bool.and_eq_true] at hb; exact hb.2⟩)⟩
  · rintro ⟨hz, h⟩
    exact ⟨hz, fun q hq hb => (uppS_bit.1 hb).2 z hz (by rw [dnF_bit, h, decide_eq_true hz]; rfl)⟩
/-- What is common, as it is gone through. -/
def cmF (n s : Nat) (F : Nat → Nat) (x : Nat) : Nat := colN n fun z => (List.range x).all fun q => !s.testBit q || (F q).testBit z
theorem cmF_lt (n s : Nat) (F : Nat → Nat) (x : Nat) : cmF n s F x < 2 ^ n := colN_lt n _
theorem cmF_zero (n s : Nat) (F : Nat → Nat) : cmF n s F 0 = 2 ^ n - 1 := by
  apply Nat.eq_of_testBit_eq
  intro i
  unfold cmF
  rw [colN_bit, Nat.testBit_two_pow_sub_one, rall_zero, Bool.and_true]
theorem cmF_yes {n s x : Nat} {F : Nat → Nat} (h : s.testBit x = true) : cmF n s F x &&& F x = cmF n s F (x + 1) := by
  apply Nat.eq_of_testBit_eq
  intro i
  unfold cmF
  rw [Nat.testBit_and, colN_bit, colN_bit, rall_succ, h, Bool.not_true, Bool.false_or, Bool.and_assoc]
theorem cmF_no {n s x : Nat} {F : Nat → Nat} (h : s.testBit x = false) : cmF n s F x = cmF n s F (x + 1) := by
  unfold cmF
  refine colN_congr fun i _ => ?_
  rw [rall_succ, h]; simp
theorem cmF_up (n s : Nat) (f : Nat → Nat → Bool) : cmF n s (upF n f) n = uppS n f s := colN_congr fun z hz => by
  rw [Bool.eq_iff_iff, rall_iff, rall_iff]
  exact ⟨fun h q hq => by have := h q hq; rwa [upF_bit, decide_eq_true hz, Bool.true_and] at this, fun h q hq => by rw [upF_bit, decide_eq_true hz, Bool.true_and]; exact h q hq⟩
theorem cmF_dn (n s : Nat) (f : Nat → Nat → Bool) : cmF n s (dnF n f) n = lowS n f s := colN_congr fun z hz => by
  rw [Bool.eq_iff_iff, rall_iff, rall_iff]
  exact ⟨fun h q hq => by have := h q hq; rwa [dnF_bit, decide_eq_true hz, Bool.true_and] at this, fun h q hq => by rw [dnF_bit, decide_eq_true hz, Bool.true_and]; exact h q hq⟩
/-! ### Sets of keys -/
def kv (ks : List Int) : List (Int × Value) := ks.map fun k => (k, .bool true)
def insK (ks : List Int) (k : Int) : List Int := if k ∈ ks then ks else ks ++ [k]
theorem kv_len (ks : List Int) : (kv ks).length = ks.length := by simp [kv]
theorem kv_get {ks : List Int} {i : Nat} {k : Int} {v : Value} (h : (kv ks)[i]? = some (k, v)) : gt ks i = k := by
  unfold kv at h
  rw [List.getElem?_map] at h
  cases hi : ks[i]? with
  | none => rw [hi] at h; cases h
  | some a =>
    rw [hi] at h
    simp only [Option.map_some, Option.some.injEq, Prod.mk.injEq] at h
    unfold gt; simp [List.getD, hi, h.1]
theorem putM_kv (ks : List Int) (k : Int) : putM (kv ks) k (.bool true) = kv (insK ks k) := by
  unfold putM insK
  cases hi : idxM (kv ks) k with
  | none =>
    have h := idxM_none hi
    rw [if_neg fun hm => h (k, .bool true) (List.mem_map.2 ⟨k, hm, rfl⟩) rfl]
    simp [kv]
  | some i =>
    obtain ⟨hil, v, hv⟩ := idxM_some hi
    have hg := kv_get hv
    have hil' : i < ks.length := by rwa [kv_len] at hil
    have hm : k ∈ ks := by rw [← hg]; exact gt_mem hil'
    rw [if_pos hm]
    show (kv ks).set i (k, .bool true) = kv ks
    apply List.ext_getElem?
    intro j
    rw [List.getElem?_set]
    by_cases e : i = j
    · subst e
      rw [if_pos rfl, if_pos hil, hv]
      have : v = .bool true := by
        have h9 : (k, v) ∈ kv ks := List.mem_of_getElem? hv
        obtain ⟨a, _, h8⟩ := List.mem_map.1 h9
        exact (Prod.mk.inj h8).2.symm
      rw [this]
    · rw [if_neg e]
theorem insK_mem {ks : List Int} {k x : Int} : x ∈ insK ks k ↔ x ∈ ks ∨ x = k := by
  unfold insK
  split
  · rename_i h
    exact ⟨.inl, fun h' => h'.elim id fun e => e ▸ h⟩
  · simp
theorem insK_nodup {ks : List Int} {k : Int} (h : ks.Nodup) : (insK ks k).Nodup := by
  unfold insK
  split
  · exact h
  · rename_i hk
    rw [List.nodup_append]
    exact ⟨h, by simp, fun a ha b hb => by simp at hb; subst hb; exact fun e => hk (e ▸ ha)⟩
/-- Two rising lists with the same members are the same. -/
theorem asc_same : ∀ {xs ys : List Int}, xs.Pairwise (· < ·) → ys.Pairwise (· < ·) → (∀ x, x ∈ xs ↔ x ∈ ys) → xs = ys
  | [], [], _, _, _ => rfl
  | [], y :: ys, _, _, h => by have := (h y).2 (List.mem_cons_self ..); cases this
  | x :: xs, [], _, _, h => by have := (h x).1 (List.mem_cons_self ..); cases this
  | x :: xs, y :: ys, h1, h2, h => by
    rw [List.pairwise_cons] at h1 h2
    have e : x = y := by
      rcases List.mem_cons.1 ((h x).1 (List.mem_cons_self ..)) with e | hm
      · exact e
      · rcases List.mem_cons.1 ((h y).2 (List.mem_cons_self ..)) with e | hm2
        · exact e.symm
        · have := h2.1 x hm; have := h1.1 y hm2; omega
    subst e
    rw [asc_same h1.2 h2.2 fun z => ?_]
    constructor
    · intro hz
      rcases List.mem_cons.1 ((h z).1 (List.mem_cons_of_mem _ hz)) with e | hm
      · subst e; have := h1.1 z hz; omega
      · exact hm
    · intro hz
      rcases List.mem_cons.1 ((h z).2 (List.mem_cons_of_mem _ hz)) with e | hm
      · subst e; have := h2.1 z hz; omega
      · exact hm
theorem sort_filt {N : Nat} {f : Nat → Bool} {xs : List Int} (hn : xs.Nodup) (h : ∀ x, x ∈ xs ↔ ∃ q : Nat, q < N ∧ f q = true ∧ (q : Int) = x) : (xs.mergeSort fun x y => decide (x ≤ y)) = filtF N f := by
  obtain ⟨h1, h2⟩ := sort_asc xs
  refine asc_same ?_ (filtF_asc N f) fun x => by rw [h2, h, filtF_mem]
  have h3 : (xs.mergeSort fun x y => decide (x ≤ y)).Nodup := (List.mergeSort_perm xs _).nodup_iff.2 hn
  exact (h1.and h3).imp fun ⟨a, b⟩ => by omega
/-- Where a set stands among the rising ones. -/
theorem count_at {N : Nat} {f : Nat → Bool} {q : Nat} (hq : q < N) (hf : f q = true) : (filtF N f).countP (fun x => decide (x < (q : Int))) = (filtF q f).length := by
  obtain ⟨r, hr⟩ := filtF_pre (f := f) (w := q) (N - q)
  rw [show q + (N - q) = N from by omega] at hr
  have hasc := filtF_asc N f
  rw [hr, List.countP_append]
  have h1 : (filtF q f).countP (fun x => decide (x < (q : Int))) = (filtF q f).length := by
    rw [List.countP_eq_length]
    intro x hx
    obtain ⟨a, ha, _, rfl⟩ := filtF_mem.1 hx
    simpa using ha
  have h2 : r.countP (fun x => decide (x < (q : Int))) = 0 := by
    rw [List.countP_eq_zero]
    intro x hx hlt
    have hx2 : x ∈ filtF N f := by rw [hr]; exact List.mem_append_right _ hx
    obtain ⟨a, ha, hfa, rfl⟩ := filtF_mem.1 hx2
    have ha2 : a < q := by simpa using hlt
    have hin : (a : Int) ∈ filtF q f := filtF_mem.2 ⟨a, ha2, hfa, rfl⟩
    rw [hr, List.pairwise_append] at hasc
    have := hasc.2.2 _ hin _ hx
    omega
  omega
/-- The places of the elements in the completion. -/
def placesF (n : Nat) (f : Nat → Nat → Bool) (k : Nat) : List Int := (List.range k).map fun x => (((cutsF n f).countP (fun y => decide (y < (dnF n f x : Int))) : Nat) : Int)
theorem placesF_succ (n : Nat) (f : Nat → Nat → Bool) (k : Nat) : placesF n f (k + 1) = placesF n f k ++ [(((cutsF n f).countP (fun y => decide (y < (dnF n f k : Int))) : Nat) : Int)] := by simp [placesF, List.range_succ]
theorem placesF_len (n : Nat) (f : Nat → Nat → Bool) (k : Nat) : (placesF n f k).length = k := by simp [placesF]
theorem seen_le {sn : List Nat} {N : Nat} (hn : sn.Nodup) (hs : ∀ i, i ∈ sn → i < N) : sn.length ≤ N := by
  have := nodup_le (l' := List.range N) hn fun x hx => List.mem_range.2 (hs x hx)
  simpa using this
theorem seen_snoc {sn : List Nat} {N i : Nat} (hn : sn.Nodup) (hs : ∀ i, i ∈ sn → i < N) (hi : i < N) (hni : i ∉ sn) : (sn ++ [i]).Nodup ∧ (∀ j, j ∈ sn ++ [i] → j < N) ∧ sn.length < N := by
  have h1 : (sn ++ [i]).Nodup := by
    rw [List.nodup_append]
    exact ⟨hn, by simp, fun a ha b hb => by simp at hb; subst hb; exact fun e => hni (e ▸ ha)⟩
  have h2 : ∀ j, j ∈ sn ++ [i] → j < N := fun j hj => by
    rcases List.mem_append.1 hj with h | h
    · exact hs j h
    · simp at h; omega
  exact ⟨h1, h2, by have := seen_le h1 h2; simp at this; omega⟩
/-- What has come out of the map. -/
theorem out_sorted {n : Nat} {f : Nat → Nat → Bool} {ks : List Int} {sn : List Nat} (hks : ∀ x : Int, x ∈ ks ↔ ∃ s, s < 2 ^ n ∧ x = ((cutF n f s : Nat) : Int)) (hkn : ks.Nodup) (hn : sn.Nodup) (hs : ∀ i, i ∈ sn → i < ks.length) (hall : ∀ i, i < ks.length → i ∈ sn) :
    ((sn.map fun i => gt ks i).mergeSort fun x y => decide (x ≤ y)) = cutsF n f := by
  refine sort_filt (nodup_map hn fun x y hx hy e => ?_) fun x => ?_
  · have hx' := hs x hx; have hy' := hs y hy
    rw [gt_eq hx', gt_eq hy'] at e
    exact (List.getElem_inj hkn).1 e
  · rw [← cut_mem, ← hks, List.mem_map]
    constructor
    · rintro ⟨i, hi, rfl⟩; exact gt_mem (hs i hi)
    · intro hx
      obtain ⟨i, hi, e⟩ := mem_gt hx
      exact ⟨i, hall i hi, e⟩
theorem cutsF_asc (n : Nat) (f : Nat → Nat → Bool) : (cutsF n f).Pairwise (· ≤ ·) := (filtF_asc _ _).imp fun h => by omega
theorem cutsF_ne (n : Nat) (f : Nat → Nat → Bool) : cutsF n f ≠ [] := fun e => by
  have : ((cutF n f 0 : Nat) : Int) ∈ cutsF n f := filtF_mem.2 ⟨_, cutF_lt n f 0, cut_cut n f 0, rfl⟩
  rw [e] at this; cases this
theorem cutsF_nb {n : Nat} {f : Nat → Nat → Bool} (hn : n ≤ 12) : (cutsF n f).length ≤ 4096 ∧ ∀ i, i < (cutsF n f).length → 0 ≤ gt (cutsF n f) i ∧ gt (cutsF n f) i < 4096 := by
  have hp := pow12 hn
  exact ⟨Nat.le_trans (filtF_length _ _) hp, fun i hi => by obtain ⟨a, h1, h2, _⟩ := filtF_gt hi; show 0 ≤ gt (filtF _ _) i ∧ gt (filtF _ _) i < 4096; rw [h1]; omega⟩
theorem keys_le {n t : Nat} {f : Nat → Nat → Bool} {ks : List Int} (hn : n ≤ 12) (hd : ks.Nodup) (hks : ∀ x : Int, x ∈ ks ↔ ∃ s, s < t ∧ x = ((cutF n f s : Nat) : Int)) : ks.length ≤ 4096 := by
  have h := nodup_le (l' := (List.range (2 ^ n)).map fun q : Nat => (q : Int)) hd fun x hx => by
    obtain ⟨s, _, rfl⟩ := (hks x).1 hx
    exact List.mem_map.2 ⟨_, List.mem_range.2 (cutF_lt n f s), rfl⟩
  rw [List.length_map, List.length_range] at h
  have := pow12 hn
  omega
end Go.X
