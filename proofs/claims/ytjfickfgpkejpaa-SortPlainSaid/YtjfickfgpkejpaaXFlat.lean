/-
  Plain networks; the merge exchange sorts; a network that is made of its layers.
-/
import Derived.Test.YtjfickfgpkejpaaXLay
set_option linter.unusedSimpArgs false
set_option linter.unusedVariables false
namespace Go.X
/-! ### Plain networks -/
def PlainNet (m : Nat) (ls : List (Int × Int)) : Prop := ∀ c ∈ ls, ∃ a : Nat, c = ((a : Int), ((a + 1 : Nat) : Int)) ∧ a + 1 < m
theorem PlainNet.lt {m : Nat} {ls : List (Int × Int)} (h : PlainNet m ls) : NetLt m ls := fun c hc => by
  obtain ⟨a, e, h1⟩ := h c hc
  exact ⟨a, a + 1, e, by omega, h1⟩
theorem PlainNet.nil (m : Nat) : PlainNet m [] := fun c hc => by cases hc
theorem PlainNet.snoc {m a : Nat} {ls : List (Int × Int)} (h : PlainNet m ls) (ha : a + 1 < m) : PlainNet m (ls ++ [((a : Int), ((a + 1 : Nat) : Int))]) := fun c hc => by
  rw [List.mem_append, List.mem_singleton] at hc
  rcases hc with hc | hc
  · exact h c hc
  · exact ⟨a, hc, ha⟩
/-- What runs along with falling values. -/
def PInv (x y : List Int) : Prop := x.length = y.length ∧ ∀ i j, i < j → j < x.length → gt x i ≠ gt x j ∧ (gt x i < gt x j → gt y i ≤ gt y j)
theorem PInv.step {x y : List Int} {k : Nat} (h : PInv x y) (hk : k + 1 < x.length) : PInv (exch x k (k + 1)) (exch y k (k + 1)) := by
  obtain ⟨hl, hi⟩ := h
  refine ⟨by rw [exch_length, exch_length, hl], fun i j hij hj => ?_⟩
  rw [exch_length] at hj
  have gx := gt_exch (xs := x) (i := k) (j := k + 1) (by omega) hk (by omega)
  have gy := gt_exch (xs := y) (i := k) (j := k + 1) (by omega) (by omega) (by omega)
  rw [gx i, gx j, gy i, gy j]
  have h0 := hi k (k + 1) (by omega) hk
  by_cases c1 : i = k
  · by_cases c2 : j = k + 1
    · rw [if_pos c1, if_neg (by omega), if_pos c2, if_pos c1, if_neg (by omega), if_pos c2]; omega
    · have h1 := hi k j (by omega) hj
      have h2 := hi (k + 1) j (by omega) hj
      rw [if_pos c1, if_neg (by omega), if_neg c2, if_pos c1, if_neg (by omega), if_neg c2]; omega
  · by_cases c2 : i = k + 1
    · have h1 := hi k j (by omega) hj
      have h2 := hi (k + 1) j (by omega) hj
      rw [if_neg c1, if_pos c2, if_neg (by omega), if_neg (by omega), if_neg c1, if_pos c2, if_neg (by omega), if_neg (by omega)]; omega
    · rw [if_neg c1, if_neg c2, if_neg c1, if_neg c2]
      by_cases c3 : j = k
      · have h1 := hi i k (by omega) (by omega)
        have h2 := hi i (k + 1) (by omega) hk
        rw [if_pos c3, if_pos c3]; omega
      · by_cases c4 : j = k + 1
        · have h1 := hi i k (by omega) (by omega)
          have h2 := hi i (k + 1) (by omega) hk
          rw [if_neg c3, if_pos c4, if_neg c3, if_pos c4]; omega
        · rw [if_neg c3, if_neg c4, if_neg c3, if_neg c4]; exact hi i j hij hj
theorem PInv.run {m : Nat} : ∀ {ls : List (Int × Int)} {x y : List Int}, PlainNet m ls → x.length = m → PInv x y → PInv (runV ls x) (runV ls y)
  | [], _, _, _, _, h => h
  | c :: cs, x, y, hp, hl, h => by
    obtain ⟨a, rfl, ha⟩ := hp c (List.mem_cons_self ..)
    unfold runV
    simp only [Int.toNat_natCast]
    exact PInv.run (fun d hd => hp d (List.mem_cons_of_mem _ hd)) (by rw [exch_length]; exact hl) (h.step (by omega))
theorem gt_falling {m i : Nat} (hi : i < m) : gt (valuesF m []) i = (m : Int) - (i : Int) := by
  rw [gt_eq (by rw [valuesF_length]; exact hi)]; simp [valuesF]
/-- A plain network that puts falling values in order sorts. -/
theorem plain_sorts {m : Nat} {ls : List (Int × Int)} (hp : PlainNet m ls) (hx : inOrd (runV ls (valuesF m [])) = true) : ∀ q, q < 2 ^ m → badC m (colF ls m q) = false :=
  no_bad hp.lt.ok fun y hy => by
    have h0 : PInv (valuesF m []) y := ⟨by rw [valuesF_length, hy], fun i j hij hj => by
      rw [valuesF_length] at hj
      rw [gt_falling (by omega), gt_falling hj]; omega⟩
    obtain ⟨h1, h2⟩ := PInv.run hp (valuesF_length m []) h0
    intro i hi
    have h3 := (inOrd_iff _).1 hx i (by rw [h1]; exact hi)
    have h4 := h2 i (i + 1) (by omega) (by rw [h1]; exact hi)
    exact h4.2 (by omega)
theorem plain_law {m p : Nat} {b : Bool} {ls : List (Int × Int)} (hp : PlainNet m ls) (hf : failsR m (colF ls m) p b) : b = !inOrd (runV ls (valuesF m [])) := by
  cases hb : b
  · subst hb
    rw [sorted_one (zero_one hp.lt.ok (valuesF_length m []) (no_fails hf))]; rfl
  · subst hb
    cases hx : inOrd (runV ls (valuesF m []))
    · rfl
    · have := fails_no hf (plain_sorts hp hx); cases this
/-! ### Layers -/
def avoids (w : Nat) (c : Int × Int) : Prop := c.1.toNat ≠ w ∧ c.2.toNat ≠ w
def apartC (c d : Int × Int) : Prop := avoids c.1.toNat d ∧ avoids c.2.toNat d
theorem exF_comm {f : WF} {a b c d : Nat} (h1 : c ≠ a) (h2 : c ≠ b) (h3 : d ≠ a) (h4 : d ≠ b) : exF (exF f a b) c d = exF (exF f c d) a b := by
  funext i p
  unfold exF
  by_cases e1 : i = c
  · subst e1; simp [h1, h2, h3, h4]
  · by_cases e2 : i = d
    · subst e2; simp [h1, h2, h3, h4, e1]
    · by_cases e3 : i = a
      · subst e3; simp [e1, e2, Ne.symm h1, Ne.symm h2, Ne.symm h3, Ne.symm h4]
      · by_cases e4 : i = b
        · subst e4; simp [e1, e2, e3, Ne.symm h1, Ne.symm h2, Ne.symm h3, Ne.symm h4]
        · simp [e1, e2, e3, e4]
theorem run_past {c : Int × Int} : ∀ {ds : List (Int × Int)} {f : WF}, (∀ d ∈ ds, apartC c d) → runF (c :: ds) f = runF (ds ++ [c]) f
  | [], _, _ => rfl
  | d :: ds, f, h => by
    obtain ⟨⟨h1, h2⟩, ⟨h3, h4⟩⟩ := h d (List.mem_cons_self ..)
    have := run_past (c := c) (ds := ds) (f := exF f d.1.toNat d.2.toNat) fun e he => h e (List.mem_cons_of_mem _ he)
    unfold runF at this
    show runF ds (exF (exF f c.1.toNat c.2.toNat) d.1.toNat d.2.toNat) = runF (ds ++ [c]) (exF f d.1.toNat d.2.toNat)
    rw [exF_comm h1 h3 h2 h4]
    cases ds <;> exact this
theorem run_insert {xs ys : List (Int × Int)} {c : Int × Int} {f : WF} (h : ∀ d ∈ ys, apartC c d) : runF (xs ++ ([c] ++ ys)) f = runF (xs ++ ys ++ [c]) f := by
  rw [runF_append xs, List.append_assoc, runF_append xs]
  exact run_past h
theorem gtY_mem {Y : List (List (Int × Int))} {j : Nat} {d : Int × Int} (h : d ∈ gt Y j) : j < Y.length := by
  rcases Nat.lt_or_ge j Y.length with c | c
  · exact c
  · unfold gt at h
    rw [List.getD_eq_getElem?_getD, List.getElem?_eq_none c] at h
    cases h
/-- What is known of the layers. -/
structure LayI (ls : List (Int × Int)) (k : Nat) (Y : List (List (Int × Int))) : Prop where
  free : ∀ w j, laF ls k w ≤ j → ∀ d ∈ gt Y j, avoids w d
  disj : ∀ j p q, p < q → q < (gt Y j).length → apartC (gt (gt Y j) q) (gt (gt Y j) p)
  run : ∀ f, runF Y.flatten f = runF (ls.take k) f
  len : Y.flatten.length = k
  mem : ∀ j, ∀ d ∈ gt Y j, d ∈ ls
theorem gt_padY {Y : List (List (Int × Int))} {a j : Nat} : gt (padY Y a) j = gt Y j := by
  unfold padY
  split
  · by_cases c : j < Y.length
    · rw [gt_append_left c]
    · by_cases c2 : j = Y.length
      · subst c2; rw [gt_append_right]; unfold gt; rw [List.getD_eq_getElem?_getD, List.getElem?_eq_none (Nat.le_refl _)]; rfl
      · unfold gt
        rw [List.getD_eq_getElem?_getD, List.getElem?_eq_none (by simp; omega), List.getD_eq_getElem?_getD, List.getElem?_eq_none (by omega)]
  · rfl
theorem flat_padY {Y : List (List (Int × Int))} {a : Nat} : (padY Y a).flatten = Y.flatten := by
  unfold padY; split <;> simp
theorem flat_set2 {Z : List (List (Int × Int))} {a : Nat} {c : Int × Int} (ha : a < Z.length) : ∃ xs ys, (Z.set a (gt Z a ++ [c])).flatten = xs ++ ([c] ++ ys) ∧ Z.flatten = xs ++ ys ∧ ∀ d ∈ ys, ∃ j, a < j ∧ d ∈ gt Z j := by
  refine ⟨(Z.take a).flatten ++ gt Z a, (Z.drop (a + 1)).flatten, ?_, ?_, fun d hd => ?_⟩
  · rw [List.set_eq_take_append_cons_drop, if_pos ha]; simp
  · have : Z = Z.take a ++ (gt Z a :: Z.drop (a + 1)) := by
      rw [gt_eq ha, List.getElem_cons_drop, List.take_append_drop]
    conv => lhs; rw [this]
    simp
  · rw [List.mem_flatten] at hd
    obtain ⟨l, hl, hdl⟩ := hd
    obtain ⟨i, hi, rfl⟩ := mem_gt hl
    refine ⟨a + 1 + i, by omega, ?_⟩
    rw [List.length_drop] at hi
    have e : gt (Z.drop (a + 1)) i = gt Z (a + 1 + i) := by
      rw [gt_eq (by rw [List.length_drop]; exact hi), gt_eq (by omega), List.getElem_drop]
    rw [← e]; exact hdl
theorem layI {ls : List (Int × Int)} : ∀ {k : Nat}, k ≤ ls.length → LayI ls k (outY ls k)
  | 0, _ => ⟨fun w j _ d hd => (by cases hd), fun j p q _ hq => absurd hq (Nat.not_lt_zero _), fun f => (by simp [outY]), rfl, fun j d hd => (by cases hd)⟩
  | k + 1, hk => by
    have ih := layI (ls := ls) (k := k) (by omega)
    have ha := atF_le ls k
    have hp := padY_length _ _ ha
    have hat1 : laF ls k (gt ls k).1.toNat ≤ atF ls k := by unfold atF; omega
    have hat2 : laF ls k (gt ls k).2.toNat ≤ atF ls k := by unfold atF; omega
    have hg : ∀ j, gt (outY ls (k + 1)) j = if j = atF ls k then gt (outY ls k) j ++ [gt ls k] else gt (outY ls k) j := fun j => by
      show gt ((padY (outY ls k) (atF ls k)).set _ _) j = _
      rw [gt_set hp.1, gt_padY, gt_padY]
      split
      · rename_i e; rw [e]
      · rfl
    obtain ⟨xs, ys, e1, e2, e3⟩ := flat_set2 (Z := padY (outY ls k) (atF ls k)) (c := gt ls k) hp.1
    have hys : ∀ d ∈ ys, apartC (gt ls k) d := fun d hd => by
      obtain ⟨j, hj, hdj⟩ := e3 d hd
      rw [gt_padY] at hdj
      exact ⟨ih.free _ j (by omega) d hdj, ih.free _ j (by omega) d hdj⟩
    rw [flat_padY] at e2
    refine ⟨fun w j hj d hd => ?_, fun j p q hpq hq => ?_, fun f => ?_, ?_, fun j d hd => ?_⟩
    · rw [laF_succ] at hj
      rw [hg] at hd
      by_cases c : w = (gt ls k).1.toNat ∨ w = (gt ls k).2.toNat
      · rw [if_pos c] at hj
        rw [if_neg (by omega)] at hd
        refine ih.free w j ?_ d hd
        rcases c with rfl | rfl <;> omega
      · rw [if_neg c] at hj
        split at hd
        · rw [List.mem_append, List.mem_singleton] at hd
          rcases hd with hd | rfl
          · exact ih.free w j hj d hd
          · exact ⟨fun e => c (.inl e.symm), fun e => c (.inr e.symm)⟩
        · exact ih.free w j hj d hd
    · rw [hg] at hq ⊢
      split at hq
      · rename_i e
        rw [if_pos e]
        rw [List.length_append, List.length_singleton] at hq
        by_cases c : q < (gt (outY ls k) j).length
        · rw [gt_append_left c, gt_append_left (by omega)]; exact ih.disj j p q hpq c
        · have e' : q = (gt (outY ls k) j).length := by omega
          subst e'
          rw [gt_append_right, gt_append_left hpq]
          exact ⟨ih.free _ j (by omega) _ (gt_mem hpq), ih.free _ j (by omega) _ (gt_mem hpq)⟩
      · rename_i e
        rw [if_neg e]; exact ih.disj j p q hpq hq
    · show runF ((padY (outY ls k) (atF ls k)).set _ _).flatten f = _
      rw [e1, run_insert hys, ← e2, runF_append, ih.run, take_snoc (by omega), runF_append]
    · show ((padY (outY ls k) (atF ls k)).set _ _).flatten.length = _
      have := congrArg List.length e2
      rw [ih.len] at this
      rw [e1]; simp at this ⊢; omega
    · rw [hg] at hd
      split at hd
      · rw [List.mem_append, List.mem_singleton] at hd
        rcases hd with hd | rfl
        · exact ih.mem j d hd
        · exact gt_mem (by omega)
      · exact ih.mem j d hd
/-- The same patterns come out. -/
theorem outs_congr {n : Nat} {ls ms : List (Int × Int)} (h : ∀ f, runF ls f = runF ms f) : outsF n ls = outsF n ms := by
  unfold outsF
  refine filtF_congr fun q _ => ?_
  unfold outB colP
  rw [h]
/-- The wires of the first comparators of a layer, as bits. -/
def usedF (l : List (Int × Int)) : Nat → Nat
  | 0 => 0
  | k + 1 => usedF l k ||| (1 * 2 ^ (gt l k).1.toNat ||| 1 * 2 ^ (gt l k).2.toNat)
theorem usedF_bit {l : List (Int × Int)} {w : Nat} : ∀ {k : Nat}, (usedF l k).testBit w = true → ∃ p, p < k ∧ ((gt l p).1.toNat = w ∨ (gt l p).2.toNat = w)
  | 0, h => by simp [usedF] at h
  | k + 1, h => by
    unfold usedF at h
    rw [Nat.testBit_or, Nat.testBit_or, Nat.one_mul, Nat.one_mul, Nat.testBit_two_pow, Nat.testBit_two_pow, Bool.or_eq_true, Bool.or_eq_true] at h
    rcases h with h | h | h
    · obtain ⟨p, hp, e⟩ := usedF_bit h
      exact ⟨p, by omega, e⟩
    · exact ⟨k, by omega, .inl (by simpa using h)⟩
    · exact ⟨k, by omega, .inr (by simpa using h)⟩
theorem used_and {l : List (Int × Int)} {k a b : Nat} (hk : k < l.length) (hd : ∀ p q, p < q → q < l.length → apartC (gt l q) (gt l p)) (hc : gt l k = ((a : Int), (b : Int))) : usedF l k &&& (1 * 2 ^ a ||| 1 * 2 ^ b) = 0 := by
  refine Nat.eq_of_testBit_eq fun w => ?_
  rw [Nat.testBit_and, Nat.testBit_or, Nat.one_mul, Nat.one_mul, Nat.testBit_two_pow, Nat.testBit_two_pow, Nat.zero_testBit]
  cases h : (usedF l k).testBit w
  · rfl
  · obtain ⟨p, hp, e⟩ := usedF_bit h
    obtain ⟨⟨h1, h2⟩, ⟨h3, h4⟩⟩ := hd p k hp hk
    rw [hc] at h1 h2 h3 h4
    simp only [Int.toNat_natCast] at h1 h2 h3 h4
    have ha : a ≠ w := fun e' => by subst e'; rcases e with e | e <;> contradiction
    have hb : b ≠ w := fun e' => by subst e'; rcases e with e | e <;> contradiction
    simp [ha, hb]
theorem usedF_lt {l : List (Int × Int)} (hl : ∀ p, p < l.length → (gt l p).1.toNat < 10 ∧ (gt l p).2.toNat < 10) : ∀ {k : Nat}, k ≤ l.length → usedF l k < 2 ^ 10
  | 0, _ => by simp [usedF]
  | k + 1, hk => by
    have h1 := usedF_lt hl (k := k) (by omega)
    obtain ⟨h2, h3⟩ := hl k (by omega)
    unfold usedF
    have p1 : 1 * 2 ^ (gt l k).1.toNat < 2 ^ 10 := by rw [Nat.one_mul]; exact Nat.pow_lt_pow_right (by omega) h2
    have p2 : 1 * 2 ^ (gt l k).2.toNat < 2 ^ 10 := by rw [Nat.one_mul]; exact Nat.pow_lt_pow_right (by omega) h3
    exact Nat.or_lt_two_pow h1 (Nat.or_lt_two_pow p1 p2)
/-- The first layers, one behind the other. -/
def flatF (Y : List (List (Int × Int))) (k j : Nat) : List (Int × Int) := (Y.take k).flatten ++ (gt Y k).take j
theorem flatF_snoc {Y : List (List (Int × Int))} {k j : Nat} (hj : j < (gt Y k).length) : flatF Y k j ++ [gt (gt Y k) j] = flatF Y k (j + 1) := by
  unfold flatF; rw [List.append_assoc, take_snoc hj]
theorem flatF_next {Y : List (List (Int × Int))} {k : Nat} (hk : k < Y.length) : flatF Y k (gt Y k).length = flatF Y (k + 1) 0 := by
  unfold flatF; rw [List.take_length, take_snoc hk]; simp
theorem flatF_all {Y : List (List (Int × Int))} : flatF Y Y.length 0 = Y.flatten := by simp [flatF]
theorem flatF_len {Y : List (List (Int × Int))} {k j : Nat} (hk : k < Y.length) (hj : j ≤ (gt Y k).length) : (flatF Y k j).length ≤ Y.flatten.length := by
  have : Y = Y.take k ++ (gt Y k :: Y.drop (k + 1)) := by
    rw [gt_eq hk, List.getElem_cons_drop, List.take_append_drop]
  have e := congrArg (fun l => l.flatten.length) this
  simp only [List.flatten_append, List.flatten_cons, List.length_append] at e
  rw [e]
  unfold flatF
  rw [List.length_append, List.length_take]
  omega
end Go.X
