/-
  Texts in one: XNet, XLoose, XRunV, XGaps, XGale, XZero, XMake, XOut, XSet, OF, XWith, OI, OJ, OG, XAnti, XMu, XIns, OV, OW, XMoe, OX, OY, XLat, XLatS.
-/
import Derived.Test.YtdokijbdnajhgaaMBir2
import Derived.Lib.SlicesCompact
set_option linter.unusedSimpArgs false
set_option linter.unusedVariables false
namespace Go.X

theorem bit_and_one (a i : Nat) : (a / 2 ^ i &&& 1) = if a.testBit i then 1 else 0 := by
  rw [Nat.and_one_is_mod, Nat.testBit_eq_decide_div_mod_eq]
  have := Nat.mod_two_eq_zero_or_one (a / 2 ^ i)
  rcases this with h | h <;> simp [h]

/-- Wire, pattern: whether it has a 1. -/
abbrev WF := Nat → Nat → Bool
/-- The words of the wires. -/
def Wi (f : WF) (ws : List Nat) : Prop := ws.length = 160 ∧ (∀ k, k < 160 → gt ws k < 2 ^ 64) ∧ ∀ i, i < 10 → ∀ p, p < 1024 → (gt ws (i * 16 + p / 64)).testBit (p % 64) = f i p
theorem Wi.congr {f g : WF} {ws : List Nat} (h : Wi f ws) (he : ∀ i, i < 10 → ∀ p, p < 1024 → f i p = g i p) : Wi g ws :=
  ⟨h.1, h.2.1, fun i hi p hp => (h.2.2 i hi p hp).trans (he i hi p hp)⟩
/-- Whether a word has changed. -/
theorem andNot_zero {a b : Nat} : andNot a b = 0 ↔ ∀ q, a.testBit q = true → b.testBit q = true := by
  constructor
  · intro h q ha
    have := congrArg (fun x => x.testBit q) h
    simp only [testBit_andNot, Nat.zero_testBit] at this
    cases hb : b.testBit q
    · simp [ha, hb] at this
    · rfl
  · intro h
    apply Nat.eq_of_testBit_eq
    intro q
    rw [testBit_andNot, Nat.zero_testBit]
    cases ha : a.testBit q
    · simp
    · simp [h q ha]
/-- The number with the bits 'g', below 'n'. -/
def colN : Nat → (Nat → Bool) → Nat
  | 0, _ => 0
  | n + 1, g => colN n g + (if g n then 1 else 0) * 2 ^ n
theorem colN_lt (n : Nat) (g : Nat → Bool) : colN n g < 2 ^ n := by
  induction n with
  | zero => simp [colN]
  | succ n ih =>
    simp only [colN]
    rw [Nat.pow_succ]
    split <;> omega
theorem colN_or {n : Nat} {g : Nat → Bool} {b : Nat} : colN n g ||| b * 2 ^ n = colN n g + b * 2 ^ n := by
  rw [Nat.or_comm, Nat.mul_comm, ← Nat.two_pow_add_eq_or_of_lt (colN_lt n g)]
  omega
theorem colN_bit (n : Nat) (g : Nat → Bool) (i : Nat) : (colN n g).testBit i = (decide (i < n) && g i) := by
  induction n with
  | zero => simp [colN]
  | succ n ih =>
    have : colN (n + 1) g = colN n g ||| (if g n then 1 else 0) * 2 ^ n := colN_or.symm
    rw [this, Nat.testBit_or, ih]
    by_cases c : i = n
    · subst c
      cases hg : g i <;> simp [hg, Nat.testBit_two_pow]
    · have hne : ((if g n then 1 else 0) * 2 ^ n).testBit i = false := by
        split
        · rw [Nat.one_mul, Nat.testBit_two_pow]; simp; omega
        · simp
      rw [hne, Bool.or_false]
      congr 1
      simp; omega
theorem colN_congr {n : Nat} {f g : Nat → Bool} (h : ∀ i, i < n → f i = g i) : colN n f = colN n g := by
  apply Nat.eq_of_testBit_eq
  intro i
  rw [colN_bit, colN_bit]
  by_cases c : i < n
  · rw [h i c]
  · simp [c]
theorem ChgB.refl (bn : Nat) (h : Heap) : ChgB bn h h := ⟨rfl, fun _ _ => rfl⟩
theorem ChgB.trans {bn : Nat} {a b c : Heap} (h : ChgB bn a b) (k : ChgB bn b c) : ChgB bn a c := ⟨k.size.trans h.size, fun i hi => (k.block i hi).trans (h.block i hi)⟩
end Go.X
namespace Go.X
/-- The first 'n' numbers. -/
def iota (n : Nat) : List Int := (List.range n).map fun j : Nat => (j : Int)
theorem iota_length (n : Nat) : (iota n).length = n := by simp [iota]
theorem gt_iota {n j : Nat} (h : j < n) : gt (iota n) j = (j : Int) := by
  rw [gt_eq (by rw [iota_length]; exact h)]; simp [iota]
end Go.X
namespace Go.X
theorem gt_exch {xs : List Int} {i j : Nat} (hi : i < xs.length) (hj : j < xs.length) (hij : i ≠ j) (k : Nat) : gt (exch xs i j) k = if k = i then min (gt xs i) (gt xs j) else if k = j then max (gt xs i) (gt xs j) else gt xs k := by
  unfold exch
  split
  · rw [gt_swp hi hj]
    by_cases h1 : k = i
    · subst h1; rw [if_neg (by omega), if_pos rfl, if_pos rfl]; omega
    · by_cases h2 : k = j
      · subst h2; rw [if_pos rfl, if_neg h1, if_pos rfl]; omega
      · rw [if_neg h2, if_neg h1, if_neg h1, if_neg h2]
  · by_cases h1 : k = i
    · subst h1; rw [if_pos rfl]; omega
    · by_cases h2 : k = j
      · subst h2; rw [if_neg h1, if_pos rfl]; omega
      · rw [if_neg h1, if_neg h2]
/-- Where the values of the loose network are in the straight one. -/
structure StInv (n : Nat) (w x y : List Int) : Prop where
  lw : w.length = n
  lx : x.length = n
  ly : y.length = n
  rng : ∀ i, i < n → 0 ≤ gt w i ∧ gt w i < (n : Int)
  inj : ∀ i j, i < n → j < n → gt w i = gt w j → i = j
  val : ∀ i, i < n → gt x (gt w i).toNat = gt y i
theorem StInv.step {n a b : Nat} {w x y : List Int} (h : StInv n w x y) (ha : a < n) (hb : b < n) (hab : a ≠ b) :
    StInv n (exch w a b) (exch x (min (gt w a) (gt w b)).toNat (max (gt w a) (gt w b)).toNat) (exch y a b) := by
  obtain ⟨lw, lx, ly, rng, inj, val⟩ := h
  have r1 := rng a ha
  have r2 := rng b hb
  have hne : gt w a ≠ gt w b := fun e => hab (inj a b ha hb e)
  have gw := gt_exch (xs := w) (i := a) (j := b) (by omega) (by omega) hab
  have gy := gt_exch (xs := y) (i := a) (j := b) (by omega) (by omega) hab
  have gx := gt_exch (xs := x) (i := (min (gt w a) (gt w b)).toNat) (j := (max (gt w a) (gt w b)).toNat) (by omega) (by omega) (by omega)
  have va := val a ha
  have vb := val b hb
  refine ⟨by rw [exch_length]; exact lw, by rw [exch_length]; exact lx, by rw [exch_length]; exact ly, fun i hi => ?_, fun i j hi hj e => ?_, fun i hi => ?_⟩
  · have := rng i hi
    rw [gw]; split
    · omega
    · split <;> omega
  · rw [gw, gw] at e
    by_cases h1 : i = a
    · by_cases h2 : j = a
      · omega
      · rw [if_pos h1, if_neg h2] at e
        by_cases h3 : j = b
        · rw [if_pos h3] at e; omega
        · rw [if_neg h3] at e
          have := inj j a hj ha
          have := inj j b hj hb
          omega
    · by_cases h4 : i = b
      · rw [if_neg h1, if_pos h4] at e
        by_cases h2 : j = a
        · rw [if_pos h2] at e; omega
        · rw [if_neg h2] at e
          by_cases h3 : j = b
          · omega
          · rw [if_neg h3] at e
            have := inj j a hj ha
            have := inj j b hj hb
            omega
      · rw [if_neg h1, if_neg h4] at e
        by_cases h2 : j = a
        · rw [if_pos h2] at e
          have := inj i a hi ha
          have := inj i b hi hb
          omega
        · rw [if_neg h2] at e
          by_cases h3 : j = b
          · rw [if_pos h3] at e
            have := inj i a hi ha
            have := inj i b hi hb
            omega
          · rw [if_neg h3] at e; exact inj i j hi hj e
  · rw [gw, gy]
    have key : min (gt x (min (gt w a) (gt w b)).toNat) (gt x (max (gt w a) (gt w b)).toNat) = min (gt y a) (gt y b) ∧ max (gt x (min (gt w a) (gt w b)).toNat) (gt x (max (gt w a) (gt w b)).toNat) = max (gt y a) (gt y b) := by
      rcases Int.lt_or_lt_of_ne hne with hl | hl
      · rw [show min (gt w a) (gt w b) = gt w a from by omega, show max (gt w a) (gt w b) = gt w b from by omega, va, vb]; exact ⟨rfl, rfl⟩
      · rw [show min (gt w a) (gt w b) = gt w b from by omega, show max (gt w a) (gt w b) = gt w a from by omega, va, vb]; omega
    by_cases h1 : i = a
    · rw [if_pos h1, if_pos h1, gx, if_pos rfl]; exact key.1
    · by_cases h2 : i = b
      · rw [if_neg h1, if_pos h2, if_neg h1, if_pos h2, gx, if_neg (by omega), if_pos rfl]; exact key.2
      · rw [if_neg h1, if_neg h2, if_neg h1, if_neg h2, gx]
        have e1 := inj i a hi ha
        have e2 := inj i b hi hb
        have e3 := rng i hi
        rw [if_neg (by omega), if_neg (by omega)]
        exact val i hi
theorem StInv.zero {n : Nat} {x : List Int} (hx : x.length = n) : StInv n (iota n) x x :=
  ⟨iota_length n, hx, hx, fun i hi => by rw [gt_iota hi]; omega, fun i j hi hj e => by rw [gt_iota hi, gt_iota hj] at e; omega, fun i hi => by rw [gt_iota hi]; rfl⟩
end Go.X
namespace Go.X
/-- The sum of 'f' below 'n'. -/
def S (f : Nat → Nat) : Nat → Nat
  | 0 => 0
  | n + 1 => S f n + f n
/-- Two indices for one another. -/
def tr (i j a : Nat) : Nat := if a = i then j else if a = j then i else a
end Go.X
namespace Go.X
end Go.X
namespace Go.X
def NetOk (n : Nat) (ls : List (Int × Int)) : Prop := ∀ c ∈ ls, ∃ a b : Nat, c = ((a : Int), (b : Int)) ∧ a < n ∧ b < n ∧ a ≠ b
def NetLt (n : Nat) (ls : List (Int × Int)) : Prop := ∀ c ∈ ls, ∃ a b : Nat, c = ((a : Int), (b : Int)) ∧ a < b ∧ b < n
theorem NetLt.ok {n : Nat} {ls : List (Int × Int)} (h : NetLt n ls) : NetOk n ls := fun c hc => by
  obtain ⟨a, b, e, h1, h2⟩ := h c hc
  exact ⟨a, b, e, by omega, h2, by omega⟩
theorem NetLt.append {n : Nat} {xs ys : List (Int × Int)} (h : NetLt n xs) (h' : NetLt n ys) : NetLt n (xs ++ ys) := fun c hc => by
  rw [List.mem_append] at hc
  exact hc.elim (h c) (h' c)
theorem NetLt.cons {n : Nat} {x : Int × Int} {xs : List (Int × Int)} (h : NetLt n (x :: xs)) : NetLt n xs := fun c hc => h c (List.mem_cons_of_mem _ hc)
end Go.X
namespace Go.X
end Go.X
namespace Go.X
/-- A list of numbers, rising: what a test takes among the first ones. -/
def filtF (N : Nat) (f : Nat → Bool) : List Int := ((List.range N).filter f).map fun q : Nat => (q : Int)
theorem filtF_asc (N : Nat) (f : Nat → Bool) : (filtF N f).Pairwise (· < ·) := by
  unfold filtF
  rw [List.pairwise_map]
  exact (List.pairwise_lt_range.filter _).imp (by intro a b h; omega)
theorem filtF_mem {N : Nat} {f : Nat → Bool} {x : Int} : x ∈ filtF N f ↔ ∃ q : Nat, q < N ∧ f q = true ∧ (q : Int) = x := by
  unfold filtF
  rw [List.mem_map]
  constructor
  · rintro ⟨q, hq, e⟩; rw [List.mem_filter, List.mem_range] at hq; exact ⟨q, hq.1, hq.2, e⟩
  · rintro ⟨q, h1, h2, e⟩; exact ⟨q, by rw [List.mem_filter, List.mem_range]; exact ⟨h1, h2⟩, e⟩
theorem filtF_congr {N : Nat} {f g : Nat → Bool} (h : ∀ q, q < N → f q = g q) : filtF N f = filtF N g := by
  unfold filtF
  rw [List.filter_congr fun q hq => h q (List.mem_range.1 hq)]
theorem filtF_succ (N : Nat) (f : Nat → Bool) : filtF (N + 1) f = filtF N f ++ if f N then [(N : Int)] else [] := by
  unfold filtF
  have e : List.filter f [N] = if f N then [N] else [] := by simp only [List.filter_cons, List.filter_nil]
  rw [List.range_succ, List.filter_append, List.map_append, e]
  cases f N <;> rfl
theorem filtF_length (N : Nat) (f : Nat → Bool) : (filtF N f).length ≤ N := by
  unfold filtF
  rw [List.length_map]
  exact Nat.le_trans (List.length_filter_le ..) (by simp)
/-! ### Idle comparators, in their list -/
end Go.X
namespace Go.X
theorem colN_set {n : Nat} {g : Nat → Bool} (h : g n = true) : colN n g ||| 1 * 2 ^ n = colN (n + 1) g := by rw [colN_or]; simp [colN, h]
theorem colN_skip {n : Nat} {g : Nat → Bool} (h : g n = false) : colN n g = colN (n + 1) g := by simp [colN, h]
theorem pow12 {n : Nat} (h : n ≤ 12) : 2 ^ n ≤ 4096 := Nat.pow_le_pow_right (by omega : 0 < 2) h
theorem bit_zero {s x : Nat} : (s / 2 ^ x &&& 1) = 0 ↔ s.testBit x = false := by rw [bit_and_one]; cases s.testBit x <;> simp
theorem bit_nz {s x : Nat} (h : ¬ (s / 2 ^ x &&& 1) = 0) : s.testBit x = true := by
  cases c : s.testBit x
  · exact absurd (bit_zero.2 c) h
  · rfl
theorem bit_lt {n s x : Nat} (h : s < 2 ^ n) (hb : s.testBit x = true) : x < n := by
  refine Nat.lt_of_not_le fun hc => ?_
  rw [Nat.testBit_lt_two_pow (Nat.lt_of_lt_of_le h (Nat.pow_le_pow_right (by omega) hc))] at hb
  cases hb
def incl (a b : Nat) : Bool := decide (andNot a b = 0)
theorem incl_iff {a b : Nat} : incl a b = true ↔ ∀ q, a.testBit q = true → b.testBit q = true := by unfold incl; rw [decide_eq_true_iff]; exact andNot_zero
theorem incl_and {a b : Nat} : incl a b = decide (a &&& b = a) := by
  rw [Bool.eq_iff_iff, incl_iff, decide_eq_true_iff]
  constructor
  · intro h
    apply Nat.eq_of_testBit_eq
    intro i
    rw [Nat.testBit_and]
    cases c : a.testBit i
    · rfl
    · rw [h i c]; rfl
  · intro h q hq
    rw [← h, Nat.testBit_and, Bool.and_eq_true] at hq
    exact hq.2
theorem andNot_le (a b : Nat) : andNot a b ≤ a := by
  rw [show andNot a b = a &&& andNot a b from Nat.eq_of_testBit_eq fun i => by rw [Nat.testBit_and, testBit_andNot]; cases a.testBit i <;> simp]
  exact Nat.and_le_left
theorem incl_D {a b : Nat} : decide (((andNot a b : Nat) : Int) = 0) = incl a b := by
  unfold incl
  rw [decide_eq_decide]
  omega
theorem and_D {a b : Nat} : decide (((a &&& b : Nat) : Int) = ((a : Nat) : Int)) = incl a b := by
  rw [incl_and, decide_eq_decide]
  omega
def dnF (n : Nat) (f : Nat → Nat → Bool) (x : Nat) : Nat := colN n fun y => f y x
def upF (n : Nat) (f : Nat → Nat → Bool) (x : Nat) : Nat := colN n fun y => f x y
theorem dnF_lt (n : Nat) (f : Nat → Nat → Bool) (x : Nat) : dnF n f x < 2 ^ n := colN_lt n _
theorem upF_lt (n : Nat) (f : Nat → Nat → Bool) (x : Nat) : upF n f x < 2 ^ n := colN_lt n _
theorem dnF_bit {n : Nat} {f : Nat → Nat → Bool} {x y : Nat} : (dnF n f x).testBit y = (decide (y < n) && f y x) := colN_bit n _ y
theorem upF_bit {n : Nat} {f : Nat → Nat → Bool} {x y : Nat} : (upF n f x).testBit y = (decide (y < n) && f x y) := colN_bit n _ y
theorem rall_succ (k : Nat) (g : Nat → Bool) : (List.range (k + 1)).all g = ((List.range k).all g && g k) := by rw [List.range_succ, List.all_append]; simp
theorem rall_iff {k : Nat} {g : Nat → Bool} : (List.range k).all g = true ↔ ∀ i, i < k → g i = true := by rw [List.all_eq_true]; exact ⟨fun h i hi => h i (List.mem_range.2 hi), fun h i hi => h i (List.mem_range.1 hi)⟩
/-- Ideals: with each element all below it. -/
def idlB (n : Nat) (f : Nat → Nat → Bool) (s : Nat) : Bool := (List.range n).all fun x => !s.testBit x || incl (dnF n f x) s
theorem idlB_iff {n s : Nat} {f : Nat → Nat → Bool} : idlB n f s = true ↔ ∀ x y, x < n → y < n → s.testBit x = true → f y x = true → s.testBit y = true := by
  unfold idlB
  rw [rall_iff]
  constructor
  · intro h x y hx hy hb hf
    have h1 := h x hx
    rw [hb, Bool.not_true, Bool.false_or, incl_iff] at h1
    exact h1 y (by rw [dnF_bit, hf, decide_eq_true hy]; rfl)
  · intro h x hx
    cases hb : s.testBit x
    · rfl
    · rw [Bool.not_true, Bool.false_or, incl_iff]
      intro y hy
      rw [dnF_bit, Bool.and_eq_true, decide_eq_true_iff] at hy
      exact h x y hx hy.1 hb hy.2
def idealsF (n : Nat) (f : Nat → Nat → Bool) : List Int := filtF (2 ^ n) (idlB n f)
theorem filtF_yes {N : Nat} {f : Nat → Bool} (h : f N = true) : filtF N f ++ [(N : Int)] = filtF (N + 1) f := by rw [filtF_succ, h]; rfl
theorem filtF_no {N : Nat} {f : Nat → Bool} (h : f N = false) : filtF N f = filtF (N + 1) f := by rw [filtF_succ, h]; simp
theorem filtF_gt {N : Nat} {f : Nat → Bool} {i : Nat} (h : i < (filtF N f).length) : ∃ a : Nat, gt (filtF N f) i = (a : Int) ∧ a < N ∧ f a = true := by
  obtain ⟨q, h1, h2, h3⟩ := filtF_mem.1 (gt_mem h)
  exact ⟨q, h3.symm, h1, h2⟩
/-- Sets, by their being within each other. -/
def incF (xs : List Int) (i j : Nat) : Bool := incl (gt xs i).toNat (gt xs j).toNat
theorem up_order {n : Nat} {ls : List (Int × Int)} (h : ∀ d, d ∈ ls → ∃ a b : Nat, d = ((a : Int), (b : Int)) ∧ a < b ∧ b < n) : IsO n (closW n ls) :=
  clos_order (fun x => x) (fun _ _ _ _ e => e) fun x y hm => by
    obtain ⟨a, b, e, h1, h2⟩ := h _ hm
    obtain ⟨e1, e2⟩ := Prod.mk.inj e
    omega
end Go.X
namespace Go.Proofs.Ytdokijbdnajhgaa
open Go Go.X

set_option maxRecDepth 10000 in
theorem up_spec (h : Heap) (vp : Value) (hs : List Hdr) (p : List (List Bool)) (x : Nat) (hr_vp : RdE encHd h vp hs) (ht_vp : RT encB h hs p) (hp1 : p.length ≤ 12) (hp2 : Sq p p.length) (hp3 : x < p.length) : Fx Try.prog 80 [vp, .int .i64 ((x : Nat) : Int)] h (fun v h' => v = .int .i64 ((upF p.length (pb p) x : Nat) : Int) ∧ h = h') := by
  have hl_vp := ht_vp.1
  refine fx_intro (n := 26) [(0, vp), (1, .int .i64 ((x : Nat) : Int))] Try.func80 rfl rfl (by simp) ⟨rfl, rfl, trivial⟩ fun g0 => ?_
  refine wi_seq <| wi_reg rfl <| lx_assign (.int .i64 0) rfl rfl <| lx_nil <| wi_seq <| wi_reg rfl <| lx_assign (.int .i64 0) rfl rfl <| lx_nil <| wi_seq <| wi_seq <| wi_reg rfl <| lx_move (vp) rfl rfl <| lx_move (.int .i64 ((x : Nat) : Int)) rfl rfl <| lx_ix (i := x) rfl eT29 hr_vp rfl rfl (by omega) <| lx_ld (i := x) (j := 0) ((gt hs x).v) rfl rfl fl70 hr_vp (by omega) rfl rfl <| lx_len rfl Try.underlying70 (ht_vp.2 x (by omega)) rfl <| lx_move (.int .i64 0) rfl rfl <| lx_nil <| wi_block <| ?_
  refine wi_loop (σ := Nat × Nat) (rngB 13 25 [5, 6, 7]) (fun (ss : Nat × Nat) => [(13, .int .i64 ((ss.1 : Nat) : Int)), (5, .int .i64 ((ss.2 : Nat) : Int))]) (fun (ss : Nat × Nat) (hh : Heap) => h = hh ∧ (ss.1 ≤ p.length) ∧ (ss.2 = colN ss.1 (fun c => pb p x c))) (fun (ss : Nat × Nat) => p.length - ss.1) (0, 0) ⟨rfl, rfl, trivial⟩ ⟨rfl, ?_, ?_⟩ ?_
  · try dsimp only
    omega
  · try dsimp only
    first | done | rfl
  rintro g1 ⟨y, o⟩ hh1 ⟨rfl, hy, ho⟩ IH1
  dsimp only at *
  refine wi_seq <| wi_reg rfl <| ?_
  have hrl := hp2.2 x hp3
  refine lx_lssS rfl rfl rfl (fun c1 => ?_) (fun c1 => ?_)
  · refine lx_nil <| wi_seq <| wi_true rfl <| wi_skip <| wi_seq <| wi_block <| wi_seq <| wi_reg rfl <| lx_move (.int .i64 ((y : Nat) : Int)) rfl rfl <| lx_ix (i := y) rfl eT70 (ht_vp.2 x (by omega)) rfl rfl (by rw [hp2.2 x (by omega)]; omega) <| lx_ld (i := y) (j := 0) (.bool (gt (gt p x) y)) rfl rfl fl4 (ht_vp.2 x (by omega)) (by rw [hp2.2 x (by omega)]; omega) rfl rfl <| lx_assign (.int .i64 ((y : Nat) : Int)) rfl rfl <| lx_assign (.bool (gt (gt p x) y)) rfl rfl <| lx_nil <| wi_seq <| wi_reg rfl <| lx_move (.bool (gt (gt p x) y)) rfl rfl <| lx_nil <| wi_condS (t := gt (gt p x) y) rfl (fun c2 => ?_) (fun c2 => ?_)
    · refine wi_reg rfl <| ?_
      have hpw := pow12 (show y ≤ 12 by omega)
      have hpw1 := pow12 (show y + 1 ≤ 12 by omega)
      have hlt : o < 2 ^ y := by rw [ho]; exact colN_lt _ _
      have hor : o ||| 1 * 2 ^ y < 2 ^ (y + 1) := by rw [ho, colN_set (n := y) (g := fun c => pb p x c) (by assumption)]; exact colN_lt _ _
      refine lx_move (.int .i64 ((o : Nat) : Int)) rfl rfl <| lx_move (.int .i64 ((y : Nat) : Int)) rfl rfl <| lx_conv ((y : Nat) : Int) rfl Try.underlying3 Try.underlying45 rfl (wrap_u64 (by omega) (by omega)) <| lx_shl (m := 1) (n := y) rfl rfl rfl (by show _ ≤ 64; omega) (wrap_i64 (by omega) (by omega)) <| lx_or (m := o) (n := 1 * 2 ^ y) rfl rfl rfl (by show _ < 2 ^ 64; omega) (by show _ < 2 ^ 64; omega) (wrap_i64 (by omega) (by omega)) <| lx_assign (.int .i64 ((o ||| (1 * 2 ^ y) : Nat) : Int)) rfl rfl <| lx_nil <| wi_inBlock <| wi_reg rfl <| lx_add (((y + 1 : Nat) : Int)) rfl rfl rfl (by omega) (by omega) (by omega) <| lx_move (.int .i64 ((y + 1 : Nat) : Int)) rfl rfl <| lx_nil <| ?_
      -- L0.1
      refine IH1 _ _ (y + 1, o ||| (1 * 2 ^ y)) (agree_ups rfl agree_self) ⟨rfl, rfl, trivial⟩ ⟨rfl, ?_, ?_⟩ ?_
      · try dsimp only
        omega
      · try dsimp only
        rw [ho]; first | exact colN_set (by assumption) | exact colN_skip (by assumption)
      · first | omega | (dsimp only; omega)
    · refine wi_skip <| wi_inBlock <| wi_reg rfl <| lx_add (((y + 1 : Nat) : Int)) rfl rfl rfl (by omega) (by omega) (by omega) <| lx_move (.int .i64 ((y + 1 : Nat) : Int)) rfl rfl <| lx_nil <| ?_
      -- L0.2
      refine IH1 _ _ (y + 1, o) (agree_ups rfl agree_self) ⟨rfl, rfl, trivial⟩ ⟨rfl, ?_, ?_⟩ ?_
      · try dsimp only
        omega
      · try dsimp only
        rw [ho]; first | exact colN_set (by assumption) | exact colN_skip (by assumption)
      · first | omega | (dsimp only; omega)
  · refine lx_nil <| wi_seq <| wi_false rfl <| wi_exit rfl <| wi_seq <| wi_reg rfl <| lx_move (.int .i64 ((o : Nat) : Int)) rfl rfl <| lx_assign (.int .i64 ((o : Nat) : Int)) rfl rfl <| lx_nil <| ?_
    -- R1
    refine wi_ret ⟨.int .i64 ((o : Nat) : Int), (res_one rfl rfl), ⟨?_, rfl⟩⟩
    · rw [ho, show y = p.length from by omega]; rfl

set_option maxRecDepth 10000 in
theorem down_spec (h : Heap) (vp : Value) (hs : List Hdr) (p : List (List Bool)) (x : Nat) (hr_vp : RdE encHd h vp hs) (ht_vp : RT encB h hs p) (hp1 : p.length ≤ 12) (hp2 : Sq p p.length) (hp3 : x < p.length) : Fx Try.prog 81 [vp, .int .i64 ((x : Nat) : Int)] h (fun v h' => v = .int .i64 ((dnF p.length (pb p) x : Nat) : Int) ∧ h = h') := by
  have hl_vp := ht_vp.1
  refine fx_intro (n := 26) [(0, vp), (1, .int .i64 ((x : Nat) : Int))] Try.func81 rfl rfl (by simp) ⟨rfl, rfl, trivial⟩ fun g0 => ?_
  refine wi_seq <| wi_reg rfl <| lx_assign (.int .i64 0) rfl rfl <| lx_nil <| wi_seq <| wi_reg rfl <| lx_assign (.int .i64 0) rfl rfl <| lx_nil <| wi_seq <| wi_seq <| wi_reg rfl <| lx_move (vp) rfl rfl <| lx_len rfl Try.underlying29 hr_vp rfl <| lx_move (.int .i64 0) rfl rfl <| lx_nil <| wi_block <| ?_
  refine wi_loop (σ := Nat × Nat) (rngB 9 25 [5, 6]) (fun (ss : Nat × Nat) => [(9, .int .i64 ((ss.1 : Nat) : Int)), (5, .int .i64 ((ss.2 : Nat) : Int))]) (fun (ss : Nat × Nat) (hh : Heap) => h = hh ∧ (ss.1 ≤ p.length) ∧ (ss.2 = colN ss.1 (fun c => pb p c x))) (fun (ss : Nat × Nat) => p.length - ss.1) (0, 0) ⟨rfl, rfl, trivial⟩ ⟨rfl, ?_, ?_⟩ ?_
  · try dsimp only
    omega
  · try dsimp only
    first | done | rfl
  rintro g1 ⟨y, o⟩ hh1 ⟨rfl, hy, ho⟩ IH1
  dsimp only at *
  refine wi_seq <| wi_reg rfl <| lx_lssS rfl rfl rfl (fun c1 => ?_) (fun c1 => ?_)
  · refine lx_nil <| wi_seq <| wi_true rfl <| wi_skip <| wi_seq <| wi_block <| wi_seq <| wi_reg rfl <| lx_move (.int .i64 ((y : Nat) : Int)) rfl rfl <| lx_assign (.int .i64 ((y : Nat) : Int)) rfl rfl <| lx_nil <| wi_seq <| wi_reg rfl <| lx_move (vp) rfl rfl <| lx_move (.int .i64 ((y : Nat) : Int)) rfl rfl <| lx_ix (i := y) rfl eT29 hr_vp rfl rfl (by omega) <| lx_ld (i := y) (j := 0) ((gt hs y).v) rfl rfl fl70 hr_vp (by omega) rfl rfl <| lx_move (.int .i64 ((x : Nat) : Int)) rfl rfl <| lx_ix (i := x) rfl eT70 (ht_vp.2 y (by omega)) rfl rfl (by rw [hp2.2 y (by omega)]; omega) <| lx_ld (i := x) (j := 0) (.bool (gt (gt p y) x)) rfl rfl fl4 (ht_vp.2 y (by omega)) (by rw [hp2.2 y (by omega)]; omega) rfl rfl <| lx_nil <| wi_condS (t := gt (gt p y) x) rfl (fun c2 => ?_) (fun c2 => ?_)
    · refine wi_reg rfl <| ?_
      have hpw := pow12 (show y ≤ 12 by omega)
      have hpw1 := pow12 (show y + 1 ≤ 12 by omega)
      have hlt : o < 2 ^ y := by rw [ho]; exact colN_lt _ _
      have hor : o ||| 1 * 2 ^ y < 2 ^ (y + 1) := by rw [ho, colN_set (n := y) (g := fun c => pb p c x) (by assumption)]; exact colN_lt _ _
      refine lx_move (.int .i64 ((o : Nat) : Int)) rfl rfl <| lx_move (.int .i64 ((y : Nat) : Int)) rfl rfl <| lx_conv ((y : Nat) : Int) rfl Try.underlying3 Try.underlying45 rfl (wrap_u64 (by omega) (by omega)) <| lx_shl (m := 1) (n := y) rfl rfl rfl (by show _ ≤ 64; omega) (wrap_i64 (by omega) (by omega)) <| lx_or (m := o) (n := 1 * 2 ^ y) rfl rfl rfl (by show _ < 2 ^ 64; omega) (by show _ < 2 ^ 64; omega) (wrap_i64 (by omega) (by omega)) <| lx_assign (.int .i64 ((o ||| (1 * 2 ^ y) : Nat) : Int)) rfl rfl <| lx_nil <| wi_inBlock <| wi_reg rfl <| lx_add (((y + 1 : Nat) : Int)) rfl rfl rfl (by omega) (by omega) (by omega) <| lx_move (.int .i64 ((y + 1 : Nat) : Int)) rfl rfl <| lx_nil <| ?_
      -- L0.1
      refine IH1 _ _ (y + 1, o ||| (1 * 2 ^ y)) (agree_ups rfl agree_self) ⟨rfl, rfl, trivial⟩ ⟨rfl, ?_, ?_⟩ ?_
      · try dsimp only
        omega
      · try dsimp only
        rw [ho]; first | exact colN_set (by assumption) | exact colN_skip (by assumption)
      · first | omega | (dsimp only; omega)
    · refine wi_skip <| wi_inBlock <| wi_reg rfl <| lx_add (((y + 1 : Nat) : Int)) rfl rfl rfl (by omega) (by omega) (by omega) <| lx_move (.int .i64 ((y + 1 : Nat) : Int)) rfl rfl <| lx_nil <| ?_
      -- L0.2
      refine IH1 _ _ (y + 1, o) (agree_ups rfl agree_self) ⟨rfl, rfl, trivial⟩ ⟨rfl, ?_, ?_⟩ ?_
      · try dsimp only
        omega
      · try dsimp only
        rw [ho]; first | exact colN_set (by assumption) | exact colN_skip (by assumption)
      · first | omega | (dsimp only; omega)
  · refine lx_nil <| wi_seq <| wi_false rfl <| wi_exit rfl <| wi_seq <| wi_reg rfl <| lx_move (.int .i64 ((o : Nat) : Int)) rfl rfl <| lx_assign (.int .i64 ((o : Nat) : Int)) rfl rfl <| lx_nil <| ?_
    -- R1
    refine wi_ret ⟨.int .i64 ((o : Nat) : Int), (res_one rfl rfl), ⟨?_, rfl⟩⟩
    · rw [ho, show y = p.length from by omega]; rfl

end Go.Proofs.Ytdokijbdnajhgaa
namespace Go.X
section
variable {P : Program} {S : Heap → Prop} {kd : Oper → Kd} {ops : Array Oper} {rest : List Oper} {K : Env → Heap → Prop} {L : List (Nat × Value)} {b : Env} {h : Heap}
variable {d : Nat} {tx ty t : TypeId} {p : String} {af : Array Edge} {g : Option (Nat × Bool)} {x y : Operand}
end
end Go.X
namespace Go.Proofs.Ytdokijbdnajhgaa
open Go Go.X

end Go.Proofs.Ytdokijbdnajhgaa
namespace Go.Proofs.Ytdokijbdnajhgaa
open Go Go.X

end Go.Proofs.Ytdokijbdnajhgaa
namespace Go.Proofs.Ytdokijbdnajhgaa
open Go Go.X

set_option maxRecDepth 10000 in
theorem ideals_spec (h : Heap) (vp : Value) (hs : List Hdr) (p : List (List Bool)) (hr_vp : RdE encHd h vp hs) (ht_vp : RT encB h hs p) (hp1 : p.length ≤ 12) (hp2 : Sq p p.length) : Fx Try.prog 76 [vp] h (fun v h' => ∃ (s : Value), v = s ∧ OwE encI h' h.size 3 s (idealsF p.length (pb p)) ∧ Ext h.size h h') := by
  have hl_vp := ht_vp.1
  refine fx_intro (n := 44) [(0, vp)] Try.func76 rfl rfl (by simp) ⟨rfl, trivial⟩ fun g0 => ?_
  refine wi_seq <| wi_reg rfl <| lx_assign (.slice none 0 0) rfl rfl <| lx_nil <| wi_seq <| wi_reg rfl <| lx_assign (.slice none 0 0) rfl rfl <| lx_nil <| wi_seq <| wi_seq <| wi_reg rfl <| ?_
  have hpw := pow12 hp1
  have hpe : 2 ^ hs.length = 2 ^ p.length := by rw [hl_vp]
  refine lx_move (vp) rfl rfl <| lx_len rfl Try.underlying29 hr_vp rfl <| lx_conv ((hs.length : Nat) : Int) rfl Try.underlying3 Try.underlying45 rfl (wrap_u64 (by omega) (by omega)) <| lx_shl (m := 1) (n := hs.length) rfl rfl rfl (by show _ ≤ 64; omega) (wrap_i64 (by omega) (by omega)) <| lx_move (.int .i64 0) rfl rfl <| lx_nil <| wi_block <| ?_
  refine wi_loop (σ := Nat × Value × (List Int)) (rngB 11 43 [3, 4, 5, 6]) (fun (ss : Nat × Value × (List Int)) => [(11, .int .i64 ((ss.1 : Nat) : Int)), (3, ss.2.1)]) (fun (ss : Nat × Value × (List Int)) (hh : Heap) => OwE encI hh h.size 3 ss.2.1 ss.2.2 ∧ Ext h.size h hh ∧ (ss.1 ≤ 2 ^ p.length) ∧ (ss.2.2 = filtF ss.1 (idlB p.length (pb p)))) (fun (ss : Nat × Value × (List Int)) => 2 ^ p.length - ss.1) (0, .slice none 0 0, []) ⟨rfl, rfl, trivial⟩ ⟨?_, (Ext.refl _ _), ?_, ?_⟩ ?_
  · first | exact (owE_nil encI _ h.size 3) | (simpa using (owE_nil encI _ h.size 3))
  · try dsimp only
    exact Nat.zero_le _
  · try dsimp only
    first | done | rfl
  rintro g1 ⟨t, v, xs⟩ hh1 ⟨ho1, hx0_1, hsl, hxs⟩ IH1
  dsimp only at *
  refine wi_seq <| wi_reg rfl <| lx_lssS rfl rfl rfl (fun c1 => ?_) (fun c1 => ?_)
  · refine lx_nil <| wi_seq <| wi_true rfl <| wi_skip <| wi_seq <| wi_block <| wi_seq <| wi_reg rfl <| lx_move (.int .i64 ((t : Nat) : Int)) rfl rfl <| lx_assign (.int .i64 ((t : Nat) : Int)) rfl rfl <| lx_nil <| wi_seq <| wi_reg rfl <| ?_
    have hxl : xs.length ≤ t := by rw [hxs]; exact filtF_length _ _
    refine lx_assign (.bool true) rfl rfl <| lx_nil <| wi_seq <| wi_seq <| wi_reg rfl <| lx_move (vp) rfl rfl <| lx_len rfl Try.underlying29 hr_vp rfl <| lx_move (.int .i64 0) rfl rfl <| lx_nil <| wi_block <| ?_
    refine wi_loop (σ := Nat × Bool) (rngB 16 37 [5, 6]) (fun (ss : Nat × Bool) => [(16, .int .i64 ((ss.1 : Nat) : Int)), (5, .bool ss.2)]) (fun (ss : Nat × Bool) (hh : Heap) => hh1 = hh ∧ (ss.1 ≤ p.length) ∧ (ss.2 = (List.range ss.1).all (fun q => !t.testBit q || incl (dnF p.length (pb p) q) t))) (fun (ss : Nat × Bool) => p.length - ss.1) (0, true) ⟨rfl, rfl, trivial⟩ ⟨rfl, ?_, ?_⟩ ?_
    · try dsimp only
      omega
    · try dsimp only
      first | done | rfl
    rintro g2 ⟨x, w⟩ hh2 ⟨rfl, hx, hw⟩ IH2
    dsimp only at *
    refine wi_seq <| wi_reg rfl <| lx_lssS rfl rfl rfl (fun c2 => ?_) (fun c2 => ?_)
    · refine lx_nil <| wi_seq <| wi_true rfl <| wi_skip <| wi_seq <| wi_block <| wi_seq <| wi_reg rfl <| lx_move (.int .i64 ((x : Nat) : Int)) rfl rfl <| lx_assign (.int .i64 ((x : Nat) : Int)) rfl rfl <| lx_nil <| wi_reg rfl <| ?_
      have hdv := Nat.div_le_self t (2 ^ x)
      have hdl := dnF_lt p.length (pb p) x
      have hbl : t / 2 ^ x &&& 1 ≤ 1 := Nat.and_le_right
      refine lx_move (.bool w) rfl rfl <| lx_move (.bool w) rfl rfl <| ?_
      cases c3 : w
      · refine lx_skip rfl <| lx_skip rfl <| lx_skip rfl <| lx_skip rfl <| lx_skip rfl <| lx_skip rfl <| lx_skip rfl <| lx_skip rfl <| lx_skip rfl <| lx_skip rfl <| lx_skip rfl <| lx_skip rfl <| lx_skip rfl <| lx_skip rfl <| lx_pick false (.bool false) rfl rfl rfl <| lx_assign (.bool false) rfl rfl <| lx_nil <| wi_inBlock <| wi_reg rfl <| lx_add (((x + 1 : Nat) : Int)) rfl rfl rfl (by omega) (by omega) (by omega) <| lx_move (.int .i64 ((x + 1 : Nat) : Int)) rfl rfl <| lx_nil <| ?_
        -- L2.1
        refine IH2 _ _ (x + 1, false) (agree_ups rfl agree_self) ⟨rfl, rfl, trivial⟩ ⟨rfl, ?_, ?_⟩ ?_
        · try dsimp only
          omega
        · try dsimp only
          rw [rall_succ, ← hw]
          first
          | (rw [show w = false from by assumption]; rfl)
          | (rw [show w = true from by assumption, show t.testBit x = false from bit_zero.1 (by omega)]; rfl)
          | (rw [show w = true from by assumption, show t.testBit x = true from bit_nz (by omega)]; exact incl_D)
        · first | omega | (dsimp only; omega)
      · refine lx_move (.int .i64 ((t : Nat) : Int)) rfl rfl <| lx_move (.int .i64 ((x : Nat) : Int)) rfl rfl <| lx_conv ((x : Nat) : Int) rfl Try.underlying3 Try.underlying45 rfl (wrap_u64 (by omega) (by omega)) <| lx_shr (m := t) (n := x) rfl rfl rfl (by show _ ≤ 64; omega) <| lx_and (m := t / 2 ^ x) (n := 1) rfl rfl rfl (by show _ < 2 ^ 64; omega) (by show _ < 2 ^ 64; omega) (wrap_i64 (by omega) (by omega)) <| lx_eqlS rfl rfl rfl (fun c4 => ?_) (fun c4 => ?_)
        · refine lx_move (.bool true) rfl rfl <| lx_skip rfl <| lx_skip rfl <| lx_skip rfl <| lx_skip rfl <| lx_skip rfl <| lx_skip rfl <| lx_pick true (.bool true) rfl rfl rfl <| lx_pick true (.bool true) rfl rfl rfl <| lx_assign (.bool true) rfl rfl <| lx_nil <| wi_inBlock <| wi_reg rfl <| lx_add (((x + 1 : Nat) : Int)) rfl rfl rfl (by omega) (by omega) (by omega) <| lx_move (.int .i64 ((x + 1 : Nat) : Int)) rfl rfl <| lx_nil <| ?_
          -- L2.2
          refine IH2 _ _ (x + 1, true) (agree_ups rfl agree_self) ⟨rfl, rfl, trivial⟩ ⟨rfl, ?_, ?_⟩ ?_
          · try dsimp only
            omega
          · try dsimp only
            rw [rall_succ, ← hw]
            first
            | (rw [show w = false from by assumption]; rfl)
            | (rw [show w = true from by assumption, show t.testBit x = false from bit_zero.1 (by omega)]; rfl)
            | (rw [show w = true from by assumption, show t.testBit x = true from bit_nz (by omega)]; exact incl_D)
          · first | omega | (dsimp only; omega)
        · refine lx_move (.bool false) rfl rfl <| lx_move (vp) rfl rfl <| lx_move (.int .i64 ((x : Nat) : Int)) rfl rfl <| lx_call [vp, .int .i64 ((x : Nat) : Int)] rfl rfl Try.call81 rfl (down_spec hh1 vp hs p x (hr_vp.extS hx0_1) (ht_vp.extS hx0_1) (by omega) (by first | with_reducible assumption | omega) (by omega)) (fun _ _ _ => trivial) ?_
          rintro _ h1 ⟨rfl, rfl⟩
          refine lx_move (.int .i64 ((t : Nat) : Int)) rfl rfl <| lx_andNot (m := dnF p.length (pb p) x) (n := t) rfl rfl rfl (by show _ < 2 ^ 64; omega) (by show _ < 2 ^ 64; omega) (wrap_i64 (by omega) (by have := andNot_le (dnF p.length (pb p) x) t; omega)) <| lx_eql rfl rfl rfl <| lx_pick false (.bool (decide (((andNot (dnF p.length (pb p) x) t : Nat) : Int) = (0 : Int)))) rfl rfl rfl <| lx_pick true (.bool (decide (((andNot (dnF p.length (pb p) x) t : Nat) : Int) = (0 : Int)))) rfl rfl rfl <| lx_assign (.bool (decide (((andNot (dnF p.length (pb p) x) t : Nat) : Int) = (0 : Int)))) rfl rfl <| lx_nil <| wi_inBlock <| wi_reg rfl <| lx_add (((x + 1 : Nat) : Int)) rfl rfl rfl (by omega) (by omega) (by omega) <| lx_move (.int .i64 ((x + 1 : Nat) : Int)) rfl rfl <| lx_nil <| ?_
          -- L2.3
          refine IH2 _ _ (x + 1, decide (((andNot (dnF p.length (pb p) x) t : Nat) : Int) = (0 : Int))) (agree_ups rfl agree_self) ⟨rfl, rfl, trivial⟩ ⟨rfl, ?_, ?_⟩ ?_
          · try dsimp only
            omega
          · try dsimp only
            rw [rall_succ, ← hw]
            first
            | (rw [show w = false from by assumption]; rfl)
            | (rw [show w = true from by assumption, show t.testBit x = false from bit_zero.1 (by omega)]; rfl)
            | (rw [show w = true from by assumption, show t.testBit x = true from bit_nz (by omega)]; exact incl_D)
          · first | omega | (dsimp only; omega)
    · refine lx_nil <| wi_seq <| wi_false rfl <| wi_exit rfl <| wi_seq <| wi_reg rfl <| lx_move (.bool w) rfl rfl <| lx_nil <| wi_condS (t := w) rfl (fun c5 => ?_) (fun c5 => ?_)
      · refine wi_reg rfl <| lx_move (v) rfl rfl <| lx_move (.int .i64 ((t : Nat) : Int)) rfl rfl <| lx_appendL (E := encI) (B := h.size) [((t : Nat) : Int)] [.int .i64 ((t : Nat) : Int)] rfl rfl (fun _ => rfl) rfl eT25 rfl rfl rfl rfl ho1 (fun _ => rfl) (by show xs.length + 1 ≤ _; omega) (by show (xs.length + 1) * 8 ≤ _; omega) hx0_1.size (fun _ _ => trivial) fun u1 v1 h2 ho2 hc1 hg1 => ?_
        have hx0_2 := hx0_1.trans (ho1.ext hc1 hx0_1.size)
        refine lx_assign (v1) rfl rfl <| lx_nil <| wi_inBlock <| wi_reg rfl <| lx_add (((t + 1 : Nat) : Int)) rfl rfl rfl (by omega) (by omega) (by omega) <| lx_move (.int .i64 ((t + 1 : Nat) : Int)) rfl rfl <| lx_nil <| ?_
        -- L0.1
        refine IH1 _ _ (t + 1, v1, xs ++ [((t : Nat) : Int)]) (agree_ups rfl (agree_mix (rngB_sub (by decide) (by decide) rfl) (agree_ups rfl agree_self))) ⟨rfl, rfl, trivial⟩ ⟨?_, hx0_2, ?_, ?_⟩ ?_
        · first | exact ho2 | (simpa using ho2)
        · try dsimp only
          omega
        · try dsimp only
          rw [hxs]
          have hid : w = idlB p.length (pb p) t := by rw [hw, show x = p.length from by omega]; rfl
          first
          | exact filtF_yes (by rw [← hid]; assumption)
          | exact filtF_no (by rw [← hid]; assumption)
        · first | omega | (dsimp only; omega)
      · refine wi_skip <| wi_inBlock <| wi_reg rfl <| lx_add (((t + 1 : Nat) : Int)) rfl rfl rfl (by omega) (by omega) (by omega) <| lx_move (.int .i64 ((t + 1 : Nat) : Int)) rfl rfl <| lx_nil <| ?_
        -- L0.2
        refine IH1 _ _ (t + 1, v, xs) (agree_ups rfl (agree_mix (rngB_sub (by decide) (by decide) rfl) (agree_ups rfl agree_self))) ⟨rfl, rfl, trivial⟩ ⟨?_, hx0_1, ?_, ?_⟩ ?_
        · first | exact ho1 | (simpa using ho1)
        · try dsimp only
          omega
        · try dsimp only
          rw [hxs]
          have hid : w = idlB p.length (pb p) t := by rw [hw, show x = p.length from by omega]; rfl
          first
          | exact filtF_yes (by rw [← hid]; assumption)
          | exact filtF_no (by rw [← hid]; assumption)
        · first | omega | (dsimp only; omega)
  · refine lx_nil <| wi_seq <| wi_false rfl <| wi_exit rfl <| wi_seq <| wi_reg rfl <| lx_move (v) rfl rfl <| lx_assign (v) rfl rfl <| lx_nil <| ?_
    -- R1
    refine wi_ret ⟨v, (res_one rfl rfl), ⟨v, rfl, ?_, hx0_1⟩⟩
    · rw [show idealsF p.length (pb p) = xs from by rw [hxs, show t = 2 ^ p.length from by omega]; rfl]; exact ho1

set_option maxRecDepth 10000 in
theorem oideals_spec (h : Heap) (vp : Value) (hs : List Hdr) (p : List (List Bool)) (hr_vp : RdE encHd h vp hs) (ht_vp : RT encB h hs p) (hp1 : p.length ≤ 1000000) (hp2 : ∀ i, i < p.length → (gt p i).length ≤ 1000000) : Fx Try.prog 16 [vp] h (fun v h' => ∃ (s : Value) (xs : List Int), v = .tuple #[s, .int .i64 (chkT p)] ∧ OwE encI h' h.size 3 s xs ∧ ((chkT p ≠ 0 ∧ xs = []) ∨ (chkT p = 0 ∧ xs = idealsF p.length (pb p))) ∧ Ext h.size h h') := by
  have hl_vp := ht_vp.1
  refine fx_intro (n := 12) [(0, vp)] Try.func16 rfl rfl (by simp) ⟨rfl, trivial⟩ fun g0 => ?_
  refine wi_seq <| wi_reg rfl <| lx_assign (.slice none 0 0) rfl rfl <| lx_assign (.int .i64 0) rfl rfl <| lx_nil <| wi_seq <| wi_seq <| wi_reg rfl <| lx_move (vp) rfl rfl <| lx_call [vp] rfl rfl Try.call62 rfl (ocheck_spec h vp hs p hr_vp ht_vp (by omega) (by first | with_reducible assumption | omega)) (fun _ _ _ => trivial) ?_
  rintro _ h1 ⟨rfl, hx1⟩
  refine lx_assign (.int .i64 (chkT p)) rfl rfl <| lx_nil <| wi_seq <| wi_reg rfl <| lx_move (.int .i64 (chkT p)) rfl rfl <| lx_neqS rfl rfl rfl (fun c1 => ?_) (fun c1 => ?_)
  · refine lx_nil <| wi_true rfl <| wi_seq <| wi_reg rfl <| lx_move (.int .i64 (chkT p)) rfl rfl <| lx_assign (.slice none 0 0) rfl rfl <| lx_assign (.int .i64 (chkT p)) rfl rfl <| lx_nil <| ?_
    -- R1
    refine wi_ret ⟨.tuple #[.slice none 0 0, .int .i64 (chkT p)], (res_two rfl rfl rfl), ⟨.slice none 0 0, [], rfl, (owE_nil encI _ h.size 3), ?_, hx1⟩⟩
    · exact .inl ⟨by omega, rfl⟩
  · refine lx_nil <| wi_false rfl <| wi_skip <| wi_seq <| wi_reg rfl <| ?_
    have hok := chkT_ok (p := p) (by omega)
    have hp12 : p.length ≤ 12 := hok.2.1
    have hpq : Sq p p.length := isT_sq hok.2.2
    refine lx_move (vp) rfl rfl <| lx_call [vp] rfl rfl Try.call76 rfl (ideals_spec h1 vp hs p (hr_vp.extS hx1) (ht_vp.extS hx1) (by omega) (by first | with_reducible assumption | omega)) (fun _ _ _ => trivial) ?_
    rintro v1 h2 ⟨_, rfl, ho1, hx2⟩
    have hx0_1 := hx1.trans2 hx2 hx1.size
    have ho2 := ho1.base hx1.size
    refine lx_assign (v1) rfl rfl <| lx_assign (.int .i64 0) rfl rfl <| lx_nil <| ?_
    -- R2
    refine wi_ret ⟨.tuple #[v1, .int .i64 0], (res_two rfl rfl rfl), ⟨v1, idealsF p.length (pb p), ?_, ho2, ?_, hx0_1⟩⟩
    · rw [show chkT p = 0 from by omega]
    · exact .inr ⟨by omega, rfl⟩

set_option maxRecDepth 10000 in
theorem inclusion_spec (h : Heap) (vl : Value) (xs : List Int) (hr_vl : RdE encI h vl xs) (hp1 : xs.length ≤ 4096) (hp2 : ∀ i, i < xs.length → 0 ≤ gt xs i ∧ gt xs i < 4096) : Fx Try.prog 77 [vl] h (fun v h' => ∃ (s : Value) (hs : List Hdr), v = s ∧ OwE encHd h' h.size 70 s hs ∧ OT encB h' h.size 4 hs (tabF xs.length (incF xs)) ∧ Ext h.size h h') := by
  refine fx_intro (n := 40) [(0, vl)] Try.func77 rfl rfl (by simp) ⟨rfl, trivial⟩ fun g0 => ?_
  refine wi_seq <| wi_reg rfl <| lx_assign (.slice none 0 0) rfl rfl <| lx_nil <| wi_seq <| wi_reg rfl <| lx_move (vl) rfl rfl <| lx_len rfl Try.underlying25 hr_vl rfl <| lx_make (E := encHd) (n := xs.length) (B := h.size) (default : Hdr) rfl rfl Try.underlying29 (eZ29) rfl rfl (by omega) (by omega) (Nat.le_refl _) (fun _ _ => trivial) fun v1 h1 ho1 hx1 hvb1 => ?_
  have ho2 := ho1.base (Nat.le_refl h.size)
  have hot1 := OT.rep encB h1 h.size 4 xs.length
  have hl_hot1 := hot1.1
  refine lx_assign (v1) rfl rfl <| lx_nil <| wi_seq <| wi_seq <| wi_reg rfl <| lx_move (vl) rfl rfl <| lx_len rfl Try.underlying25 hr_vl rfl <| lx_move (.int .i64 0) rfl rfl <| lx_nil <| wi_block <| ?_
  refine wi_loop (σ := Nat × (List Hdr) × (List (List Bool))) (rngB 13 39 [4, 5, 7]) (fun (ss : Nat × (List Hdr) × (List (List Bool))) => [(13, .int .i64 ((ss.1 : Nat) : Int))]) (fun (ss : Nat × (List Hdr) × (List (List Bool))) (hh : Heap) => OwE encHd hh h.size 70 v1 ss.2.1 ∧ OT encB hh h.size 4 ss.2.1 ss.2.2 ∧ Ext h.size h hh ∧ (ss.1 ≤ xs.length) ∧ (ss.2.2.length = xs.length) ∧ (∀ k, k < xs.length → gt ss.2.2 k = if k < ss.1 then rowF xs.length (incF xs k) else [])) (fun (ss : Nat × (List Hdr) × (List (List Bool))) => xs.length - ss.1) (0, List.replicate xs.length default, List.replicate xs.length []) ⟨rfl, trivial⟩ ⟨?_, ?_, hx1, ?_, ?_, ?_⟩ ?_
  · first | exact ho2 | (simpa using ho2)
  · first | exact hot1 | (simpa using hot1)
  · try dsimp only
    omega
  · try dsimp only
    simp
  · try dsimp only
    intro k hk; rw [gt_replicate hk, if_neg (by omega)]
  rintro g1 ⟨i, hs, r⟩ hh1 ⟨ho3, hot2, hx0_1, hi, hrl, hrw⟩ IH1
  dsimp only at *
  have hl_hot2 := hot2.1
  refine wi_seq <| wi_reg rfl <| lx_lssS rfl rfl rfl (fun c1 => ?_) (fun c1 => ?_)
  · refine lx_nil <| wi_seq <| wi_true rfl <| wi_skip <| wi_seq <| wi_block <| wi_seq <| wi_reg rfl <| ?_
    obtain ⟨a, hga, ha4⟩ : ∃ a : Nat, gt xs i = (a : Int) ∧ a < 4096 := ⟨(gt xs i).toNat, by have := hp2 i (by omega); omega, by have := hp2 i (by omega); omega⟩
    refine lx_move (.int .i64 ((i : Nat) : Int)) rfl rfl <| lx_ix (i := i) rfl eT25 hr_vl rfl rfl (by omega) <| lx_ld (i := i) (j := 0) (.int .i64 ((a : Nat) : Int)) rfl rfl fl3 (hr_vl.extS hx0_1) (by omega) (by show some (Value.int .i64 (gt xs i)) = _; rw [hga]) rfl <| lx_assign (.int .i64 ((i : Nat) : Int)) rfl rfl <| lx_assign (.int .i64 ((a : Nat) : Int)) rfl rfl <| lx_nil <| wi_seq <| wi_reg rfl <| lx_move (vl) rfl rfl <| lx_len rfl Try.underlying25 hr_vl rfl <| lx_move (.int .i64 0) rfl rfl <| lx_nil <| wi_block <| ?_
    refine wi_loop (σ := Nat × (List Hdr) × (List (List Bool))) (rngB 20 38 [7]) (fun (ss : Nat × (List Hdr) × (List (List Bool))) => [(20, .int .i64 ((ss.1 : Nat) : Int))]) (fun (ss : Nat × (List Hdr) × (List (List Bool))) (hh : Heap) => OwE encHd hh h.size 70 v1 ss.2.1 ∧ OT encB hh h.size 4 ss.2.1 ss.2.2 ∧ Ext h.size h hh ∧ (ss.1 ≤ xs.length) ∧ (ss.2.2.length = xs.length) ∧ (∀ k, k < xs.length → gt ss.2.2 k = if k < i then rowF xs.length (incF xs k) else if k = i then (List.range ss.1).map (incF xs i) else [])) (fun (ss : Nat × (List Hdr) × (List (List Bool))) => xs.length - ss.1) (0, hs, r) ⟨rfl, trivial⟩ ⟨?_, ?_, hx0_1, ?_, ?_, ?_⟩ ?_
    · first | exact ho3 | (simpa using ho3)
    · first | exact hot2 | (simpa using hot2)
    · try dsimp only
      omega
    · try dsimp only
      exact hrl
    · try dsimp only
      intro k hk; rw [hrw k hk]; split
      · rfl
      · split <;> rfl
    rintro g2 ⟨j, hs, r⟩ hh2 ⟨ho4, hot3, hx0_2, hj, hrl, hrw⟩ IH2
    dsimp only at *
    have hl_hot3 := hot3.1
    refine wi_seq <| wi_reg rfl <| lx_lssS rfl rfl rfl (fun c2 => ?_) (fun c2 => ?_)
    · refine lx_nil <| wi_seq <| wi_true rfl <| wi_skip <| wi_seq <| wi_block <| wi_seq <| wi_reg rfl <| ?_
      have hri : gt r i = (List.range j).map (incF xs i) := by rw [hrw i (by omega), if_neg (by omega), if_pos rfl]
      have hrl3 : (gt r i).length = j := by rw [hri]; simp
      obtain ⟨b, hgb, hb4⟩ : ∃ b : Nat, gt xs j = (b : Int) ∧ b < 4096 := ⟨(gt xs j).toNat, by have := hp2 j (by omega); omega, by have := hp2 j (by omega); omega⟩
      have hnl := andNot_le a b
      refine lx_ix (i := j) rfl eT25 hr_vl rfl rfl (by omega) <| lx_ld (i := j) (j := 0) (.int .i64 ((b : Nat) : Int)) rfl rfl fl3 (hr_vl.extS hx0_2) (by omega) (by show some (Value.int .i64 (gt xs j)) = _; rw [hgb]) rfl <| lx_assign (.int .i64 ((b : Nat) : Int)) rfl rfl <| lx_nil <| wi_reg rfl <| lx_move (v1) rfl rfl <| lx_move (.int .i64 ((i : Nat) : Int)) rfl rfl <| lx_move (v1) rfl rfl <| lx_move (.int .i64 ((i : Nat) : Int)) rfl rfl <| lx_ix (i := i) rfl eT29 ho4.rd rfl rfl (by omega) <| lx_ld (i := i) (j := 0) ((gt hs i).v) rfl rfl fl70 ho4.rd (by omega) rfl rfl <| lx_move (.int .i64 ((a : Nat) : Int)) rfl rfl <| lx_move (.int .i64 ((b : Nat) : Int)) rfl rfl <| lx_andNot (m := a) (n := b) rfl rfl rfl (by show _ < 2 ^ 64; omega) (by show _ < 2 ^ 64; omega) (wrap_i64 (by omega) (by omega)) <| lx_eql rfl rfl rfl <| lx_appendL (E := encB) (B := h.size) [decide (((andNot a b : Nat) : Int) = (0 : Int))] [.bool (decide (((andNot a b : Nat) : Int) = (0 : Int)))] rfl rfl (fun _ => rfl) rfl eT70 rfl rfl rfl rfl (hot3.2.1 i (by omega)) (fun _ => rfl) (by show (gt r i).length + 1 ≤ _; omega) (by show ((gt r i).length + 1) * 1 ≤ _; omega) hx0_2.size (fun _ _ => trivial) fun u1 v2 h2 ho5 hc1 hg1 => ?_
      have hx0_3 := hx0_2.trans ((hot3.2.1 i (by omega)).ext hc1 hx0_2.size)
      have ho6 := ho4.chg hc1 (Dj.symm ((djt_ty hot3 ho4 (by decide)) i (by rw [hot3.1]; exact (by omega))))
      have hot4 := OT.app hot3 (by omega) hc1 ho5 hg1
      refine lx_ix (i := i) rfl eT29 ho6.rd rfl rfl (by omega) <| lx_st (i := i) (hdrOf v2) rfl rfl Try.sizeOf70 ho6 (by omega) rfl (hdr_cells ho5.rd) (fun _ _ _ _ _ => trivial) fun h3 ho7 hc2 hsz1 => ?_
      have hx0_4 := hx0_3.trans (ho6.ext hc2 hx0_3.size)
      have hot5 : OT encB h3 h.size 4 (hs.set i (hdrOf v2)) (r.set i ((gt r i) ++ [decide (((andNot a b : Nat) : Int) = (0 : Int))])) := hot4.chg hc2 (djt_ty hot4 ho6 (by decide))
      have hl_hot5 := hot5.1
      have ho7 : OwE encHd h3 h.size 70 v1 (hs.set i (hdrOf v2)) := ho7
      refine lx_nil <| wi_inBlock <| wi_reg rfl <| lx_add (((j + 1 : Nat) : Int)) rfl rfl rfl (by omega) (by omega) (by omega) <| lx_move (.int .i64 ((j + 1 : Nat) : Int)) rfl rfl <| lx_nil <| ?_
      -- L2.1
      refine IH2 _ _ (j + 1, hs.set i (hdrOf v2), r.set i ((gt r i) ++ [decide (((andNot a b : Nat) : Int) = (0 : Int))])) (agree_ups rfl agree_self) ⟨rfl, trivial⟩ ⟨?_, ?_, hx0_4, ?_, ?_, ?_⟩ ?_
      · first | exact ho7 | (simpa using ho7)
      · first | exact hot5 | (simpa using hot5)
      · try dsimp only
        omega
      · try dsimp only
        simpa using hrl
      · try dsimp only
        intro k hk
        rw [gt_set (by omega)]
        by_cases e : k = i
        · subst e; rw [if_pos rfl, if_neg (by omega), if_pos rfl, hri, List.range_succ, List.map_append]
          congr 1
          show [decide _] = [incF xs k j]
          rw [incl_D]; unfold incF; rw [hga, hgb]; rfl
        · rw [if_neg e, hrw k hk]; simp only [if_neg e]
      · first | omega | (dsimp only; omega)
    · refine lx_nil <| wi_seq <| wi_false rfl <| wi_exit rfl <| wi_inBlock <| wi_reg rfl <| lx_add (((i + 1 : Nat) : Int)) rfl rfl rfl (by omega) (by omega) (by omega) <| lx_move (.int .i64 ((i + 1 : Nat) : Int)) rfl rfl <| lx_nil <| ?_
      -- L0.1
      refine IH1 _ _ (i + 1, hs, r) (agree_ups rfl (agree_mix (rngB_sub (by decide) (by decide) rfl) (agree_ups rfl agree_self))) ⟨rfl, trivial⟩ ⟨?_, ?_, hx0_2, ?_, ?_, ?_⟩ ?_
      · first | exact ho4 | (simpa using ho4)
      · first | exact hot3 | (simpa using hot3)
      · try dsimp only
        omega
      · try dsimp only
        exact hrl
      · try dsimp only
        intro k hk
        rw [hrw k hk]
        by_cases e : k < i
        · rw [if_pos e, if_pos (by omega)]
        · rw [if_neg e]
          by_cases e2 : k = i
          · subst e2; rw [if_pos rfl, if_pos (by omega), show j = xs.length from by omega]; rfl
          · rw [if_neg e2, if_neg (by omega)]
      · first | omega | (dsimp only; omega)
  · refine lx_nil <| wi_seq <| wi_false rfl <| wi_exit rfl <| wi_seq <| wi_reg rfl <| lx_move (v1) rfl rfl <| lx_assign (v1) rfl rfl <| lx_nil <| ?_
    -- R1
    refine wi_ret ⟨v1, (res_one rfl rfl), ⟨v1, hs, rfl, ?_, ?_, hx0_1⟩⟩
    · exact ho3
    · rw [← tab_rows hrl (fun k hk => by rw [hrw k hk, if_pos (by omega)])]; exact hot2

end Go.Proofs.Ytdokijbdnajhgaa
namespace Go.X
theorem nodup_le {α : Type} [DecidableEq α] : ∀ {l l' : List α}, l.Nodup → (∀ x, x ∈ l → x ∈ l') → l.length ≤ l'.length
  | [], _, _, _ => Nat.zero_le _
  | x :: l, l', hn, hs => by
    rw [List.nodup_cons] at hn
    have hx := hs x (List.mem_cons_self ..)
    have h1 : l.length ≤ (l'.erase x).length := nodup_le hn.2 fun y hy => by
      have hne : y ≠ x := fun e => hn.1 (e ▸ hy)
      exact (List.mem_erase_of_ne hne).2 (hs y (List.mem_cons_of_mem _ hy))
    rw [List.length_erase_of_mem hx] at h1
    have : 0 < l'.length := List.length_pos_of_mem hx
    simp only [List.length_cons]; omega
theorem nodup_map {α β : Type} {f : α → β} : ∀ {l : List α}, l.Nodup → (∀ x y, x ∈ l → y ∈ l → f x = f y → x = y) → (l.map f).Nodup
  | [], _, _ => List.nodup_nil
  | x :: l, hn, hi => by
    rw [List.nodup_cons] at hn
    rw [List.map_cons, List.nodup_cons]
    refine ⟨fun hm => ?_, nodup_map hn.2 fun a b ha hb => hi a b (List.mem_cons_of_mem _ ha) (List.mem_cons_of_mem _ hb)⟩
    obtain ⟨y, hy, e⟩ := List.mem_map.1 hm
    exact hn.1 (hi y x (List.mem_cons_of_mem _ hy) (List.mem_cons_self ..) e ▸ hy)
theorem count_lt {p q : Nat → Bool} (h : ∀ i, q i = true → p i = true) : ∀ {n : Nat}, (∃ j, j < n ∧ p j = true ∧ q j = false) → (List.range n).countP q < (List.range n).countP p
  | 0, ⟨j, hj, _⟩ => absurd hj (by omega)
  | n + 1, ⟨j, hj, h1, h2⟩ => by
    rw [List.range_succ, List.countP_append, List.countP_append]
    have hle : ∀ m, (List.range m).countP q ≤ (List.range m).countP p := fun m => List.countP_mono_left fun x _ => h x
    simp only [List.countP_cons, List.countP_nil]
    by_cases e : j = n
    · subst e
      rw [h1, h2]
      have := hle j
      simp; omega
    · have := count_lt h (n := n) ⟨j, by omega, h1, h2⟩
      cases c : q n
      · simp; split <;> omega
      · rw [h n c]; simp; omega

end Go.X
namespace Go.X
/-- Sums over 0, 1, .. below 'n'. -/
def sumI : Nat → (Nat → Int) → Int
  | 0, _ => 0
  | n + 1, g => sumI n g + g n
theorem sumI_congr : ∀ {n : Nat} {f g : Nat → Int}, (∀ i, i < n → f i = g i) → sumI n f = sumI n g
  | 0, _, _, _ => rfl
  | n + 1, f, g, h => by
    show sumI n f + f n = sumI n g + g n
    rw [sumI_congr fun i hi => h i (by omega), h n (by omega)]
theorem sumI_bound {B : Int} (hB : 0 ≤ B) : ∀ {n : Nat} {g : Nat → Int}, (∀ i, i < n → -B ≤ g i ∧ g i ≤ B) → -(n * B) ≤ sumI n g ∧ sumI n g ≤ n * B
  | 0, _, _ => by simp [sumI]
  | n + 1, g, h => by
    have h1 := sumI_bound hB (n := n) (g := g) fun i hi => h i (by omega)
    have h2 := h n (by omega)
    have h3 : ((n + 1 : Nat) : Int) * B = n * B + B := by rw [Int.natCast_add, Int.add_mul]; simp
    show -(((n + 1 : Nat) : Int) * B) ≤ sumI n g + g n ∧ sumI n g + g n ≤ ((n + 1 : Nat) : Int) * B
    rw [h3]
    omega
theorem sumI_add (n : Nat) (f g : Nat → Int) : sumI n (fun i => f i + g i) = sumI n f + sumI n g := by
  induction n with
  | zero => rfl
  | succ n ih => show sumI n _ + (f n + g n) = (sumI n f + f n) + (sumI n g + g n); rw [ih]; omega
theorem sumI_zero {n : Nat} {g : Nat → Int} (h : ∀ i, i < n → g i = 0) : sumI n g = 0 := by
  induction n with
  | zero => rfl
  | succ n ih => show sumI n g + g n = 0; rw [ih fun i hi => h i (by omega), h n (by omega)]; rfl
theorem sumI_one {n k : Nat} {g : Nat → Int} (hk : k < n) (h : ∀ i, i < n → i ≠ k → g i = 0) : sumI n g = g k := by
  induction n with
  | zero => omega
  | succ n ih =>
    show sumI n g + g n = g k
    by_cases e : k = n
    · subst e; rw [sumI_zero fun i hi => h i (by omega) (by omega)]; omega
    · rw [ih (by omega) fun i hi => h i (by omega), h n (by omega) (Ne.symm e)]; omega
theorem sumI_swap (m n : Nat) (g : Nat → Nat → Int) : sumI m (fun i => sumI n (g i)) = sumI n (fun j => sumI m fun i => g i j) := by
  induction m with
  | zero => exact (sumI_zero fun _ _ => rfl).symm
  | succ m ih => show sumI m _ + sumI n (g m) = sumI n (fun j => sumI m (fun i => g i j) + g m j); rw [ih, sumI_add]

/-- How many are at most an element. -/
def cntD (n : Nat) (f : Nat → Nat → Bool) (y : Nat) : Nat := (List.range n).countP fun z => f z y
theorem cntD_le (n : Nat) (f : Nat → Nat → Bool) (y : Nat) : cntD n f y ≤ n := by
  have := List.countP_le_length (p := fun z => f z y) (l := List.range n)
  simpa [cntD] using this
theorem cntD_pos {n y : Nat} {f : Nat → Nat → Bool} (ho : IsO n f) (hy : y < n) : 0 < cntD n f y := List.countP_pos_iff.2 ⟨y, List.mem_range.2 hy, ho.refl hy⟩
theorem cntD_lt {n y z : Nat} {f : Nat → Nat → Bool} (ho : IsO n f) (hz : z < n) (hy : y < n) (h : f z y = true) (hne : z ≠ y) : cntD n f z < cntD n f y := by
  have h9 : (List.range n).countP (fun i => decide (i < n) && f i z) < (List.range n).countP (fun i => decide (i < n) && f i y) := count_lt (fun i hi => by
    rw [Bool.and_eq_true, decide_eq_true_iff] at hi ⊢
    exact ⟨hi.1, ho.trans hi.1 hz hy hi.2 h⟩) ⟨y, hy, by rw [decide_eq_true hy, ho.refl hy]; rfl, by
      cases c : f y z
      · simp
      · exact absurd (ho.anti hz hy h c) hne⟩
  have e : ∀ g : Nat → Bool, (List.range n).countP (fun i => decide (i < n) && g i) = (List.range n).countP g := fun g => List.countP_congr fun i hi => by rw [decide_eq_true (List.mem_range.1 hi)]; simp
  rw [e, e] at h9
  exact h9
/-- What is strictly between, with the lower end. -/
def btw (f : Nat → Nat → Bool) (x y z : Nat) : Bool := f x z && f z y && decide (z ≠ y)
def muA (n : Nat) (f : Nat → Nat → Bool) : Nat → Nat → Nat → Int
  | 0, _, _ => 0
  | k + 1, x, y => if x = y then 1 else if f x y then -sumI n fun z => if btw f x y z then muA n f k x z else 0 else 0
theorem muA_stable {n : Nat} {f : Nat → Nat → Bool} (ho : IsO n f) : ∀ (k l : Nat) {x y : Nat}, x < n → y < n → cntD n f y ≤ k → cntD n f y ≤ l → muA n f k x y = muA n f l x y
  | 0, _, x, y, hx, hy, h1, _ => absurd (cntD_pos ho hy) (by omega)
  | _ + 1, 0, x, y, hx, hy, _, h2 => absurd (cntD_pos ho hy) (by omega)
  | k + 1, l + 1, x, y, hx, hy, h1, h2 => by
    unfold muA
    by_cases e : x = y
    · rw [if_pos e, if_pos e]
    · rw [if_neg e, if_neg e]
      split
      · congr 1
        refine sumI_congr fun z hz => ?_
        cases hb : btw f x y z
        · rfl
        · rw [if_pos rfl, if_pos rfl]
          unfold btw at hb
          simp only [Bool.and_eq_true, decide_eq_true_iff] at hb
          have := cntD_lt ho hz hy hb.1.2 hb.2
          exact muA_stable ho k l hx hz (by omega) (by omega)
      · rfl
def muF (n : Nat) (f : Nat → Nat → Bool) (x y : Nat) : Int := muA n f (n + 1) x y
theorem muF_self {n x : Nat} {f : Nat → Nat → Bool} : muF n f x x = 1 := by unfold muF muA; rw [if_pos rfl]
theorem muF_out {n x y : Nat} {f : Nat → Nat → Bool} (hne : x ≠ y) (h : f x y = false) : muF n f x y = 0 := by unfold muF muA; rw [if_neg hne, h]; rfl
theorem muF_in {n x y : Nat} {f : Nat → Nat → Bool} (ho : IsO n f) (hx : x < n) (hy : y < n) (hne : x ≠ y) (h : f x y = true) : muF n f x y = -sumI n fun z => if btw f x y z then muF n f x z else 0 := by
  rw [show muF n f x y = muA n f (n + 1) x y from rfl]
  rw [muA, if_neg hne, if_pos h]
  congr 1
  refine sumI_congr fun z hz => ?_
  cases hb : btw f x y z
  · rfl
  · rw [if_pos rfl, if_pos rfl]
    unfold btw at hb
    simp only [Bool.and_eq_true, decide_eq_true_iff] at hb
    have h1 := cntD_lt ho hz hy hb.1.2 hb.2
    have h2 := cntD_le n f y
    have h3 := cntD_le n f z
    exact muA_stable ho n (n + 1) hx hz (by omega) (by omega)
theorem muA_bound {n : Nat} {f : Nat → Nat → Bool} : ∀ (k x y : Nat), -(((n + 1) ^ k : Nat) : Int) ≤ muA n f k x y ∧ muA n f k x y ≤ (((n + 1) ^ k : Nat) : Int)
  | 0, x, y => by simp [muA]
  | k + 1, x, y => by
    have hp : 0 < (n + 1) ^ (k + 1) := Nat.pow_pos (by omega)
    have hp0 : 0 < (n + 1) ^ k := Nat.pow_pos (by omega)
    unfold muA
    split
    · omega
    · split
      · have h := sumI_bound (B := (((n + 1) ^ k : Nat) : Int)) (by omega) (n := n) (g := fun z => if btw f x y z then muA n f k x z else 0) fun i _ => by
          skip
          split
          · exact muA_bound k x i
          · omega
        have e : ((n : Nat) : Int) * (((n + 1) ^ k : Nat) : Int) ≤ (((n + 1) ^ (k + 1) : Nat) : Int) := by
          rw [Nat.pow_succ, ← Int.natCast_mul]
          have : n * (n + 1) ^ k ≤ (n + 1) ^ k * (n + 1) := by rw [Nat.mul_comm]; exact Nat.mul_le_mul_left _ (by omega)
          omega
        omega
      · omega
theorem muF_bound {n : Nat} {f : Nat → Nat → Bool} (hn : n ≤ 12) (x y : Nat) : -302875106592253 ≤ muF n f x y ∧ muF n f x y ≤ 302875106592253 := by
  have h := muA_bound (n := n) (f := f) (n + 1) x y
  have h1 : (n + 1) ^ (n + 1) ≤ 13 ^ 13 := Nat.le_trans (Nat.pow_le_pow_left (by omega) _) (Nat.pow_le_pow_right (by omega) (by omega))
  have h2 : (13 : Nat) ^ 13 = 302875106592253 := by decide
  unfold muF
  omega
/-- A list of all elements, in which none comes before one below it. -/
structure LinL (n : Nat) (f : Nat → Nat → Bool) (xs : List Int) : Prop where
  len : xs.length = n
  rng : ∀ i, i < n → ∃ a : Nat, gt xs i = (a : Int) ∧ a < n
  all : ∀ a : Nat, a < n → ∃ i, i < n ∧ gt xs i = (a : Int)
  ord : ∀ i j, i < n → j < n → f (gt xs i).toNat (gt xs j).toNat = true → i ≠ j → i < j
  inj : ∀ i j, i < n → j < n → gt xs i = gt xs j → i = j
end Go.X
namespace Go.X
/-- All numbers below 'n', in some order. -/
structure PermL (n : Nat) (xs : List Int) : Prop where
  len : xs.length = n
  rng : ∀ i, i < n → ∃ a : Nat, gt xs i = (a : Int) ∧ a < n
  inj : ∀ i j, i < n → j < n → gt xs i = gt xs j → i = j
  all : ∀ a : Nat, a < n → ∃ i, i < n ∧ gt xs i = (a : Int)
def swI (i j k : Nat) : Nat := if k = j then i else if k = i then j else k
theorem swI_lt {i j k n : Nat} (hi : i < n) (hj : j < n) (hk : k < n) : swI i j k < n := by unfold swI; split <;> (try split) <;> omega
theorem swI_swI (i j k : Nat) : swI i j (swI i j k) = k := by unfold swI; split <;> (try split) <;> (try split) <;> (try split) <;> omega
theorem gt_swI {xs : List Int} {i j : Nat} (hi : i < xs.length) (hj : j < xs.length) (k : Nat) : gt ((xs.set i (gt xs j)).set j (gt xs i)) k = gt xs (swI i j k) := by
  rw [gt_set (by simpa using hj), gt_set hi]
  unfold swI
  split
  · rfl
  · split <;> rfl
theorem PermL.swap {n : Nat} {xs : List Int} (h : PermL n xs) {i j : Nat} (hi : i < n) (hj : j < n) : PermL n ((xs.set i (gt xs j)).set j (gt xs i)) := by
  have hl := h.len
  have hg := fun k => gt_swI (xs := xs) (i := i) (j := j) (by omega) (by omega) k
  refine ⟨by simp [hl], fun k hk => ?_, fun a b ha hb e => ?_, fun a ha => ?_⟩
  · rw [hg]; exact h.rng _ (swI_lt hi hj hk)
  · rw [hg, hg] at e
    have := h.inj _ _ (swI_lt hi hj ha) (swI_lt hi hj hb) e
    rw [← swI_swI i j a, this, swI_swI]
  · obtain ⟨k, hk, e⟩ := h.all a ha
    exact ⟨swI i j k, swI_lt hi hj hk, by rw [hg, swI_swI]; exact e⟩
theorem permL_iota (n : Nat) (xs : List Int) (hl : xs.length = n) (hg : ∀ i, i < n → gt xs i = ((i : Nat) : Int)) : PermL n xs :=
  ⟨hl, fun i hi => ⟨i, hg i hi, hi⟩, fun i j hi hj e => by rw [hg i hi, hg j hj] at e; omega, fun a ha => ⟨a, ha, hg a ha⟩⟩
abbrev kyF (K : Nat → Nat) (xs : List Int) (i : Nat) : Nat := K (gt xs i).toNat
/-- The first 'm' rise. -/
def RiseK (K : Nat → Nat) (xs : List Int) (m : Nat) : Prop := ∀ a b, a < b → b < m → kyF K xs a ≤ kyF K xs b
/-- The first 'm' rise but for what stands at 'j', which may be too great for those before it. -/
def RiseJ (K : Nat → Nat) (xs : List Int) (m j : Nat) : Prop := ∀ a b, a < b → b < m → b ≠ j → kyF K xs a ≤ kyF K xs b
theorem riseJ_start {K : Nat → Nat} {xs : List Int} {i : Nat} (h : RiseK K xs i) : RiseJ K xs (i + 1) i := fun a b hab hb hne => h a b hab (by omega)
theorem riseJ_stop {K : Nat → Nat} {xs : List Int} {i j : Nat} (h : RiseJ K xs (i + 1) j) (hj : j = 0 ∨ ¬ kyF K xs j < kyF K xs (j - 1)) : RiseK K xs (i + 1) := fun a b hab hb => by
  by_cases e : b = j
  · subst e
    rcases hj with h0 | h0
    · omega
    · by_cases ea : a = b - 1
      · subst ea; omega
      · have := h a (b - 1) (by omega) (by omega) (by omega); omega
  · exact h a b hab hb e
theorem riseJ_step {K : Nat → Nat} {n : Nat} {xs : List Int} {i j : Nat} (hp : PermL n xs) (hi : i < n) (hji : j ≤ i) (h : RiseJ K xs (i + 1) j) (hj : 0 < j) (hlt : kyF K xs j < kyF K xs (j - 1)) :
    RiseJ K ((xs.set j (gt xs (j - 1))).set (j - 1) (gt xs j)) (i + 1) (j - 1) := fun a b hab hb hne => by
  have hl := hp.len
  have hg := fun k => gt_swI (xs := xs) (i := j) (j := j - 1) (by omega) (by omega) k
  show K _ ≤ K _
  rw [hg, hg]
  have hs : ∀ k, swI j (j - 1) k = if k = j - 1 then j else if k = j then j - 1 else k := fun k => rfl
  rw [hs, hs, if_neg hne]
  by_cases e1 : b = j
  · rw [if_pos e1]
    by_cases e2 : a = j - 1
    · rw [if_pos e2]; exact Nat.le_of_lt hlt
    · rw [if_neg e2, if_neg (by omega)]; exact h a (j - 1) (by omega) (by omega) (by omega)
  · rw [if_neg e1]
    by_cases e2 : a = j - 1
    · rw [if_pos e2]; exact h j b (by omega) hb e1
    · rw [if_neg e2]
      by_cases e3 : a = j
      · rw [if_pos e3]; exact h (j - 1) b (by omega) hb e1
      · rw [if_neg e3]; exact h a b hab hb e1
/-- What rises by the number of elements at most it is a list in which none comes before one below it. -/
theorem linL {n : Nat} {f : Nat → Nat → Bool} (ho : IsO n f) {xs : List Int} (hp : PermL n xs) (hr : RiseK (cntD n f) xs n) : LinL n f xs :=
  ⟨hp.len, hp.rng, hp.all, fun i j hi hj hf hne => by
    refine Classical.byContradiction fun hc => ?_
    obtain ⟨a, ha, ha2⟩ := hp.rng i hi
    obtain ⟨b, hb, hb2⟩ := hp.rng j hj
    have h1 := hr j i (by omega) hi
    rw [ha, hb, Int.toNat_natCast, Int.toNat_natCast] at hf
    unfold kyF at h1
    rw [ha, hb, Int.toNat_natCast, Int.toNat_natCast] at h1
    have := cntD_lt ho ha2 hb2 hf (fun e => hne (hp.inj i j hi hj (by rw [ha, hb, e])))
    omega, hp.inj⟩
end Go.X
namespace Go.Proofs.Ytdokijbdnajhgaa
open Go Go.X

set_option maxRecDepth 10000 in
theorem below_spec (h : Heap) (vp : Value) (hs : List Hdr) (p : List (List Bool)) (x : Nat) (y : Nat) (hr_vp : RdE encHd h vp hs) (ht_vp : RT encB h hs p) (hp1 : p.length ≤ 12) (hp2 : Sq p p.length) (hp3 : x < p.length) (hp4 : y < p.length) : Fx Try.prog 106 [vp, .int .i64 ((x : Nat) : Int), .int .i64 ((y : Nat) : Int)] h (fun v h' => v = .bool (decide (x ≠ y) && pb p x y) ∧ h = h') := by
  have hl_vp := ht_vp.1
  refine fx_intro (n := 19) [(0, vp), (1, .int .i64 ((x : Nat) : Int)), (2, .int .i64 ((y : Nat) : Int))] Try.func106 rfl rfl (by simp) ⟨rfl, rfl, rfl, trivial⟩ fun g0 => ?_
  refine wi_seq <| wi_reg rfl <| lx_assign (.bool false) rfl rfl <| lx_nil <| wi_seq <| wi_reg rfl <| lx_move (.int .i64 ((x : Nat) : Int)) rfl rfl <| lx_move (.int .i64 ((y : Nat) : Int)) rfl rfl <| lx_neqS rfl rfl rfl (fun c1 => ?_) (fun c1 => ?_)
  · refine lx_move (.bool true) rfl rfl <| lx_move (vp) rfl rfl <| lx_move (.int .i64 ((x : Nat) : Int)) rfl rfl <| lx_ix (i := x) rfl eT29 hr_vp rfl rfl (by omega) <| lx_ld (i := x) (j := 0) ((gt hs x).v) rfl rfl fl70 hr_vp (by omega) rfl rfl <| lx_move (.int .i64 ((y : Nat) : Int)) rfl rfl <| lx_ix (i := y) rfl eT70 (ht_vp.2 x (by omega)) rfl rfl (by rw [hp2.2 x (by omega)]; omega) <| lx_ld (i := y) (j := 0) (.bool (gt (gt p x) y)) rfl rfl fl4 (ht_vp.2 x (by omega)) (by rw [hp2.2 x (by omega)]; omega) rfl rfl <| lx_pick true (.bool (gt (gt p x) y)) rfl rfl rfl <| lx_assign (.bool (gt (gt p x) y)) rfl rfl <| lx_nil <| ?_
    -- R1
    refine wi_ret ⟨.bool (gt (gt p x) y), (res_one rfl rfl), ⟨?_, rfl⟩⟩
    · congr 1
      first
      | (rw [decide_eq_true (show x ≠ y by omega)]; simp; done)
      | (rw [decide_eq_false (show ¬ x ≠ y by omega)]; rfl)
      | (rw [show pb p x y = true from by assumption, decide_eq_true (show x ≠ y by omega)]; rfl)
      | (rw [show pb p x y = false from by assumption]; simp)
  · refine lx_move (.bool false) rfl rfl <| lx_skip rfl <| lx_skip rfl <| lx_skip rfl <| lx_skip rfl <| lx_skip rfl <| lx_skip rfl <| lx_skip rfl <| lx_pick false (.bool false) rfl rfl rfl <| lx_assign (.bool false) rfl rfl <| lx_nil <| ?_
    -- R2
    refine wi_ret ⟨.bool false, (res_one rfl rfl), ⟨?_, rfl⟩⟩
    · congr 1
      first
      | (rw [decide_eq_true (show x ≠ y by omega)]; simp; done)
      | (rw [decide_eq_false (show ¬ x ≠ y by omega)]; rfl)
      | (rw [show pb p x y = true from by assumption, decide_eq_true (show x ≠ y by omega)]; rfl)
      | (rw [show pb p x y = false from by assumption]; simp)

set_option maxRecDepth 10000 in
theorem size_up_spec (h : Heap) (x : Nat) (vp : Value) (hs : List Hdr) (p : List (List Bool)) (b1 : Nat) (hb_b1 : Blk h b1 (#[vp]) 29) (hr_vp : RdE encHd h vp hs) (ht_vp : RT encB h hs p) (hp1 : p.length ≤ 12) (hp2 : Sq p p.length) (hp3 : x < p.length) : Fx Try.prog 136 [.int .i64 ((x : Nat) : Int), .pointer (some ⟨b1, 0, none⟩)] h (fun v h' => v = .int .i64 ((cntD p.length (pb p) x : Nat) : Int) ∧ h = h') := by
  have hl_vp := ht_vp.1
  refine fx_intro (n := 22) [(0, .int .i64 ((x : Nat) : Int)), (1, .pointer (some ⟨b1, 0, none⟩))] Try.func136 rfl rfl (by simp) ⟨rfl, rfl, trivial⟩ fun g0 => ?_
  refine wi_seq <| wi_reg rfl <| lx_assign (.int .i64 0) rfl rfl <| lx_nil <| wi_seq <| wi_reg rfl <| lx_assign (.int .i64 0) rfl rfl <| lx_nil <| wi_seq <| wi_seq <| wi_reg rfl <| lx_ldB (vp) rfl rfl fl29 hb_b1 rfl rfl <| lx_len rfl Try.underlying29 hr_vp rfl <| lx_move (.int .i64 0) rfl rfl <| lx_nil <| wi_block <| ?_
  refine wi_loop (σ := Nat × Nat) (rngB 8 21 [4, 5]) (fun (ss : Nat × Nat) => [(8, .int .i64 ((ss.1 : Nat) : Int)), (4, .int .i64 ((ss.2 : Nat) : Int))]) (fun (ss : Nat × Nat) (hh : Heap) => h = hh ∧ (ss.1 ≤ p.length) ∧ (ss.2 = (List.range ss.1).countP fun z => pb p z x)) (fun (ss : Nat × Nat) => p.length - ss.1) (0, 0) ⟨rfl, rfl, trivial⟩ ⟨rfl, ?_, ?_⟩ ?_
  · try dsimp only
    omega
  · try dsimp only
    first | done | rfl
  rintro g1 ⟨y, n⟩ hh1 ⟨rfl, hy, hn⟩ IH1
  dsimp only at *
  have hnl : n ≤ y := by rw [hn]; have := List.countP_le_length (p := fun z => pb p z x) (l := List.range y); simpa using this
  refine wi_seq <| wi_reg rfl <| lx_lssS rfl rfl rfl (fun c1 => ?_) (fun c1 => ?_)
  · refine lx_nil <| wi_seq <| wi_true rfl <| wi_skip <| wi_seq <| wi_block <| wi_seq <| wi_reg rfl <| lx_move (.int .i64 ((y : Nat) : Int)) rfl rfl <| lx_assign (.int .i64 ((y : Nat) : Int)) rfl rfl <| lx_nil <| wi_seq <| wi_reg rfl <| lx_ldB (vp) rfl rfl fl29 hb_b1 rfl rfl <| lx_move (.int .i64 ((y : Nat) : Int)) rfl rfl <| lx_ix (i := y) rfl eT29 hr_vp rfl rfl (by omega) <| lx_ld (i := y) (j := 0) ((gt hs y).v) rfl rfl fl70 hr_vp (by omega) rfl rfl <| lx_move (.int .i64 ((x : Nat) : Int)) rfl rfl <| lx_ix (i := x) rfl eT70 (ht_vp.2 y (by omega)) rfl rfl (by rw [hp2.2 y (by omega)]; omega) <| lx_ld (i := x) (j := 0) (.bool (gt (gt p y) x)) rfl rfl fl4 (ht_vp.2 y (by omega)) (by rw [hp2.2 y (by omega)]; omega) rfl rfl <| lx_nil <| wi_condS (t := gt (gt p y) x) rfl (fun c2 => ?_) (fun c2 => ?_)
    · refine wi_reg rfl <| lx_move (.int .i64 ((n : Nat) : Int)) rfl rfl <| lx_add (((n + 1 : Nat) : Int)) rfl rfl rfl (by omega) (by omega) (by omega) <| lx_assign (.int .i64 ((n + 1 : Nat) : Int)) rfl rfl <| lx_nil <| wi_inBlock <| wi_reg rfl <| lx_add (((y + 1 : Nat) : Int)) rfl rfl rfl (by omega) (by omega) (by omega) <| lx_move (.int .i64 ((y + 1 : Nat) : Int)) rfl rfl <| lx_nil <| ?_
      -- L0.1
      refine IH1 _ _ (y + 1, n + 1) (agree_ups rfl agree_self) ⟨rfl, rfl, trivial⟩ ⟨rfl, ?_, ?_⟩ ?_
      · try dsimp only
        omega
      · try dsimp only
        rw [List.range_succ, List.countP_append, ← hn]
        first
        | (rw [List.countP_cons, show pb p y x = true from by assumption]; rfl)
        | (rw [List.countP_cons, show pb p y x = false from by assumption]; rfl)
      · first | omega | (dsimp only; omega)
    · refine wi_skip <| wi_inBlock <| wi_reg rfl <| lx_add (((y + 1 : Nat) : Int)) rfl rfl rfl (by omega) (by omega) (by omega) <| lx_move (.int .i64 ((y + 1 : Nat) : Int)) rfl rfl <| lx_nil <| ?_
      -- L0.2
      refine IH1 _ _ (y + 1, n) (agree_ups rfl agree_self) ⟨rfl, rfl, trivial⟩ ⟨rfl, ?_, ?_⟩ ?_
      · try dsimp only
        omega
      · try dsimp only
        rw [List.range_succ, List.countP_append, ← hn]
        first
        | (rw [List.countP_cons, show pb p y x = true from by assumption]; rfl)
        | (rw [List.countP_cons, show pb p y x = false from by assumption]; rfl)
      · first | omega | (dsimp only; omega)
  · refine lx_nil <| wi_seq <| wi_false rfl <| wi_exit rfl <| wi_seq <| wi_reg rfl <| lx_move (.int .i64 ((n : Nat) : Int)) rfl rfl <| lx_assign (.int .i64 ((n : Nat) : Int)) rfl rfl <| lx_nil <| ?_
    -- R1
    refine wi_ret ⟨.int .i64 ((n : Nat) : Int), (res_one rfl rfl), ⟨?_, rfl⟩⟩
    · rw [hn, show y = p.length from by omega]; rfl

set_option maxRecDepth 10000 in
theorem cmp_up_spec (h : Heap) (x : Nat) (y : Nat) (vp : Value) (hs : List Hdr) (p : List (List Bool)) (b5 : Nat) (b1 : Nat) (hb_b5 : Blk h b5 (#[.func (.func 136) #[] #[.pointer (some ⟨b1, 0, none⟩)]]) 111) (hb_b1 : Blk h b1 (#[vp]) 29) (hr_vp : RdE encHd h vp hs) (ht_vp : RT encB h hs p) (hp1 : p.length ≤ 12) (hp2 : Sq p p.length) (hp3 : x < p.length) (hp4 : y < p.length) : Fx Try.prog 138 [.int .i64 ((x : Nat) : Int), .int .i64 ((y : Nat) : Int), .pointer (some ⟨b5, 0, none⟩)] h (fun v h' => v = .int .i64 (((cntD p.length (pb p) x : Nat) : Int) - ((cntD p.length (pb p) y : Nat) : Int)) ∧ h = h') := by
  have hl_vp := ht_vp.1
  refine fx_intro (n := 13) [(0, .int .i64 ((x : Nat) : Int)), (1, .int .i64 ((y : Nat) : Int)), (2, .pointer (some ⟨b5, 0, none⟩))] Try.func138 rfl rfl (by simp) ⟨rfl, rfl, rfl, trivial⟩ fun g0 => ?_
  refine wi_seq <| wi_reg rfl <| lx_assign (.int .i64 0) rfl rfl <| lx_nil <| wi_seq <| wi_drawS (fun h9 => h = h9) (fun o => match o.dst with | some 6 | some 9 => .free | _ => kindOf o) mo rfl (by decide +kernel) rfl <| ?_
  have h1 := cntD_le p.length (pb p) x
  have h2 := cntD_le p.length (pb p) y
  refine lx_ldBF (.func (.func 136) #[] #[.pointer (some ⟨b1, 0, none⟩)]) rfl fl111 (fun _ e9 => e9 ▸ hb_b5) rfl rfl <| lx_move (.int .i64 ((x : Nat) : Int)) rfl rfl <| lx_callV [] [.pointer (some ⟨b1, 0, none⟩)] [.int .i64 ((x : Nat) : Int)] rfl rfl Try.call136 rfl rfl (size_up_spec h x vp hs p b1 hb_b1 hr_vp ht_vp (by omega) (by first | with_reducible assumption | omega) (by omega)) (by rintro _ _ ⟨_, e⟩; exact e) ?_
  rintro _ h1 ⟨rfl, rfl⟩
  refine lx_ldBF (.func (.func 136) #[] #[.pointer (some ⟨b1, 0, none⟩)]) rfl fl111 (fun _ e9 => e9 ▸ hb_b5) rfl rfl <| lx_move (.int .i64 ((y : Nat) : Int)) rfl rfl <| lx_callV [] [.pointer (some ⟨b1, 0, none⟩)] [.int .i64 ((y : Nat) : Int)] rfl rfl Try.call136 rfl rfl (size_up_spec h y vp hs p b1 hb_b1 hr_vp ht_vp (by omega) (by first | with_reducible assumption | omega) (by omega)) (by rintro _ _ ⟨_, e⟩; exact e) ?_
  rintro _ h2 ⟨rfl, rfl⟩
  refine lx_sub ((((cntD p.length (pb p) x : Nat) : Int)) - (((cntD p.length (pb p) y : Nat) : Int))) rfl rfl rfl (by omega) (by omega) (by omega) <| lx_assign (.int .i64 ((((cntD p.length (pb p) x : Nat) : Int)) - (((cntD p.length (pb p) y : Nat) : Int)))) rfl rfl <| lx_nil <| ?_
  -- R1
  refine wi_ret ⟨.int .i64 ((((cntD p.length (pb p) x : Nat) : Int)) - (((cntD p.length (pb p) y : Nat) : Int))), (res_one rfl rfl), ⟨?_, rfl⟩⟩
  · first | rfl | (simp; done) | (simp; omega)

end Go.Proofs.Ytdokijbdnajhgaa
namespace Go.Proofs.Ytdokijbdnajhgaa
open Go Go.X

set_option maxRecDepth 10000 in
theorem insC_spec (h : Heap) (B : Nat) (vl : Value) (xs : List Int) (a0 : Nat) (n : Nat) (vp : Value) (hs : List Hdr) (p : List (List Bool)) (b5 : Nat) (b1 : Nat) (hb_b5 : Blk h b5 (#[.func (.func 136) #[] #[.pointer (some ⟨b1, 0, none⟩)]]) 111) (hb_b1 : Blk h b1 (#[vp]) 29) (hr_vp : ∀ h9, Ext B h h9 → RdE encHd h9 vp hs) (ht_vp : ∀ h9, Ext B h h9 → RT encB h9 hs p) (ho_vl : OwE encI h B 3 vl xs) (hB : B ≤ h.size) (hp1 : p.length ≤ 12) (hp2 : Sq p p.length) (hp3 : a0 = 0) (hp4 : n = p.length) (hp5 : PermL n xs) : Fx Try.prog 182 [vl, .int .i64 ((a0 : Nat) : Int), .int .i64 ((n : Nat) : Int), .func (.func 138) #[] #[.pointer (some ⟨b5, 0, none⟩)]] h (fun v h' => ∃ (ys : List Int), v = .tuple #[] ∧ OwE encI h' B 3 vl ys ∧ (PermL n ys) ∧ (RiseK (cntD p.length (pb p)) ys n) ∧ Chg vl h h') := by
  have hl_vp := (ht_vp _ (Ext.refl _ _)).1
  refine fx_intro (n := 53) [(0, vl), (1, .int .i64 ((a0 : Nat) : Int)), (2, .int .i64 ((n : Nat) : Int)), (3, .func (.func 138) #[] #[.pointer (some ⟨b5, 0, none⟩)])] Try.func182 rfl rfl (by simp) ⟨rfl, rfl, rfl, rfl, trivial⟩ fun g0 => ?_
  refine wi_seq <| wi_reg rfl <| lx_move (.int .i64 ((a0 : Nat) : Int)) rfl rfl <| lx_add (((a0 + 1 : Nat) : Int)) rfl rfl rfl (by omega) (by omega) (by omega) <| lx_assign (.int .i64 ((a0 + 1 : Nat) : Int)) rfl rfl <| lx_nil <| wi_block <| ?_
  refine wi_loop (σ := Nat × (List Int)) (rngB 12 53 [8, 9]) (fun (ss : Nat × (List Int)) => [(8, .int .i64 ((ss.1 : Nat) : Int))]) (fun (ss : Nat × (List Int)) (hh : Heap) => OwE encI hh B 3 vl ss.2 ∧ Blk hh b1 #[vp] 29 ∧ Blk hh b5 #[.func (.func 136) #[] #[.pointer (some ⟨b1, 0, none⟩)]] 111 ∧ Ext B h hh ∧ Chg vl h hh ∧ (1 ≤ ss.1 ∧ ss.1 ≤ n + 1) ∧ (PermL n ss.2) ∧ (RiseK (cntD p.length (pb p)) ss.2 ss.1)) (fun (ss : Nat × (List Int)) => n + 1 - ss.1) (a0 + 1, xs) ⟨rfl, trivial⟩ ⟨?_, ?_, ?_, (Ext.refl _ _), (Chg.refl _ _), ?_, ?_, ?_⟩ ?_
  · first | exact ho_vl | (simpa using ho_vl)
  · exact hb_b1
  · exact hb_b5
  · try dsimp only
    omega
  · try dsimp only
    exact hp5
  · try dsimp only
    intro a b h1 h2; omega
  rintro g1 ⟨i, ys⟩ hh1 ⟨ho1, hbk1, hbk2, hx0_1, hcc1, hi, hpi, hri⟩ IH1
  dsimp only at *
  have hyl := hpi.len
  refine wi_seq <| wi_seq <| wi_reg rfl <| lx_move (.int .i64 ((i : Nat) : Int)) rfl rfl <| lx_move (.int .i64 ((n : Nat) : Int)) rfl rfl <| lx_lssS rfl rfl rfl (fun c1 => ?_) (fun c1 => ?_)
  · refine lx_nil <| wi_true rfl <| wi_skip <| wi_seq <| wi_block <| wi_seq <| wi_reg rfl <| lx_move (.int .i64 ((i : Nat) : Int)) rfl rfl <| lx_assign (.int .i64 ((i : Nat) : Int)) rfl rfl <| lx_nil <| wi_block <| ?_
    refine wi_loop (σ := Nat × (List Int)) (rngB 18 53 [9]) (fun (ss : Nat × (List Int)) => [(9, .int .i64 ((ss.1 : Nat) : Int))]) (fun (ss : Nat × (List Int)) (hh : Heap) => OwE encI hh B 3 vl ss.2 ∧ Blk hh b1 #[vp] 29 ∧ Blk hh b5 #[.func (.func 136) #[] #[.pointer (some ⟨b1, 0, none⟩)]] 111 ∧ Ext B h hh ∧ Chg vl h hh ∧ (ss.1 ≤ i) ∧ (PermL n ss.2) ∧ (RiseJ (cntD p.length (pb p)) ss.2 (i + 1) ss.1)) (fun (ss : Nat × (List Int)) => ss.1) (i, ys) ⟨rfl, trivial⟩ ⟨?_, ?_, ?_, hx0_1, hcc1, ?_, ?_, ?_⟩ ?_
    · first | exact ho1 | (simpa using ho1)
    · exact hbk1
    · exact hbk2
    · try dsimp only
      omega
    · try dsimp only
      exact hpi
    · try dsimp only
      exact riseJ_start hri
    rintro g2 ⟨j, ys⟩ hh2 ⟨ho2, hbk3, hbk4, hx0_2, hcc2, hj, hpj, hrj⟩ IH2
    dsimp only at *
    have hyl2 := hpj.len
    refine wi_seq <| wi_seq <| wi_drawS (fun h9 => hh2 = h9) (fun o => match o.dst with | some 26 | some 31 => .free | _ => kindOf o) mo rfl (by decide +kernel) rfl <| lx_move (.int .i64 ((j : Nat) : Int)) rfl rfl <| lx_move (.int .i64 ((a0 : Nat) : Int)) rfl rfl <| lx_gtrS rfl rfl rfl (fun c2 => ?_) (fun c2 => ?_)
    · refine lx_move (.bool true) rfl rfl <| ?_
      obtain ⟨a, hga, hla⟩ := hpj.rng j (by omega)
      obtain ⟨b, hgb, hlb⟩ := hpj.rng (j - 1) (by omega)
      have hca := cntD_le p.length (pb p) a
      have hcb := cntD_le p.length (pb p) b
      have hka : kyF (cntD p.length (pb p)) ys j = cntD p.length (pb p) a := by show cntD p.length (pb p) _ = _; rw [hga, Int.toNat_natCast]
      have hkb : kyF (cntD p.length (pb p)) ys (j - 1) = cntD p.length (pb p) b := by show cntD p.length (pb p) _ = _; rw [hgb, Int.toNat_natCast]
      refine lx_move (.func (.func 138) #[] #[.pointer (some ⟨b5, 0, none⟩)]) rfl rfl <| lx_move (vl) rfl rfl <| lx_move (.int .i64 ((j : Nat) : Int)) rfl rfl <| lx_ix (i := j) rfl eT25 ho2.rd rfl rfl (by omega) <| lx_ldF (i := j) (j := 0) (.int .i64 ((a : Nat) : Int)) rfl fl3 (fun _ e9 => e9 ▸ ho2.rd) (by omega) (by show some (Value.int .i64 (gt ys j)) = _; rw [hga]) rfl <| lx_move (vl) rfl rfl <| lx_move (.int .i64 ((j : Nat) : Int)) rfl rfl <| lx_sub (((j - 1 : Nat) : Int)) rfl rfl rfl (by omega) (by omega) (by omega) <| lx_ix (i := j - 1) rfl eT25 ho2.rd rfl rfl (by omega) <| lx_ldF (i := j - 1) (j := 0) (.int .i64 ((b : Nat) : Int)) rfl fl3 (fun _ e9 => e9 ▸ ho2.rd) (by omega) (by show some (Value.int .i64 (gt ys (j - 1))) = _; rw [hgb]) rfl <| lx_callV [] [.pointer (some ⟨b5, 0, none⟩)] [.int .i64 ((a : Nat) : Int), .int .i64 ((b : Nat) : Int)] rfl rfl Try.call138 rfl rfl (cmp_up_spec hh2 a b vp hs p b5 b1 hbk4 hbk3 (hr_vp _ hx0_2) (ht_vp _ hx0_2) (by omega) (by first | with_reducible assumption | omega) (by omega) (by omega)) (by rintro _ _ ⟨_, e⟩; exact e) ?_
      rintro _ h1 ⟨rfl, rfl⟩
      refine lx_lssS rfl rfl rfl (fun c3 => ?_) (fun c3 => ?_)
      · refine lx_pick true (.bool true) rfl rfl rfl <| lx_nil <| wi_true rfl <| wi_skip <| wi_seq <| wi_block <| wi_draw mo rfl (by decide +kernel) <| lx_move (vl) rfl rfl <| lx_move (.int .i64 ((j : Nat) : Int)) rfl rfl <| lx_move (vl) rfl rfl <| lx_move (.int .i64 ((j : Nat) : Int)) rfl rfl <| lx_sub (((j - 1 : Nat) : Int)) rfl rfl rfl (by omega) (by omega) (by omega) <| lx_move (vl) rfl rfl <| lx_move (.int .i64 ((j : Nat) : Int)) rfl rfl <| lx_sub (((j - 1 : Nat) : Int)) rfl rfl rfl (by omega) (by omega) (by omega) <| lx_ix (i := j - 1) rfl eT25 ho2.rd rfl rfl (by omega) <| lx_ld (i := j - 1) (j := 0) (.int .i64 (gt ys (j - 1))) rfl rfl fl3 ho2.rd (by omega) rfl rfl <| lx_move (vl) rfl rfl <| lx_move (.int .i64 ((j : Nat) : Int)) rfl rfl <| lx_ix (i := j) rfl eT25 ho2.rd rfl rfl (by omega) <| lx_ld (i := j) (j := 0) (.int .i64 (gt ys j)) rfl rfl fl3 ho2.rd (by omega) rfl rfl <| lx_ix (i := j) rfl eT25 ho2.rd rfl rfl (by omega) <| lx_st (i := j) (gt ys (j - 1)) rfl rfl Try.sizeOf3 ho2 (by omega) rfl rfl (fun _ _ _ _ _ => trivial) fun h2 ho3 hc1 hsz1 => ?_
        have hx0_3 := hx0_2.trans (ho2.ext hc1 (Nat.le_trans hB hx0_2.size))
        have hcc3 := hcc2.trans hc1
        have hb1 := hbk4.chg hc1 (nb_ty ho2 hbk4 (by decide))
        have hb2 := hbk3.chg hc1 (nb_ty ho2 hbk3 (by decide))
        refine lx_ix (i := j - 1) rfl eT25 ho3.rd rfl rfl (by first | omega | (simp only [List.length_set, List.length_append, List.length_cons, List.length_nil, List.length_replicate, List.length_take, swp_length, exch_length]; omega)) <| lx_st (i := j - 1) (gt ys j) rfl rfl Try.sizeOf3 ho3 (by first | omega | (simp only [List.length_set, List.length_append, List.length_cons, List.length_nil, List.length_replicate, List.length_take, swp_length, exch_length]; omega)) rfl rfl (fun _ _ _ _ _ => trivial) fun h3 ho4 hc2 hsz2 => ?_
        have hx0_4 := hx0_3.trans (ho3.ext hc2 (Nat.le_trans hB hx0_3.size))
        have hcc4 := hcc3.trans hc2
        have hb3 := hb1.chg hc2 (nb_ty ho3 hb1 (by decide))
        have hb4 := hb2.chg hc2 (nb_ty ho3 hb2 (by decide))
        refine lx_nil <| wi_inBlock <| wi_reg rfl <| lx_move (.int .i64 ((j : Nat) : Int)) rfl rfl <| lx_sub (((j - 1 : Nat) : Int)) rfl rfl rfl (by omega) (by omega) (by omega) <| lx_assign (.int .i64 ((j - 1 : Nat) : Int)) rfl rfl <| lx_nil <| ?_
        -- L2.1
        refine IH2 _ _ (j - 1, (ys.set j (gt ys (j - 1))).set (j - 1) (gt ys j)) (agree_ups rfl agree_self) ⟨rfl, trivial⟩ ⟨?_, ?_, ?_, hx0_4, hcc4, ?_, ?_, ?_⟩ ?_
        · first | exact ho4 | (simpa using ho4)
        · exact hb4
        · exact hb3
        · try dsimp only
          omega
        · try dsimp only
          exact hpj.swap (by omega) (by omega)
        · try dsimp only
          exact riseJ_step hpj (by omega) hj hrj (by omega) (by rw [hka, hkb]; omega)
        · first | omega | (dsimp only; omega)
      · refine lx_pick true (.bool false) rfl rfl rfl <| lx_nil <| wi_false rfl <| wi_exit rfl <| wi_inBlock <| wi_reg rfl <| lx_move (.int .i64 ((i : Nat) : Int)) rfl rfl <| lx_add (((i + 1 : Nat) : Int)) rfl rfl rfl (by omega) (by omega) (by omega) <| lx_assign (.int .i64 ((i + 1 : Nat) : Int)) rfl rfl <| lx_nil <| ?_
        -- L0.1
        refine IH1 _ _ (i + 1, ys) (agree_ups rfl (agree_mix (rngB_sub (by decide) (by decide) rfl) (agree_ups rfl agree_self))) ⟨rfl, trivial⟩ ⟨?_, ?_, ?_, hx0_2, hcc2, ?_, ?_, ?_⟩ ?_
        · first | exact ho2 | (simpa using ho2)
        · exact hbk3
        · exact hbk4
        · try dsimp only
          omega
        · try dsimp only
          exact hpj
        · try dsimp only
          first
          | exact riseJ_stop hrj (.inl (by omega))
          | exact riseJ_stop hrj (.inr (by rw [hka, hkb]; omega))
        · first | omega | (dsimp only; omega)
    · refine lx_move (.bool false) rfl rfl <| ?_
      refine lx_skip rfl <| lx_skip rfl <| lx_skip rfl <| lx_skip rfl <| lx_skip rfl <| lx_skip rfl <| lx_skip rfl <| lx_skip rfl <| lx_skip rfl <| lx_skip rfl <| lx_skip rfl <| lx_skip rfl <| lx_pick false (.bool false) rfl rfl rfl <| lx_nil <| wi_false rfl <| wi_exit rfl <| wi_inBlock <| wi_reg rfl <| lx_move (.int .i64 ((i : Nat) : Int)) rfl rfl <| lx_add (((i + 1 : Nat) : Int)) rfl rfl rfl (by omega) (by omega) (by omega) <| lx_assign (.int .i64 ((i + 1 : Nat) : Int)) rfl rfl <| lx_nil <| ?_
      -- L0.2
      refine IH1 _ _ (i + 1, ys) (agree_ups rfl (agree_mix (rngB_sub (by decide) (by decide) rfl) (agree_ups rfl agree_self))) ⟨rfl, trivial⟩ ⟨?_, ?_, ?_, hx0_2, hcc2, ?_, ?_, ?_⟩ ?_
      · first | exact ho2 | (simpa using ho2)
      · exact hbk3
      · exact hbk4
      · try dsimp only
        omega
      · try dsimp only
        exact hpj
      · try dsimp only
        first
        | exact riseJ_stop hrj (.inl (by omega))
        | exact riseJ_stop hrj (.inr (by rw [hka, hkb]; omega))
      · first | omega | (dsimp only; omega)
  · refine lx_nil <| wi_false rfl <| wi_exit rfl <| ?_
    -- R1
    refine wi_end ⟨.tuple #[], (res_none rfl), ⟨ys, rfl, ho1, ?_, ?_, hcc1⟩⟩
    · exact hpi
    · exact fun a b h1 h2 => hri a b h1 (by omega)

set_option maxRecDepth 10000 in
theorem stabC_spec (h : Heap) (B : Nat) (vl : Value) (xs : List Int) (n : Nat) (vp : Value) (hs : List Hdr) (p : List (List Bool)) (b5 : Nat) (b1 : Nat) (hb_b5 : Blk h b5 (#[.func (.func 136) #[] #[.pointer (some ⟨b1, 0, none⟩)]]) 111) (hb_b1 : Blk h b1 (#[vp]) 29) (hr_vp : ∀ h9, Ext B h h9 → RdE encHd h9 vp hs) (ht_vp : ∀ h9, Ext B h h9 → RT encB h9 hs p) (ho_vl : OwE encI h B 3 vl xs) (hB : B ≤ h.size) (hp1 : p.length ≤ 12) (hp2 : Sq p p.length) (hp3 : n = p.length) (hp4 : PermL n xs) : Fx Try.prog 169 [vl, .int .i64 ((n : Nat) : Int), .func (.func 138) #[] #[.pointer (some ⟨b5, 0, none⟩)]] h (fun v h' => ∃ (ys : List Int), v = .tuple #[] ∧ OwE encI h' B 3 vl ys ∧ (PermL n ys) ∧ (RiseK (cntD p.length (pb p)) ys n) ∧ Chg vl h h') := by
  have hl_vp := (ht_vp _ (Ext.refl _ _)).1
  refine fx_intro (n := 63) [(0, vl), (1, .int .i64 ((n : Nat) : Int)), (2, .func (.func 138) #[] #[.pointer (some ⟨b5, 0, none⟩)])] Try.func169 rfl rfl (by simp) ⟨rfl, rfl, rfl, trivial⟩ fun g0 => ?_
  refine wi_seq <| wi_reg rfl <| lx_assign (.int .i64 20) rfl rfl <| lx_nil <| wi_seq <| wi_reg rfl <| lx_move (.int .i64 20) rfl rfl <| lx_assign (.int .i64 0) rfl rfl <| lx_assign (.int .i64 20) rfl rfl <| lx_nil <| wi_seq <| wi_block <| ?_
  refine wi_loop (σ := Unit) (rngB 11 23 [7, 8]) (fun (_ : Unit) => [(8, .int .i64 20), (7, .int .i64 0), (6, .int .i64 20)]) (fun (_ : Unit) (hh : Heap) => h = hh) (fun (_ : Unit) => 0) () ⟨rfl, rfl, rfl, trivial⟩ rfl ?_
  rintro g1 _ hh1 rfl IH1
  refine wi_seq <| wi_seq <| wi_reg rfl <| lx_move (.int .i64 20) rfl rfl <| lx_move (.int .i64 ((n : Nat) : Int)) rfl rfl <| lx_leqF rfl rfl rfl (by omega) <| lx_nil <| wi_false rfl <| wi_exit rfl <| wi_seq <| wi_reg rfl <| lx_move (vl) rfl rfl <| lx_move (.int .i64 0) rfl rfl <| lx_move (.int .i64 ((n : Nat) : Int)) rfl rfl <| lx_move (.func (.func 138) #[] #[.pointer (some ⟨b5, 0, none⟩)]) rfl rfl <| lx_call [vl, .int .i64 0, .int .i64 ((n : Nat) : Int), .func (.func 138) #[] #[.pointer (some ⟨b5, 0, none⟩)]] rfl rfl Try.call182 rfl (insC_spec h B vl xs 0 n vp hs p b5 b1 hb_b5 hb_b1 (fun h9 e9 => hr_vp _ (e9)) (fun h9 e9 => ht_vp _ (e9)) ho_vl hB (by omega) (by first | with_reducible assumption | omega) rfl (by omega) hp4) (fun _ _ _ => trivial) ?_
  rintro _ h1 ⟨ys_1, rfl, ho1, hpe_1, hri_1, hx1⟩
  have hx0_1 := ho_vl.ext hx1 hB
  have hcc1 := hx1
  have hb1 := hb_b5.chg hx1 (nb_ty ho_vl hb_b5 (by decide))
  have hb2 := hb_b1.chg hx1 (nb_ty ho_vl hb_b1 (by decide))
  refine lx_nil <| wi_block <| ?_
  refine wi_loop (σ := (List Int)) (rngB 28 63 [6, 7, 8, 9]) (fun (ys : List Int) => [(6, .int .i64 20)]) (fun (ys : List Int) (hh : Heap) => OwE encI hh B 3 vl ys ∧ Ext B h hh ∧ Chg vl h hh ∧ (PermL n ys) ∧ (RiseK (cntD p.length (pb p)) ys n)) (fun (ys : List Int) => 0) (ys_1) ⟨rfl, trivial⟩ ⟨?_, hx0_1, hcc1, ?_, ?_⟩ ?_
  · first | exact ho1 | (simpa using ho1)
  · try dsimp only
    exact hpe_1
  · try dsimp only
    exact hri_1
  rintro g2 ys hh2 ⟨ho2, hx0_2, hcc2, hpe, hri⟩ IH2
  refine wi_seq <| wi_seq <| wi_reg rfl <| lx_move (.int .i64 20) rfl rfl <| lx_move (.int .i64 ((n : Nat) : Int)) rfl rfl <| lx_lssF rfl rfl rfl (by omega) <| lx_nil <| wi_false rfl <| wi_exit rfl <| ?_
  -- R1
  refine wi_end ⟨.tuple #[], (res_none rfl), ⟨ys, rfl, ho2, ?_, ?_, hcc2⟩⟩
  · exact hpe
  · exact hri

set_option maxRecDepth 10000 in
theorem sortC_spec (h : Heap) (B : Nat) (vl : Value) (xs : List Int) (vp : Value) (hs : List Hdr) (p : List (List Bool)) (b5 : Nat) (b1 : Nat) (hb_b5 : Blk h b5 (#[.func (.func 136) #[] #[.pointer (some ⟨b1, 0, none⟩)]]) 111) (hb_b1 : Blk h b1 (#[vp]) 29) (hr_vp : ∀ h9, Ext B h h9 → RdE encHd h9 vp hs) (ht_vp : ∀ h9, Ext B h h9 → RT encB h9 hs p) (ho_vl : OwE encI h B 3 vl xs) (hB : B ≤ h.size) (hp1 : p.length ≤ 12) (hp2 : Sq p p.length) (hp3 : PermL p.length xs) : Fx Try.prog 137 [vl, .func (.func 138) #[] #[.pointer (some ⟨b5, 0, none⟩)]] h (fun v h' => ∃ (ys : List Int), v = .tuple #[] ∧ OwE encI h' B 3 vl ys ∧ (PermL p.length ys) ∧ (RiseK (cntD p.length (pb p)) ys p.length) ∧ Chg vl h h') := by
  have hl_vp := (ht_vp _ (Ext.refl _ _)).1
  refine fx_intro (n := 9) [(0, vl), (1, .func (.func 138) #[] #[.pointer (some ⟨b5, 0, none⟩)])] Try.func137 rfl rfl (by simp) ⟨rfl, rfl, trivial⟩ fun g0 => ?_
  refine wi_reg rfl <| ?_
  have hxl := hp3.len
  refine lx_move (vl) rfl rfl <| lx_move (vl) rfl rfl <| lx_len rfl Try.underlying25 ho_vl.rd rfl <| lx_move (.func (.func 138) #[] #[.pointer (some ⟨b5, 0, none⟩)]) rfl rfl <| lx_call [vl, .int .i64 ((xs.length : Nat) : Int), .func (.func 138) #[] #[.pointer (some ⟨b5, 0, none⟩)]] rfl rfl Try.call169 rfl (stabC_spec h B vl xs xs.length vp hs p b5 b1 hb_b5 hb_b1 (fun h9 e9 => hr_vp _ (e9)) (fun h9 e9 => ht_vp _ (e9)) ho_vl hB (by omega) (by first | with_reducible assumption | omega) (by omega) (by rw [hxl]; exact hp3)) (fun _ _ _ => trivial) ?_
  rintro _ h1 ⟨ys_1, rfl, ho1, hpe_1, hri_1, hx1⟩
  have hx0_1 := ho_vl.ext hx1 hB
  have hcc1 := hx1
  have hb1 := hb_b5.chg hx1 (nb_ty ho_vl hb_b5 (by decide))
  have hb2 := hb_b1.chg hx1 (nb_ty ho_vl hb_b1 (by decide))
  refine lx_nil <| ?_
  -- R1
  refine wi_end ⟨.tuple #[], (res_none rfl), ⟨ys_1, rfl, ho1, ?_, ?_, hcc1⟩⟩
  · rw [hxl] at hpe_1; exact hpe_1
  · rw [hxl] at hri_1; exact hri_1

set_option maxRecDepth 10000 in
theorem values_spec (h : Heap) (vl : Value) (xs : List Int) (hr_vl : RdE encI h vl xs) : Fx Try.prog 139 [vl] h (fun v h' => ∃ (bl : Nat), v = .func (.func 170) #[] #[.pointer (some ⟨bl, 0, none⟩)] ∧ h.size ≤ bl ∧ Blk h' bl (#[vl]) 25 ∧ Ext h.size h h') := by
  refine fx_intro (n := 4) [(0, vl)] Try.func139 rfl rfl (by simp) ⟨rfl, trivial⟩ fun g0 => ?_
  refine wi_seq <| wi_reg rfl <| lx_box #[vl] rfl rfl (sl_cells hr_vl) (fun _ _ _ => trivial) fun bn1 h1 hbn1 hbk1 hx1 hsz1 => ?_
  have hbb1 : h.size ≤ bn1 := by have := (Nat.le_refl h.size); omega
  refine lx_assign (.nilFunc) rfl rfl <| lx_nil <| wi_seq <| wi_reg rfl <| lx_makeFunc [] [.pointer (some ⟨bn1, 0, none⟩)] rfl rfl rfl <| lx_assign (.func (.func 170) #[] #[.pointer (some ⟨bn1, 0, none⟩)]) rfl rfl <| lx_nil <| ?_
  -- R1
  refine wi_ret ⟨.func (.func 170) #[] #[.pointer (some ⟨bn1, 0, none⟩)], (res_one rfl rfl), ⟨bn1, rfl, ?_, hbk1, hx1⟩⟩
  · omega

set_option maxRecDepth 10000 in
theorem upward_spec (h : Heap) (vp : Value) (hs : List Hdr) (p : List (List Bool)) (hr_vp : RdE encHd h vp hs) (ht_vp : RT encB h hs p) (hp1 : p.length ≤ 12) (hp2 : isT p = true) : Fx Try.prog 105 [vp] h (fun v h' => ∃ (bl : Nat) (vl : Value) (xs : List Int), v = .func (.func 170) #[] #[.pointer (some ⟨bl, 0, none⟩)] ∧ h.size ≤ bl ∧ Blk h' bl (#[vl]) 25 ∧ OwE encI h' h.size 3 vl xs ∧ (LinL p.length (pb p) xs) ∧ Ext h.size h h') := by
  have hl_vp := ht_vp.1
  refine fx_intro (n := 22) [(0, vp)] Try.func105 rfl rfl (by simp) ⟨rfl, trivial⟩ fun g0 => ?_
  refine wi_seq <| wi_reg rfl <| lx_box #[vp] rfl rfl (sl_cells hr_vp) (fun _ _ _ => trivial) fun bn1 h1 hbn1 hbk1 hx1 hsz1 => ?_
  have hbb1 : h.size ≤ bn1 := by have := (Nat.le_refl h.size); omega
  refine lx_assign (.nilFunc) rfl rfl <| lx_nil <| wi_seq <| wi_reg rfl <| ?_
  have hsq2 := isT_sq hp2
  refine lx_assign (.slice none 0 0) rfl rfl <| lx_nil <| wi_seq <| wi_seq <| wi_reg rfl <| lx_ldB (vp) rfl rfl fl29 hbk1 rfl rfl <| lx_len rfl Try.underlying29 hr_vp rfl <| lx_move (.int .i64 0) rfl rfl <| lx_nil <| wi_block <| ?_
  refine wi_loop (σ := Nat × Value × (List Int)) (rngB 8 16 [3, 4]) (fun (ss : Nat × Value × (List Int)) => [(8, .int .i64 ((ss.1 : Nat) : Int)), (3, ss.2.1)]) (fun (ss : Nat × Value × (List Int)) (hh : Heap) => OwE encI hh h.size 3 ss.2.1 ss.2.2 ∧ Blk hh bn1 #[vp] 29 ∧ Ext h.size h hh ∧ (ss.1 ≤ p.length) ∧ (ss.2.2.length = ss.1) ∧ (∀ i, i < ss.1 → gt ss.2.2 i = ((i : Nat) : Int))) (fun (ss : Nat × Value × (List Int)) => p.length - ss.1) (0, .slice none 0 0, []) ⟨rfl, rfl, trivial⟩ ⟨?_, ?_, hx1, ?_, ?_, ?_⟩ ?_
  · first | exact (owE_nil encI _ h.size 3) | (simpa using (owE_nil encI _ h.size 3))
  · exact hbk1
  · try dsimp only
    omega
  · try dsimp only
    first | done | rfl
  · try dsimp only
    intro i hi; omega
  rintro g1 ⟨x, v, xs⟩ hh1 ⟨ho1, hbk2, hx0_1, hx, hxl, hxg⟩ IH1
  dsimp only at *
  refine wi_seq <| wi_reg rfl <| lx_lssS rfl rfl rfl (fun c1 => ?_) (fun c1 => ?_)
  · refine lx_nil <| wi_seq <| wi_true rfl <| wi_skip <| wi_seq <| wi_block <| wi_seq <| wi_reg rfl <| lx_move (.int .i64 ((x : Nat) : Int)) rfl rfl <| lx_assign (.int .i64 ((x : Nat) : Int)) rfl rfl <| lx_nil <| wi_reg rfl <| lx_move (v) rfl rfl <| lx_move (.int .i64 ((x : Nat) : Int)) rfl rfl <| lx_appendL (E := encI) (B := h.size) [((x : Nat) : Int)] [.int .i64 ((x : Nat) : Int)] rfl rfl (fun _ => rfl) rfl eT25 rfl rfl rfl rfl ho1 (fun _ => rfl) (by show xs.length + 1 ≤ _; omega) (by show (xs.length + 1) * 8 ≤ _; omega) hx0_1.size (fun _ _ => trivial) fun u1 v1 h2 ho2 hc1 hg1 => ?_
    have hx0_2 := hx0_1.trans (ho1.ext hc1 hx0_1.size)
    have hb1 := hbk2.chg hc1 (nb_ty ho1 hbk2 (by decide))
    refine lx_assign (v1) rfl rfl <| lx_nil <| wi_inBlock <| wi_reg rfl <| lx_add (((x + 1 : Nat) : Int)) rfl rfl rfl (by omega) (by omega) (by omega) <| lx_move (.int .i64 ((x + 1 : Nat) : Int)) rfl rfl <| lx_nil <| ?_
    -- L0.1
    refine IH1 _ _ (x + 1, v1, xs ++ [((x : Nat) : Int)]) (agree_ups rfl agree_self) ⟨rfl, rfl, trivial⟩ ⟨?_, ?_, hx0_2, ?_, ?_, ?_⟩ ?_
    · first | exact ho2 | (simpa using ho2)
    · exact hb1
    · try dsimp only
      omega
    · try dsimp only
      rw [List.length_append, hxl]; rfl
    · try dsimp only
      intro i hi
      by_cases e : i < x
      · rw [gt_append_left (by omega)]; exact hxg i e
      · rw [show i = xs.length from by omega, gt_append_right, hxl]
    · first | omega | (dsimp only; omega)
  · refine lx_nil <| wi_seq <| wi_false rfl <| wi_exit rfl <| wi_seq <| wi_reg rfl <| lx_makeFunc [] [.pointer (some ⟨bn1, 0, none⟩)] rfl rfl rfl <| lx_alloc rfl rfl Try.zeroValue111 (fun _ _ _ => trivial) fun bn2 h3 hbn2 hbk3 hx2 hsz2 => ?_
    have hbb2 : h.size ≤ bn2 := by have := hx0_1.size; omega
    have hne1 : bn2 ≠ bn1 := by have := hbk2.lt; omega
    have hdj1 : Value.ownBlock v ≠ some bn2 := by intro e; have := (ho1.lt e).2; omega
    have hx0_3 := hx0_1.trans2 hx2 hx0_1.size
    have ho3 := ho1.extS hx2
    have hb2 := hbk2.extS hx2
    have hbk3 : Blk h3 bn2 #[.nilFunc] 111 := hbk3
    refine lx_stB (.func (.func 136) #[] #[.pointer (some ⟨bn1, 0, none⟩)]) rfl rfl Try.sizeOf111 hbk3 (by simp) rfl rfl rfl rfl (fun _ _ _ _ => trivial) fun h4 hbk4 hc2 => ?_
    have hx0_4 := hx0_3.trans (hc2.ext hbb2)
    have ho4 := hc2.owE ho3 hdj1
    have hb3 := hc2.blk hb2 (Ne.symm hne1)
    have hbk4 : Blk h4 bn2 #[.func (.func 136) #[] #[.pointer (some ⟨bn1, 0, none⟩)]] 111 := hbk4
    refine lx_nil <| wi_seq <| wi_reg rfl <| ?_
    have hpi := permL_iota p.length xs (by omega) (fun i hi => hxg i (by omega))
    refine lx_move (v) rfl rfl <| lx_makeFunc [] [.pointer (some ⟨bn2, 0, none⟩)] rfl rfl rfl <| lx_call [v, .func (.func 138) #[] #[.pointer (some ⟨bn2, 0, none⟩)]] rfl rfl Try.call137 rfl (sortC_spec h4 h.size v xs vp hs p bn2 bn1 hbk4 hb3 (fun h9 e9 => hr_vp.extS (hx0_4.trans e9)) (fun h9 e9 => ht_vp.extS (hx0_4.trans e9)) ho4 hx0_4.size (by omega) (by first | with_reducible assumption | omega) hpi) (fun _ _ _ => trivial) ?_
    rintro _ h5 ⟨ys, rfl, ho5, hpe, hri, hx3⟩
    have hx0_5 := hx0_4.trans (ho4.ext hx3 hx0_4.size)
    have hb4 := hb3.chg hx3 (nb_ty ho4 hb3 (by decide))
    have hb5 := hbk4.chg hx3 hdj1
    refine lx_nil <| wi_seq <| wi_reg rfl <| lx_move (v) rfl rfl <| lx_call [v] rfl rfl Try.call139 rfl (values_spec h5 v ys ho5.rd) (fun _ _ _ => trivial) ?_
    rintro _ h6 ⟨bl_1, rfl, ho6, hot1, hx4⟩
    have hx0_6 := hx0_5.trans2 hx4 hx0_5.size
    have ho7 := ho5.extS hx4
    have hb6 := hb4.extS hx4
    have hb7 := hb5.extS hx4
    have hbx1 : h.size ≤ bl_1 := Nat.le_trans hx0_5.size ho6
    refine lx_assign (.func (.func 170) #[] #[.pointer (some ⟨bl_1, 0, none⟩)]) rfl rfl <| lx_nil <| ?_
    -- R1
    refine wi_ret ⟨.func (.func 170) #[] #[.pointer (some ⟨bl_1, 0, none⟩)], (res_one rfl rfl), ⟨bl_1, v, ys, rfl, ?_, hot1, ho7, ?_, hx0_6⟩⟩
    · omega
    · exact linL (isT_o hp2) hpe hri

end Go.Proofs.Ytdokijbdnajhgaa
namespace Go.X
def mapR (n : Nat) (g : Nat → Int) : List Int := (List.range n).map g
theorem mapR_len (n : Nat) (g : Nat → Int) : (mapR n g).length = n := by simp [mapR]
theorem gt_mapR {n i : Nat} {g : Nat → Int} (h : i < n) : gt (mapR n g) i = g i := by rw [gt_eq (by rw [mapR_len]; exact h)]; simp [mapR]
theorem mapR_ext {n : Nat} {g : Nat → Int} {r : List Int} (hl : r.length = n) (h : ∀ j, j < n → gt r j = g j) : r = mapR n g :=
  gt_ext (by rw [hl, mapR_len]) fun j hj => by rw [gt_mapR (by omega)]; exact h j (by omega)
theorem mapR_congr {n : Nat} {f g : Nat → Int} (h : ∀ j, j < n → f j = g j) : mapR n f = mapR n g := mapR_ext (mapR_len n f) fun j hj => by rw [gt_mapR hj]; exact h j hj
theorem mapR_set {n i : Nat} {g : Nat → Int} {v : Int} (hi : i < n) : (mapR n g).set i v = mapR n fun j => if j = i then v else g j :=
  mapR_ext (by rw [List.length_set, mapR_len]) fun j hj => by
    rw [gt_set (by rw [mapR_len]; exact hi)]
    split
    · rfl
    · exact gt_mapR hj
theorem rep_mapR (n : Nat) (v : Int) : List.replicate n v = mapR n fun _ => v := mapR_ext (by simp) fun j hj => gt_replicate hj
def dnK (xs : List Int) (k y : Nat) : Bool := (List.range k).any fun i => decide (gt xs i = (y : Int))
theorem dnK_iff {xs : List Int} {k y : Nat} : dnK xs k y = true ↔ ∃ i, i < k ∧ gt xs i = (y : Int) := by
  unfold dnK
  rw [List.any_eq_true]
  exact ⟨fun ⟨i, hi, h⟩ => ⟨i, List.mem_range.1 hi, of_decide_eq_true h⟩, fun ⟨i, hi, h⟩ => ⟨i, List.mem_range.2 hi, decide_eq_true h⟩⟩
theorem dnK_zero (xs : List Int) (y : Nat) : dnK xs 0 y = false := rfl
theorem dnK_succ {xs : List Int} {k b y : Nat} (hb : gt xs k = (b : Int)) : dnK xs (k + 1) y = (dnK xs k y || decide (y = b)) := by
  unfold dnK
  rw [List.range_succ, List.any_append]
  congr 1
  simp only [List.any_cons, List.any_nil, Bool.or_false, hb]
  rw [decide_eq_decide]
  omega
theorem dnK_all {n : Nat} {f : Nat → Nat → Bool} {xs : List Int} (hL : LinL n f xs) {y : Nat} (hy : y < n) : dnK xs n y = true := by
  obtain ⟨i, hi, e⟩ := hL.all y hy
  exact dnK_iff.2 ⟨i, hi, e⟩
theorem dnK_not {n : Nat} {f : Nat → Nat → Bool} {xs : List Int} (hL : LinL n f xs) {k b : Nat} (hk : k < n) (hb : gt xs k = (b : Int)) : dnK xs k b = false := by
  rw [Bool.eq_false_iff]
  intro h
  obtain ⟨i, hi, e⟩ := dnK_iff.1 h
  have := hL.inj i k (by omega) hk (by rw [e, hb])
  omega
/-- What is below what comes next has come. -/
theorem dnK_below {n : Nat} {f : Nat → Nat → Bool} {xs : List Int} (hL : LinL n f xs) {k b z : Nat} (hk : k < n) (hb : gt xs k = (b : Int)) (hz : z < n) (hf : f z b = true) (hne : z ≠ b) : dnK xs k z = true := by
  obtain ⟨i, hi, e⟩ := hL.all z hz
  have := hL.ord i k hi hk (by rw [e, hb, Int.toNat_natCast, Int.toNat_natCast]; exact hf) (fun c => hne (by subst c; rw [e] at hb; omega))
  exact dnK_iff.2 ⟨i, this, e⟩
/-- The row of 'x', when the first 'k' of the list have come. -/
def mrow (n : Nat) (f : Nat → Nat → Bool) (x : Nat) (xs : List Int) (k : Nat) : List Int := mapR n fun y => if y = x then 1 else if dnK xs k y && f x y then muF n f x y else 0
theorem mrow_zero {n x : Nat} {f : Nat → Nat → Bool} {xs : List Int} (hx : x < n) : (List.replicate n (0 : Int)).set x 1 = mrow n f x xs 0 := by
  rw [rep_mapR, mapR_set hx]
  exact mapR_congr fun j _ => by rw [dnK_zero]; rfl
theorem mrow_len (n : Nat) (f : Nat → Nat → Bool) (x : Nat) (xs : List Int) (k : Nat) : (mrow n f x xs k).length = n := mapR_len n _
theorem mrow_end {n x : Nat} {f : Nat → Nat → Bool} {xs : List Int} (hL : LinL n f xs) : mrow n f x xs n = mapR n (muF n f x) := mapR_congr fun j hj => by
  by_cases e : j = x
  · subst e; rw [if_pos rfl, muF_self]
  · rw [if_neg e, dnK_all hL hj, Bool.true_and]
    cases h : f x j
    · rw [muF_out (Ne.symm e) h]; rfl
    · rfl
theorem mrow_skip {n x k b : Nat} {f : Nat → Nat → Bool} {xs : List Int} (hb : gt xs k = (b : Int)) (h : ¬ (x ≠ b ∧ f x b = true)) : mrow n f x xs k = mrow n f x xs (k + 1) := mapR_congr fun j _ => by
  by_cases e : j = x
  · rw [if_pos e, if_pos e]
  · rw [if_neg e, if_neg e, dnK_succ hb]
    by_cases e2 : j = b
    · subst e2
      have : f x j = false := by
        cases c : f x j
        · rfl
        · exact absurd ⟨Ne.symm e, c⟩ h
      rw [this]; simp
    · rw [decide_eq_false e2, Bool.or_false]
theorem mrow_sum {n x k b : Nat} {f : Nat → Nat → Bool} {xs : List Int} (ho : IsO n f) (hL : LinL n f xs) (hx : x < n) (hk : k < n) (hb : gt xs k = (b : Int)) (hbn : b < n) (hne : x ≠ b) (hf : f x b = true) :
    -(sumI n fun z => if f x z && f z b then gt (mrow n f x xs k) z else 0) = muF n f x b := by
  rw [muF_in ho hx hbn hne hf]
  congr 1
  refine sumI_congr fun z hz => ?_
  unfold btw mrow
  rw [gt_mapR hz]
  cases h1 : f x z
  · rfl
  · cases h2 : f z b
    · rfl
    · rw [Bool.and_self, if_pos rfl]
      by_cases e : z = b
      · subst e
        rw [if_neg (Ne.symm hne), dnK_not hL hk hb, Bool.false_and, if_neg (by simp), if_neg (by simp)]
      · have ht : (true && decide (z ≠ b)) = true := by rw [decide_eq_true e]; rfl
        by_cases e2 : z = x
        · subst e2; rw [if_pos rfl, if_pos ht, muF_self]
        · rw [if_neg e2, dnK_below hL hk hb hz h2 e, Bool.true_and, if_pos (rfl : true = true), if_pos ht]
theorem mrow_set {n x k b : Nat} {f : Nat → Nat → Bool} {xs : List Int} (hb : gt xs k = (b : Int)) (hbn : b < n) (hne : x ≠ b) (hf : f x b = true) : (mrow n f x xs k).set b (muF n f x b) = mrow n f x xs (k + 1) := by
  unfold mrow
  rw [mapR_set hbn]
  refine mapR_congr fun j _ => ?_
  rw [dnK_succ hb]
  by_cases e : j = b
  · subst e
    rw [if_pos rfl, if_neg (Ne.symm hne), decide_eq_true rfl, Bool.or_true, Bool.true_and, if_pos hf]
  · rw [if_neg e, decide_eq_false e, Bool.or_false]
theorem mrow_bound {n x k : Nat} {f : Nat → Nat → Bool} {xs : List Int} (hn : n ≤ 12) {z : Nat} (hz : z < n) : -302875106592253 ≤ gt (mrow n f x xs k) z ∧ gt (mrow n f x xs k) z ≤ 302875106592253 := by
  unfold mrow
  rw [gt_mapR hz]
  have := muF_bound (f := f) hn x z
  split
  · omega
  · split
    · exact this
    · omega
/-- The numbers of Moebius, as a table. -/
def muT (n : Nat) (f : Nat → Nat → Bool) : List (List Int) := (List.range n).map fun x => mapR n (muF n f x)
theorem muT_len (n : Nat) (f : Nat → Nat → Bool) : (muT n f).length = n := by simp [muT]
theorem gt_muT {n x : Nat} {f : Nat → Nat → Bool} (h : x < n) : gt (muT n f) x = mapR n (muF n f x) := by rw [gt_eq (by rw [muT_len]; exact h)]; simp [muT]
theorem muT_ext {n : Nat} {f : Nat → Nat → Bool} {r : List (List Int)} (hl : r.length = n) (h : ∀ i, i < n → gt r i = mapR n (muF n f i)) : r = muT n f := gt_ext (by rw [hl, muT_len]) fun i hi => by rw [gt_muT (by omega)]; exact h i (by omega)
end Go.X
namespace Go.Proofs.Ytdokijbdnajhgaa
open Go Go.X

set_option maxRecDepth 10000 in
theorem values1_seq (bl : Nat) (vl : Value) (xs : List Int) (hp1 : xs.length ≤ 1000) : SeqC Try.prog 170 [.pointer (some ⟨bl, 0, none⟩)] 26 (fun h => Blk h bl #[vl] 25 ∧ RdE encI h vl xs) xs.length (fun k => [.int .i64 (gt xs k)]) := by
  intro l h J hJS hCap hY h0
  obtain ⟨hcp1, hcp2⟩ := hCap _ _ h0
  refine fx_intro (n := 16) [(0, .func (.yield l) #[] #[]), (1, .pointer (some ⟨bl, 0, none⟩))] Try.func170 rfl rfl (by simp) ⟨rfl, rfl, trivial⟩ fun g0 => ?_
  refine wi_seq <| wi_reg rfl <| lx_ldB (vl) rfl rfl fl25 hcp1 rfl rfl <| lx_len rfl Try.underlying25 hcp2 rfl <| lx_move (.int .i64 0) rfl rfl <| lx_nil <| wi_block <| ?_
  refine wi_loop (σ := Nat) (rngB 7 16 [4]) (fun (k : Nat) => [(7, .int .i64 ((k : Nat) : Int))]) (fun (k : Nat) (hh : Heap) => h.size ≤ hh.size ∧ J k hh ∧ (k ≤ xs.length)) (fun (k : Nat) => xs.length - k) 0 ⟨rfl, trivial⟩ ⟨(Nat.le_refl h.size), h0, ?_⟩ ?_
  · try dsimp only
    omega
  rintro g1 k hh1 ⟨hle1, hJ1, hk⟩ IH1
  obtain ⟨hcp3, hcp4⟩ := hCap _ _ hJ1
  refine wi_seq <| wi_reg rfl <| lx_lssS rfl rfl rfl (fun c1 => ?_) (fun c1 => ?_)
  · have hJk1 := hJ1
    have hy2 := hY _ _ (by omega) hJk1
    dsimp only at hy2
    refine lx_nil <| wi_seq <| wi_true rfl <| wi_skip <| wi_seq <| wi_block <| wi_seq <| wi_reg rfl <| lx_ix (i := k) rfl eT25 hcp4 rfl rfl (by omega) <| lx_ld (i := k) (j := 0) (.int .i64 (gt xs k)) rfl rfl fl3 hcp4 (by omega) rfl rfl <| lx_assign (.int .i64 (gt xs k)) rfl rfl <| lx_nil <| wi_seq <| wi_reg rfl <| lx_move (.func (.yield l) #[] #[]) rfl rfl <| lx_move (.int .i64 (gt xs k)) rfl rfl <| lx_yield [.int .i64 (gt xs k)] rfl rfl rfl rfl hy2 (fun _ _ => trivial) fun h1 ⟨hty1, hJ2⟩ => ?_
    have hle2 : h.size ≤ h1.size := Nat.le_trans hle1 hty1.1
    obtain ⟨hcp5, hcp6⟩ := hCap _ _ hJ2
    refine lx_notB false rfl rfl rfl <| lx_nil <| wi_false rfl <| wi_skip <| wi_inBlock <| wi_reg rfl <| lx_add (((k + 1 : Nat) : Int)) rfl rfl rfl (by omega) (by omega) (by omega) <| lx_move (.int .i64 ((k + 1 : Nat) : Int)) rfl rfl <| lx_nil <| ?_
    -- L0.1
    refine IH1 _ _ (k + 1) (agree_ups rfl agree_self) ⟨rfl, trivial⟩ ⟨hle2, hJ2, ?_⟩ ?_
    · try dsimp only
      omega
    · first | omega | (dsimp only; omega)
  · refine lx_nil <| wi_seq <| wi_false rfl <| wi_exit rfl <| ?_
    -- R1
    refine wi_end ⟨.tuple #[], (res_none rfl), hle1, ?_⟩
    have hJk := hJ1
    rw [show xs.length = k from by omega]; exact hJk

set_option maxRecDepth 10000 in
theorem moe1_spec (h : Heap) (z : Nat) (x1 : Nat) (vmu : Value) (hm : List Hdr) (mu : List (List Int)) (bmu : Nat) (b4 : Nat) (hb_bmu : Blk h bmu (#[vmu]) 49) (hb_b4 : Blk h b4 (#[.int .i64 ((x1 : Nat) : Int)]) 3) (hr_vmu : RdE encHd h vmu hm) (ht_vmu : RT encI h hm mu) (hp1 : x1 < mu.length) (hp2 : (gt mu x1).length ≤ 12) (hp3 : z < (gt mu x1).length) : Fx Try.prog 143 [.int .i64 ((z : Nat) : Int), .pointer (some ⟨bmu, 0, none⟩), .pointer (some ⟨b4, 0, none⟩)] h (fun v h' => v = .int .i64 (gt (gt mu x1) z) ∧ h = h') := by
  have hl_vmu := ht_vmu.1
  refine fx_intro (n := 12) [(0, .int .i64 ((z : Nat) : Int)), (1, .pointer (some ⟨bmu, 0, none⟩)), (2, .pointer (some ⟨b4, 0, none⟩))] Try.func143 rfl rfl (by simp) ⟨rfl, rfl, rfl, trivial⟩ fun g0 => ?_
  refine wi_seq <| wi_reg rfl <| lx_assign (.int .i64 0) rfl rfl <| lx_nil <| wi_seq <| wi_reg rfl <| lx_ldB (vmu) rfl rfl fl49 hb_bmu rfl rfl <| lx_ldB (.int .i64 ((x1 : Nat) : Int)) rfl rfl fl3 hb_b4 rfl rfl <| lx_ix (i := x1) rfl eT49 hr_vmu rfl rfl (by omega) <| lx_ld (i := x1) (j := 0) ((gt hm x1).v) rfl rfl fl25 hr_vmu (by omega) rfl rfl <| lx_move (.int .i64 ((z : Nat) : Int)) rfl rfl <| lx_ix (i := z) rfl eT25 (ht_vmu.2 x1 (by omega)) rfl rfl (by omega) <| lx_ld (i := z) (j := 0) (.int .i64 (gt (gt mu x1) z)) rfl rfl fl3 (ht_vmu.2 x1 (by omega)) (by omega) rfl rfl <| lx_assign (.int .i64 (gt (gt mu x1) z)) rfl rfl <| lx_nil <| ?_
  -- R1
  refine wi_ret ⟨.int .i64 (gt (gt mu x1) z), (res_one rfl rfl), ⟨rfl, rfl⟩⟩

set_option maxRecDepth 10000 in
theorem over_spec (h : Heap) (vp : Value) (hs : List Hdr) (p : List (List Bool)) (x : Nat) (y : Nat) (x1 : Nat) (vmu : Value) (hm : List Hdr) (mu : List (List Int)) (bmu : Nat) (b4 : Nat) (hb_bmu : Blk h bmu (#[vmu]) 49) (hb_b4 : Blk h b4 (#[.int .i64 ((x1 : Nat) : Int)]) 3) (hr_vmu : RdE encHd h vmu hm) (ht_vmu : RT encI h hm mu) (hr_vp : RdE encHd h vp hs) (ht_vp : RT encB h hs p) (hp1 : p.length ≤ 12) (hp2 : Sq p p.length) (hp3 : x < p.length) (hp4 : y < p.length) (hp5 : x1 < mu.length) (hp6 : (gt mu x1).length = p.length) (hp7 : ∀ z, z < p.length → -302875106592253 ≤ gt (gt mu x1) z ∧ gt (gt mu x1) z ≤ 302875106592253) : Fx Try.prog 142 [vp, .int .i64 ((x : Nat) : Int), .int .i64 ((y : Nat) : Int), .func (.func 143) #[] #[.pointer (some ⟨bmu, 0, none⟩), .pointer (some ⟨b4, 0, none⟩)]] h (fun v h' => v = .int .i64 ((sumI p.length fun q => if pb p x q && pb p q y then gt (gt mu x1) q else 0)) ∧ h = h') := by
  have hl_vp := ht_vp.1
  have hl_vmu := ht_vmu.1
  refine fx_intro (n := 39) [(0, vp), (1, .int .i64 ((x : Nat) : Int)), (2, .int .i64 ((y : Nat) : Int)), (3, .func (.func 143) #[] #[.pointer (some ⟨bmu, 0, none⟩), .pointer (some ⟨b4, 0, none⟩)])] Try.func142 rfl rfl (by simp) ⟨rfl, rfl, rfl, rfl, trivial⟩ fun g0 => ?_
  refine wi_seq <| wi_reg rfl <| lx_assign (.int .i64 0) rfl rfl <| lx_nil <| wi_seq <| wi_reg rfl <| lx_assign (.int .i64 0) rfl rfl <| lx_nil <| wi_seq <| wi_seq <| wi_reg rfl <| lx_move (vp) rfl rfl <| lx_len rfl Try.underlying29 hr_vp rfl <| lx_move (.int .i64 0) rfl rfl <| lx_nil <| wi_block <| ?_
  refine wi_loop (σ := Nat × Int) (rngB 13 38 [9, 10]) (fun (ss : Nat × Int) => [(13, .int .i64 ((ss.1 : Nat) : Int)), (9, .int .i64 ss.2)]) (fun (ss : Nat × Int) (hh : Heap) => h = hh ∧ (ss.1 ≤ p.length) ∧ (ss.2 = sumI ss.1 fun q => if pb p x q && pb p q y then gt (gt mu x1) q else 0)) (fun (ss : Nat × Int) => p.length - ss.1) (0, 0) ⟨rfl, rfl, trivial⟩ ⟨rfl, ?_, ?_⟩ ?_
  · try dsimp only
    omega
  · try dsimp only
    first | done | rfl
  rintro g1 ⟨z, s⟩ hh1 ⟨rfl, hz, hsu⟩ IH1
  dsimp only at *
  have hbd := sumI_bound (B := 302875106592253) (by decide) (n := z) (g := fun z => if pb p x z && pb p z y then gt (gt mu x1) z else 0) (fun i hi => by split; exact hp7 i (by omega); omega)
  rw [← hsu] at hbd
  refine wi_seq <| wi_reg rfl <| lx_lssS rfl rfl rfl (fun c1 => ?_) (fun c1 => ?_)
  · refine lx_nil <| wi_seq <| wi_true rfl <| wi_skip <| wi_seq <| wi_block <| wi_seq <| wi_reg rfl <| lx_move (.int .i64 ((z : Nat) : Int)) rfl rfl <| lx_assign (.int .i64 ((z : Nat) : Int)) rfl rfl <| lx_nil <| wi_seq <| wi_reg rfl <| lx_move (vp) rfl rfl <| lx_move (.int .i64 ((x : Nat) : Int)) rfl rfl <| lx_ix (i := x) rfl eT29 hr_vp rfl rfl (by omega) <| lx_ld (i := x) (j := 0) ((gt hs x).v) rfl rfl fl70 hr_vp (by omega) rfl rfl <| lx_move (.int .i64 ((z : Nat) : Int)) rfl rfl <| lx_ix (i := z) rfl eT70 (ht_vp.2 x (by omega)) rfl rfl (by rw [hp2.2 x (by omega)]; omega) <| lx_ld (i := z) (j := 0) (.bool (gt (gt p x) z)) rfl rfl fl4 (ht_vp.2 x (by omega)) (by rw [hp2.2 x (by omega)]; omega) rfl rfl <| lx_move (.bool (gt (gt p x) z)) rfl rfl <| ?_
    cases c2 : (gt (gt p x) z)
    · refine lx_skip rfl <| lx_skip rfl <| lx_skip rfl <| lx_skip rfl <| lx_skip rfl <| lx_skip rfl <| lx_skip rfl <| lx_pick false (.bool false) rfl rfl rfl <| lx_nil <| wi_false rfl <| wi_skip <| wi_inBlock <| wi_reg rfl <| lx_add (((z + 1 : Nat) : Int)) rfl rfl rfl (by omega) (by omega) (by omega) <| lx_move (.int .i64 ((z + 1 : Nat) : Int)) rfl rfl <| lx_nil <| ?_
      -- L0.1
      refine IH1 _ _ (z + 1, s) (agree_ups rfl agree_self) ⟨rfl, rfl, trivial⟩ ⟨rfl, ?_, ?_⟩ ?_
      · try dsimp only
        omega
      · try dsimp only
        rw [sumI, ← hsu]
        first
        | (rw [show pb p x z = true from by assumption, show pb p z y = true from by assumption]; rfl)
        | (rw [show pb p x z = false from by assumption]; simp; done)
        | (rw [show pb p z y = false from by assumption]; simp; done)
      · first | omega | (dsimp only; omega)
    · refine lx_move (vp) rfl rfl <| lx_move (.int .i64 ((z : Nat) : Int)) rfl rfl <| lx_ix (i := z) rfl eT29 hr_vp rfl rfl (by omega) <| lx_ld (i := z) (j := 0) ((gt hs z).v) rfl rfl fl70 hr_vp (by omega) rfl rfl <| lx_move (.int .i64 ((y : Nat) : Int)) rfl rfl <| lx_ix (i := y) rfl eT70 (ht_vp.2 z (by omega)) rfl rfl (by rw [hp2.2 z (by omega)]; omega) <| lx_ld (i := y) (j := 0) (.bool (gt (gt p z) y)) rfl rfl fl4 (ht_vp.2 z (by omega)) (by rw [hp2.2 z (by omega)]; omega) rfl rfl <| lx_pick true (.bool (gt (gt p z) y)) rfl rfl rfl <| lx_nil <| wi_condS (t := gt (gt p z) y) rfl (fun c3 => ?_) (fun c3 => ?_)
      · refine wi_reg rfl <| ?_
        have hbz := hp7 z (by omega)
        refine lx_move (.int .i64 s) rfl rfl <| lx_move (.func (.func 143) #[] #[.pointer (some ⟨bmu, 0, none⟩), .pointer (some ⟨b4, 0, none⟩)]) rfl rfl <| lx_move (.int .i64 ((z : Nat) : Int)) rfl rfl <| lx_callV [] [.pointer (some ⟨bmu, 0, none⟩), .pointer (some ⟨b4, 0, none⟩)] [.int .i64 ((z : Nat) : Int)] rfl rfl Try.call143 rfl rfl (moe1_spec h z x1 vmu hm mu bmu b4 hb_bmu hb_b4 hr_vmu ht_vmu (by omega) (by omega) (by omega)) (fun _ _ _ => trivial) ?_
        rintro _ h1 ⟨rfl, rfl⟩
        refine lx_add (s + (gt (gt mu x1) z)) rfl rfl rfl (by omega) (by omega) (by omega) <| lx_assign (.int .i64 (s + (gt (gt mu x1) z))) rfl rfl <| lx_nil <| wi_inBlock <| wi_reg rfl <| lx_add (((z + 1 : Nat) : Int)) rfl rfl rfl (by omega) (by omega) (by omega) <| lx_move (.int .i64 ((z + 1 : Nat) : Int)) rfl rfl <| lx_nil <| ?_
        -- L0.2
        refine IH1 _ _ (z + 1, s + (gt (gt mu x1) z)) (agree_ups rfl agree_self) ⟨rfl, rfl, trivial⟩ ⟨rfl, ?_, ?_⟩ ?_
        · try dsimp only
          omega
        · try dsimp only
          rw [sumI, ← hsu]
          first
          | (rw [show pb p x z = true from by assumption, show pb p z y = true from by assumption]; rfl)
          | (rw [show pb p x z = false from by assumption]; simp; done)
          | (rw [show pb p z y = false from by assumption]; simp; done)
        · first | omega | (dsimp only; omega)
      · refine wi_skip <| wi_inBlock <| wi_reg rfl <| lx_add (((z + 1 : Nat) : Int)) rfl rfl rfl (by omega) (by omega) (by omega) <| lx_move (.int .i64 ((z + 1 : Nat) : Int)) rfl rfl <| lx_nil <| ?_
        -- L0.3
        refine IH1 _ _ (z + 1, s) (agree_ups rfl agree_self) ⟨rfl, rfl, trivial⟩ ⟨rfl, ?_, ?_⟩ ?_
        · try dsimp only
          omega
        · try dsimp only
          rw [sumI, ← hsu]
          first
          | (rw [show pb p x z = true from by assumption, show pb p z y = true from by assumption]; rfl)
          | (rw [show pb p x z = false from by assumption]; simp; done)
          | (rw [show pb p z y = false from by assumption]; simp; done)
        · first | omega | (dsimp only; omega)
  · refine lx_nil <| wi_seq <| wi_false rfl <| wi_exit rfl <| wi_seq <| wi_reg rfl <| lx_move (.int .i64 s) rfl rfl <| lx_assign (.int .i64 s) rfl rfl <| lx_nil <| ?_
    -- R1
    refine wi_ret ⟨.int .i64 s, (res_one rfl rfl), ⟨?_, rfl⟩⟩
    · rw [hsu, show z = p.length from by omega]

end Go.Proofs.Ytdokijbdnajhgaa
namespace Go.Proofs.Ytdokijbdnajhgaa
open Go Go.X

set_option maxRecDepth 10000 in
theorem moebius_spec (h : Heap) (vp : Value) (hs : List Hdr) (p : List (List Bool)) (hr_vp : RdE encHd h vp hs) (ht_vp : RT encB h hs p) (hp1 : p.length ≤ 12) (hp2 : isT p = true) : Fx Try.prog 108 [vp] h (fun v h' => ∃ (s : Value) (hm : List Hdr), v = s ∧ OwE encHd h' h.size 25 s hm ∧ OT encI h' h.size 3 hm (muT p.length (pb p)) ∧ Ext h.size h h') := by
  have hl_vp := ht_vp.1
  refine fx_intro (n := 47) [(0, vp)] Try.func108 rfl rfl (by simp) ⟨rfl, trivial⟩ fun g0 => ?_
  refine wi_seq <| wi_reg rfl <| lx_box #[vp] rfl rfl (sl_cells hr_vp) (fun _ _ _ => trivial) fun bn1 h1 hbn1 hbk1 hx1 hsz1 => ?_
  have hbb1 : h.size ≤ bn1 := by have := (Nat.le_refl h.size); omega
  refine lx_assign (.slice none 0 0) rfl rfl <| lx_nil <| wi_seq <| wi_reg rfl <| ?_
  have hsq2 := isT_sq hp2
  have hio := isT_o hp2
  refine lx_ldB (vp) rfl rfl fl29 hbk1 rfl rfl <| lx_len rfl Try.underlying29 hr_vp rfl <| lx_make (E := encHd) (n := hs.length) (B := h1.size) (default : Hdr) rfl rfl Try.underlying49 (eZ49) rfl rfl (by omega) (by omega) (Nat.le_refl _) (fun _ _ => trivial) fun v1 h2 ho1 hx2 hvb1 => ?_
  have hx0_1 := hx1.trans2 hx2 hx1.size
  have hb1 := hbk1.extS hx2
  have ho2 := ho1.base hx1.size
  have hot1 := OT.rep encI h2 h.size 3 hs.length
  have hl_hot1 := hot1.1
  refine lx_alloc rfl rfl Try.zeroValue49 (fun _ _ _ => trivial) fun bn2 h3 hbn2 hbk2 hx3 hsz2 => ?_
  have hbb2 : h.size ≤ bn2 := by have := hx0_1.size; omega
  have hne1 : bn2 ≠ bn1 := by have := hb1.lt; omega
  have hdj1 : Value.ownBlock v1 ≠ some bn2 := by intro e; have := (ho2.lt e).2; omega
  have hnb1 : Nbt (List.replicate hs.length (default : Hdr)) bn2 := nbt_new hot1 (by omega)
  have hx0_2 := hx0_1.trans2 hx3 hx0_1.size
  have ho3 := ho2.extS hx3
  have hot2 := hot1.extS hx3
  have hb2 := hb1.extS hx3
  have hbk2 : Blk h3 bn2 #[.slice none 0 0] 49 := hbk2
  refine lx_stB (v1) rfl rfl Try.sizeOf49 hbk2 (by simp) rfl rfl (sl_cells ho3.rd) (sl_one ho3.rd) (fun _ _ _ _ => trivial) fun h4 hbk3 hc1 => ?_
  have hx0_3 := hx0_2.trans (hc1.ext hbb2)
  have ho4 := hc1.owE ho3 hdj1
  have hot3 := hot2.chgB hc1 hnb1
  have hb3 := hc1.blk hb2 (Ne.symm hne1)
  have hbk3 : Blk h4 bn2 #[v1] 49 := hbk3
  refine lx_nil <| wi_seq <| wi_seq <| wi_reg rfl <| lx_ldB (vp) rfl rfl fl29 hb3 rfl rfl <| lx_len rfl Try.underlying29 hr_vp rfl <| lx_move (.int .i64 0) rfl rfl <| lx_nil <| wi_block <| ?_
  have hds9 : ([] : List Nat).map markD = [] := rfl
  refine wi_loopD (σ := Nat × (List Hdr) × (List (List Int)) × (List Nat)) (rngB 29 46 [4, 5, 11, 12, 13, 14, 15, 16, 17, 18, 19, 20, 21, 22, 23, 24, 25, 26, 27]) (fun (ss : Nat × (List Hdr) × (List (List Int)) × (List Nat)) => [(11, .int .i64 ((ss.1 : Nat) : Int))]) (fun (ss : Nat × (List Hdr) × (List (List Int)) × (List Nat)) => ss.2.2.2) (fun (ss : Nat × (List Hdr) × (List (List Int)) × (List Nat)) (hh : Heap) => DsOk ss.2.2.2 hh ∧ (∀ d ∈ ss.2.2.2, h.size ≤ d) ∧ ss.2.2.2.Nodup ∧ OwE encHd hh h.size 25 v1 ss.2.1 ∧ OT encI hh h.size 3 ss.2.1 ss.2.2.1 ∧ Blk hh bn1 #[vp] 29 ∧ Blk hh bn2 #[v1] 49 ∧ Ext h.size h hh ∧ (ss.1 ≤ p.length) ∧ (ss.2.2.1.length = p.length) ∧ (∀ i, i < ss.1 → gt ss.2.2.1 i = mapR p.length (muF p.length (pb p) i))) (fun (ss : Nat × (List Hdr) × (List (List Int)) × (List Nat)) => p.length - ss.1) (0, List.replicate hs.length default, List.replicate hs.length [], []) ⟨rfl, trivial⟩ ⟨(DsOk.nil _), (fun d hd9 => by cases hd9), List.nodup_nil, ?_, ?_, ?_, ?_, hx0_3, ?_, ?_, ?_⟩ ?_
  · first | exact ho4 | (simpa using ho4)
  · first | exact hot3 | (simpa using hot3)
  · exact hb3
  · exact hbk3
  · try dsimp only
    omega
  · try dsimp only
    rw [List.length_replicate]; exact hl_vp
  · try dsimp only
    intro i hi; omega
  rintro g1 ⟨x, hm, rows, ds⟩ hh1 ⟨hdd1, hdb1, hdn1, ho5, hot4, hbk4, hbk5, hx0_4, hx, hrl, hro⟩ IH1
  dsimp only at *
  have hlt1 : ∀ d ∈ ds, d < hh1.size := fun d hd9 => (Array.getElem?_eq_some_iff.1 (hdd1 d hd9)).1
  have hl_hot4 := hot4.1
  refine wi_seq <| wi_reg rfl <| lx_lssS rfl rfl rfl (fun c1 => ?_) (fun c1 => ?_)
  · refine lx_nil <| wi_seq <| wi_true rfl <| wi_skip <| wi_seq <| wi_block <| wi_seq <| wi_reg rfl <| lx_move (.int .i64 ((x : Nat) : Int)) rfl rfl <| lx_alloc rfl rfl Try.zeroValue3 (fun _ _ _ => trivial) fun bn3 h5 hbn3 hbk6 hx4 hsz3 => ?_
    have hbb3 : h.size ≤ bn3 := by have := hx0_4.size; omega
    have hne2 : bn3 ≠ bn1 := by have := hbk4.lt; omega
    have hne3 : bn3 ≠ bn2 := by have := hbk5.lt; omega
    have hdj2 : Value.ownBlock v1 ≠ some bn3 := by intro e; have := (ho5.lt e).2; omega
    have hnb2 : Nbt hm bn3 := nbt_new hot4 (by omega)
    have hch1 := Nc.of_ext hx4
    have hsz_hch1 := hch1.1
    have hx0_5 := hx0_4.trans2 hx4 hx0_4.size
    have ho6 := ho5.extS hx4
    have hot5 := hot4.extS hx4
    have hb4 := hbk4.extS hx4
    have hb5 := hbk5.extS hx4
    have hbk6 : Blk h5 bn3 #[.int .i64 0] 3 := hbk6
    refine lx_stB (.int .i64 ((x : Nat) : Int)) rfl rfl Try.sizeOf3 hbk6 (by simp) rfl rfl rfl rfl (fun _ _ _ _ => trivial) fun h6 hbk7 hc2 => ?_
    have hch2 := hch1.trans (Nc.of_chgB hc2 hbk6)
    have hsz_hch2 := hch2.1
    have hx0_6 := hx0_5.trans (hc2.ext hbb3)
    have ho7 := hc2.owE ho6 hdj2
    have hot6 := hot5.chgB hc2 hnb2
    have hb6 := hc2.blk hb4 (Ne.symm hne2)
    have hb7 := hc2.blk hb5 (Ne.symm hne3)
    have hbk7 : Blk h6 bn3 #[.int .i64 ((x : Nat) : Int)] 3 := hbk7
    refine lx_nil <| wi_seq <| wi_draw mo rfl (by decide +kernel) <| lx_ldB (v1) rfl rfl fl49 hb7 rfl rfl <| lx_ldB (.int .i64 ((x : Nat) : Int)) rfl rfl fl3 hbk7 rfl rfl <| lx_ldB (vp) rfl rfl fl29 hb6 rfl rfl <| lx_len rfl Try.underlying29 hr_vp rfl <| lx_make (E := encI) (n := hs.length) (B := h6.size) (0 : Int) rfl rfl Try.underlying25 (eZ25) rfl rfl (by omega) (by omega) (Nat.le_refl _) (fun _ _ => trivial) fun v2 h7 ho8 hx5 hvb2 => ?_
    have hch3 := hch2.trans (Nc.of_ext hx5)
    have hsz_hch3 := hch3.1
    have hx0_7 := hx0_6.trans2 hx5 hx0_6.size
    have ho9 := ho7.extS hx5
    have hot7 := hot6.extS hx5
    have hb8 := hb6.extS hx5
    have hb9 := hb7.extS hx5
    have hb10 := hbk7.extS hx5
    have ho10 := ho8.base hx0_6.size
    have hot8 : OT encI h7 h.size 3 (hm.set x (hdrOf v2)) (rows.set x (List.replicate hs.length (0 : Int))) := OT.set hot7 (by omega) ho10 (djt_ne (djt_new hot6 ho8))
    have hnb3 : Nbt (hm.set x (hdrOf v2)) bn3 := nbt_set hnb2 (hdr_rd ho10.rd) (nb_new hbk7 ho8)
    refine lx_ix (i := x) rfl eT49 ho9.rd rfl rfl (by omega) <| lx_st (i := x) (hdrOf v2) rfl rfl Try.sizeOf25 ho9 (by omega) rfl (hdr_cells ho10.rd) (fun _ _ _ _ _ => trivial) fun h8 ho11 hc3 hsz4 => ?_
    have hch4 := hch3.trans (Nc.of_chg hc3 ho9)
    have hsz_hch4 := hch4.1
    have hx0_8 := hx0_7.trans (ho9.ext hc3 hx0_7.size)
    have hb11 := hb8.chg hc3 (nb_new hbk1 ho1)
    have hb12 := hb9.chg hc3 hdj1
    have hb13 := hb10.chg hc3 hdj2
    have hot9 : OT encI h8 h.size 3 (hm.set x (hdrOf v2)) (rows.set x (List.replicate hs.length (0 : Int))) := hot8.chg hc3 (djt_ty hot8 ho9 (by decide))
    have hl_hot9 := hot9.1
    have ho11 : OwE encHd h8 h.size 25 v1 (hm.set x (hdrOf v2)) := ho11
    refine lx_nil <| wi_seq <| wi_draw mo rfl (by decide +kernel) <| ?_
    have hgx : gt (rows.set x (List.replicate hs.length (0 : Int))) x = List.replicate hs.length 0 := by rw [gt_set (by omega), if_pos rfl]
    have hgl : (gt (rows.set x (List.replicate hs.length (0 : Int))) x).length = p.length := by rw [hgx]; simp; omega
    refine lx_ldB (v1) rfl rfl fl49 hb12 rfl rfl <| lx_ldB (.int .i64 ((x : Nat) : Int)) rfl rfl fl3 hb13 rfl rfl <| lx_ix (i := x) rfl eT49 ho11.rd rfl rfl (by first | omega | (simp only [List.length_set, List.length_append, List.length_cons, List.length_nil, List.length_replicate, List.length_take, swp_length, exch_length]; omega)) <| lx_ld (i := x) (j := 0) ((gt (hm.set x (hdrOf v2)) x).v) rfl rfl fl25 ho11.rd (by first | omega | (simp only [List.length_set, List.length_append, List.length_cons, List.length_nil, List.length_replicate, List.length_take, swp_length, exch_length]; omega)) rfl rfl <| lx_ldB (.int .i64 ((x : Nat) : Int)) rfl rfl fl3 hb13 rfl rfl <| lx_ix (i := x) rfl eT25 (hot9.2.1 x (by first | omega | (simp only [List.length_set, List.length_append, List.length_cons, List.length_nil, List.length_replicate, List.length_take, swp_length, exch_length]; omega))).rd rfl rfl (by first | omega | (simp only [List.length_set, List.length_append, List.length_cons, List.length_nil, List.length_replicate, List.length_take, swp_length, exch_length]; omega)) <| lx_st (i := x) ((1 : Int)) rfl rfl Try.sizeOf3 (hot9.2.1 x (by first | omega | (simp only [List.length_set, List.length_append, List.length_cons, List.length_nil, List.length_replicate, List.length_take, swp_length, exch_length]; omega))) (by first | omega | (simp only [List.length_set, List.length_append, List.length_cons, List.length_nil, List.length_replicate, List.length_take, swp_length, exch_length]; omega)) rfl rfl (fun _ _ _ _ _ => trivial) fun h9 ho12 hc4 hsz5 => ?_
    have hch5 := hch4.trans (Nc.of_chg hc4 (hot9.2.1 x (by first | omega | (simp only [List.length_set, List.length_append, List.length_cons, List.length_nil, List.length_replicate, List.length_take, swp_length, exch_length]; omega))))
    have hsz_hch5 := hch5.1
    have hx0_9 := hx0_8.trans ((hot9.2.1 x (by first | omega | (simp only [List.length_set, List.length_append, List.length_cons, List.length_nil, List.length_replicate, List.length_take, swp_length, exch_length]; omega))).ext hc4 hx0_8.size)
    have ho13 := ho11.chg hc4 (Dj.symm ((djt_ty hot9 ho11 (by decide)) x (by rw [hot9.1]; exact (by first | omega | (simp only [List.length_set, List.length_append, List.length_cons, List.length_nil, List.length_replicate, List.length_take, swp_length, exch_length]; omega)))))
    have hb14 := hb11.chg hc4 ((nbt_ty hot9 hb11 (by decide)) x (by rw [hot9.1]; exact (by first | omega | (simp only [List.length_set, List.length_append, List.length_cons, List.length_nil, List.length_replicate, List.length_take, swp_length, exch_length]; omega))))
    have hb15 := hb12.chg hc4 ((nbt_ty hot9 hb12 (by decide)) x (by rw [hot9.1]; exact (by first | omega | (simp only [List.length_set, List.length_append, List.length_cons, List.length_nil, List.length_replicate, List.length_take, swp_length, exch_length]; omega))))
    have hb16 := hb13.chg hc4 (hnb3 x (by rw [hot9.1]; exact (by first | omega | (simp only [List.length_set, List.length_append, List.length_cons, List.length_nil, List.length_replicate, List.length_take, swp_length, exch_length]; omega))))
    have hot10 := OT.cell hot9 (by first | omega | (simp only [List.length_set, List.length_append, List.length_cons, List.length_nil, List.length_replicate, List.length_take, swp_length, exch_length]; omega)) hc4 ho12
    have hl_hot10 := hot10.1
    refine lx_nil <| wi_seq <| wi_reg rfl <| lx_ldB (vp) rfl rfl fl29 hb14 rfl rfl <| lx_call [vp] rfl rfl Try.call105 rfl (upward_spec h9 vp hs p (hr_vp.extS hx0_9) (ht_vp.extS hx0_9) (by omega) hp2) (fun _ _ _ => trivial) ?_
    rintro _ h10 ⟨bl, vl, xs, rfl, ho14, hot11, ho15, hli, hx6⟩
    have hch6 := hch5.trans (Nc.of_ext hx6)
    have hsz_hch6 := hch6.1
    have hx0_10 := hx0_9.trans2 hx6 hx0_9.size
    have ho16 := ho13.extS hx6
    have hot12 := hot10.extS hx6
    have hb17 := hb14.extS hx6
    have hb18 := hb15.extS hx6
    have hb19 := hb16.extS hx6
    have hbx1 : h.size ≤ bl := Nat.le_trans hx0_9.size ho14
    have ho17 := ho15.base hx0_9.size
    refine lx_nil <| wi_block <| ?_
    refine wi_range (Ds := ds) (gf := 170) (lb := [.pointer (some ⟨bl, 0, none⟩)]) Try.call170 rfl (fun l1 D1 h11 rc1 hlD1 hll1 hDl1 hx7 hlr1 hDr1 hLo1 => ?_)
    have hbl1 : h.size ≤ l1 := Nat.le_trans hx0_10.size hll1
    have hbD1 : h.size ≤ D1 := Nat.le_trans hx0_10.size hlD1
    have hch7 := hch6.trans (Nc.of_ext hx7)
    have hsz_hch7 := hch7.1
    have hx0_11 := hx0_10.trans2 hx7 hx0_10.size
    have ho18 := ho16.extS hx7
    have hot13 := hot12.extS hx7
    have ho19 := ho17.extS hx7
    have hb20 := hb17.extS hx7
    have hb21 := hb18.extS hx7
    have hb22 := hb19.extS hx7
    have hb23 := hot11.extS hx7
    refine Fx.mono (values1_seq bl vl xs (by have := hli.len; omega) l1 h11 (fun k hh => hh[l1]? = some (.loop rc1) ∧ DsOk (D1 :: ds) hh ∧ ∃ (hm : List Hdr), ∃ (rows : List (List Int)), OwE encHd hh h.size 25 v1 hm ∧ OT encI hh h.size 3 hm rows ∧ OwE encI hh h.size 3 vl xs ∧ Djt hm vl ∧ Nbt hm bn3 ∧ Value.ownBlock vl ≠ some bn3 ∧ Blk hh bl #[vl] 25 ∧ Blk hh bn1 #[vp] 29 ∧ Blk hh bn2 #[v1] 49 ∧ Blk hh bn3 #[.int .i64 ((x : Nat) : Int)] 3 ∧ Ext h.size h hh ∧ (rows.length = p.length) ∧ (gt rows x = mrow p.length (pb p) x xs k) ∧ (∀ i, i < x → gt rows i = mapR p.length (muF p.length (pb p) i))) ?_ ?_ ?_ ?_) ?_
    · rintro k ha hb9 ⟨hr9, hd9, hm, rows, ho20, hot14, ho21, hdt1, hnb4, hdj3, hbk8, hbk9, hbk10, hbk11, hx0_12, hrl, hrx, hro⟩ hq1
      exact ⟨hq1.obj hr9 (Array.getElem?_eq_some_iff.1 hlr1).1, hq1.dso hd9 (fun d hd8 => (Array.getElem?_eq_some_iff.1 (DsOk.cons hDr1 (hdd1.nc (hch6.trans (Nc.of_ext hx7))) d hd8)).1), hm, rows, hq1.owE ho20 (by decide), hq1.ot hot14 (by decide), hq1.owE ho21 (by decide), hdt1, hnb4, hdj3, hq1.blk hbk8 (by decide), hq1.blk hbk9 (by decide), hq1.blk hbk10 (by decide), hq1.blk hbk11 (by decide), hq1.ext hx0_12 hx0_11.size, hrl, hrx, hro⟩
    · rintro k ha ⟨hr9, hd9, hm, rows, ho22, hot15, ho23, hdt2, hnb5, hdj4, hbk12, hbk13, hbk14, hbk15, hx0_13, hrl, hrx, hro⟩
      exact ⟨hbk12, ho23.rd⟩
    · rintro k ha1 hk1 ⟨hr1, hd1, hm, rows, ho24, hot16, ho25, hdt3, hnb6, hdj5, hbk16, hbk17, hbk18, hbk19, hx0_14, hrl, hrx, hro⟩
      have hxl9 := hli.len
      obtain ⟨b, hgb, hbn⟩ := hli.rng k (by omega)
      dsimp only
      rw [hgb]
      have hl_hot16 := hot16.1
      refine yield_ok hLo1 hr1 rfl (by decide) ?_
      refine wi_forget [(1, .pointer (some ⟨bn1, 0, none⟩)), (3, .pointer (some ⟨bn2, 0, none⟩)), (4, .pointer (some ⟨bn3, 0, none⟩)), (28, .int .i64 ((b : Nat) : Int))] ⟨rfl, rfl, rfl, rfl, trivial⟩ fun g2 => ?_
      refine wi_reg rfl <| lx_assign (.int .i64 ((b : Nat) : Int)) rfl rfl <| lx_nil <| ?_
      refine wi_begin hr1 hLo1.st (fun h12 hc5 hbu1 => ?_)
      have hcel1 := cel_loop hc5 hr1
      have hx0_15 := hx0_14.trans (hc5.ext hbl1)
      have ho26 := hcel1.owE ho24
      have hot17 := hot16.cel hcel1
      have ho27 := hcel1.owE ho25
      have hb24 := hcel1.blk hbk17
      have hb25 := hcel1.blk hbk18
      have hb26 := hcel1.blk hbk19
      have hb27 := hcel1.blk hbk16
      have hch8 := (Tk.of_loop hc5 hr1 : Tk 26 _ _)
      have hd2 := hd1.chgL hr1 hc5
      refine wi_block <| wi_seq <| wi_reg rfl <| lx_ldB (vp) rfl rfl fl29 hb24 rfl rfl <| lx_ldB (.int .i64 ((x : Nat) : Int)) rfl rfl fl3 hb26 rfl rfl <| lx_move (.int .i64 ((b : Nat) : Int)) rfl rfl <| lx_call [vp, .int .i64 ((x : Nat) : Int), .int .i64 ((b : Nat) : Int)] rfl rfl Try.call106 rfl (below_spec h12 vp hs p x b (hr_vp.extS hx0_15) (ht_vp.extS hx0_15) (by omega) hsq2 (by omega) (by omega)) (fun _ _ _ => trivial) ?_
      rintro _ h13 ⟨rfl, rfl⟩
      refine lx_nil <| wi_condS (t := decide (x ≠ b) && pb p x b) rfl (fun c2 => ?_) (fun c2 => ?_)
      · refine wi_drawS (fun h9 => Blk h9 bn1 #[vp] 29 ∧ Blk h9 bn2 #[v1] 49 ∧ Blk h9 bn3 #[.int .i64 ((x : Nat) : Int)] 3 ∧ OwE encHd h9 h.size 25 v1 hm) (fun o => match o.dst with | some 33 | some 34 | some 36 | some 38 | some 39 => .free | _ => kindOf o) mo rfl (by decide +kernel) ⟨hb24, hb25, hb26, ho26⟩ <| ?_
        obtain ⟨hne, hf⟩ : x ≠ b ∧ pb p x b = true := by simpa using ‹(decide (x ≠ b) && pb p x b) = true›
        have hsum : (sumI p.length fun q => if pb p x q && pb p q b then gt (gt rows x) q else 0) = -muF p.length (pb p) x b := by
          rw [hrx, ← mrow_sum hio hli (by omega) (by omega) hgb hbn hne hf, Int.neg_neg]
        have hmb := muF_bound (n := p.length) (f := pb p) hp1 x b
        have hrl9 : (gt rows x).length = p.length := by rw [hrx]; exact mrow_len _ _ _ _ _
        refine lx_ldBF (v1) rfl fl49 (fun _ hs9 => hs9.2.1) rfl rfl <| lx_ldBF (.int .i64 ((x : Nat) : Int)) rfl fl3 (fun _ hs9 => hs9.2.2.1) rfl rfl <| lx_ix (i := x) rfl eT49 ho26.rd rfl rfl (by omega) <| lx_ldF (i := x) (j := 0) ((gt hm x).v) rfl fl25 (fun _ hs9 => hs9.2.2.2.rd) (by omega) rfl rfl <| lx_move (.int .i64 ((b : Nat) : Int)) rfl rfl <| lx_ldBF (vp) rfl fl29 (fun _ hs9 => hs9.1) rfl rfl <| lx_ldBF (.int .i64 ((x : Nat) : Int)) rfl fl3 (fun _ hs9 => hs9.2.2.1) rfl rfl <| lx_move (.int .i64 ((b : Nat) : Int)) rfl rfl <| lx_makeFunc [] [.pointer (some ⟨bn2, 0, none⟩), .pointer (some ⟨bn3, 0, none⟩)] rfl rfl rfl <| lx_call [vp, .int .i64 ((x : Nat) : Int), .int .i64 ((b : Nat) : Int), .func (.func 143) #[] #[.pointer (some ⟨bn2, 0, none⟩), .pointer (some ⟨bn3, 0, none⟩)]] rfl rfl Try.call142 rfl (over_spec h12 vp hs p x b x v1 hm rows bn2 bn3 hb25 hb26 ho26.rd hot17.rt (hr_vp.extS hx0_15) (ht_vp.extS hx0_15) (by omega) hsq2 (by omega) (by omega) (by omega) hrl9 (fun z hz => by rw [hrx]; exact mrow_bound hp1 hz)) (by rintro _ _ ⟨_, rfl⟩; exact ⟨hb24, hb25, hb26, ho26⟩) ?_
        rintro _ h14 ⟨rfl, rfl⟩
        rw [hsum]
        refine lx_neg rfl rfl (by omega) (by omega) <| lx_ix (i := b) rfl eT25 (hot17.2.1 x (by omega)).rd rfl rfl (by omega) <| lx_st (i := b) (-(-muF p.length (pb p) x b)) rfl rfl Try.sizeOf3 (hot17.2.1 x (by omega)) (by omega) rfl rfl (fun hs9 _ _ hc9 _ => ⟨Blk.chg hs9.1 hc9 ((nbt_ty hot17 hb24 (by decide)) x (by rw [hot17.1]; exact (by omega))), Blk.chg hs9.2.1 hc9 ((nbt_ty hot17 hb25 (by decide)) x (by rw [hot17.1]; exact (by omega))), Blk.chg hs9.2.2.1 hc9 (hnb6 x (by rw [hot17.1]; exact (by omega))), OwE.chg hs9.2.2.2 hc9 (Dj.symm (dj_ty (hot17.2.1 x (by omega)) hs9.2.2.2 (by decide)))⟩) fun h15 ho28 hc6 hsz6 => ?_
        have hch9 := hch8.trans ((Tk.of_chg hc6 (hot17.2.1 x (by omega)) (by decide) : Tk 26 _ _))
        have hsz_hch9 := hch9.1
        have hch10 := Nc.of_chg hc6 (hot17.2.1 x (by omega))
        have hsz_hch10 := hch10.1
        have hx0_16 := hx0_15.trans ((hot17.2.1 x (by omega)).ext hc6 hx0_15.size)
        have ho29 := ho26.chg hc6 (Dj.symm ((djt_ty hot17 ho26 (by decide)) x (by rw [hot17.1]; exact (by omega))))
        have ho30 := ho27.chg hc6 (Dj.symm (hdt3 x (by rw [hot17.1]; exact (by omega))))
        have hb28 := hb24.chg hc6 ((nbt_ty hot17 hb24 (by decide)) x (by rw [hot17.1]; exact (by omega)))
        have hb29 := hb25.chg hc6 ((nbt_ty hot17 hb25 (by decide)) x (by rw [hot17.1]; exact (by omega)))
        have hb30 := hb26.chg hc6 (hnb6 x (by rw [hot17.1]; exact (by omega)))
        have hb31 := hb27.chg hc6 ((nbt_ty hot17 hb27 (by decide)) x (by rw [hot17.1]; exact (by omega)))
        have hot18 := OT.cell hot17 (by omega) hc6 ho28
        have hl_hot18 := hot18.1
        refine lx_nil <| wi_inBlock <| ?_
        have hbu2 := (nc_loop hch10 hbu1)
        have hd3 := (hd2.nc hch10)
        -- Q2.1
        refine wi_end ⟨rfl, hbu2, fun h16 hc7 hlr2 => ?_⟩
        have hcel2 := cel_loop hc7 hbu2
        have hx0_17 := hx0_16.trans (hc7.ext hbl1)
        have ho31 := hcel2.owE ho29
        have hot19 := hot18.cel hcel2
        have ho32 := hcel2.owE ho30
        have hb32 := hcel2.blk hb28
        have hb33 := hcel2.blk hb29
        have hb34 := hcel2.blk hb30
        have hb35 := hcel2.blk hb31
        refine ⟨hch9.trans (Tk.of_loop hc7 hbu2), hlr2, hd3.chgL hbu2 hc7, hm, rows.set x ((gt rows x).set b (-(-muF p.length (pb p) x b))), ?_, ?_, ?_, hdt3, hnb6, hdj5, ?_, ?_, ?_, ?_, hx0_17, ?_, ?_, ?_⟩
        · first | exact ho31 | (simpa using ho31)
        · first | exact hot19 | (simpa using hot19)
        · first | exact ho32 | (simpa using ho32)
        · exact hb35
        · exact hb32
        · exact hb33
        · exact hb34
        · try dsimp only
          first | exact hrl | (rw [List.length_set]; exact hrl)
        · try dsimp only
          first
          | (rw [gt_set (by omega), if_pos rfl, hrx, Int.neg_neg]; exact mrow_set hgb hbn hne hf)
          | (rw [hrx]; exact mrow_skip hgb (fun h9 => by have c9 : (decide (x ≠ b) && pb p x b) = false := (by assumption); rw [decide_eq_true h9.1, h9.2] at c9; cases c9))
        · try dsimp only
          first
          | exact hro
          | (intro i hi; rw [gt_set (by omega), if_neg (by omega)]; exact hro i hi)
      · refine wi_skip <| wi_inBlock <| ?_
        have hbu3 := hbu1
        have hd4 := hd2
        -- Q2.2
        refine wi_end ⟨rfl, hbu3, fun h17 hc8 hlr3 => ?_⟩
        have hcel3 := cel_loop hc8 hbu3
        have hx0_18 := hx0_15.trans (hc8.ext hbl1)
        have ho33 := hcel3.owE ho26
        have hot20 := hot17.cel hcel3
        have ho34 := hcel3.owE ho27
        have hb36 := hcel3.blk hb24
        have hb37 := hcel3.blk hb25
        have hb38 := hcel3.blk hb26
        have hb39 := hcel3.blk hb27
        refine ⟨hch8.trans (Tk.of_loop hc8 hbu3), hlr3, hd4.chgL hbu3 hc8, hm, rows, ?_, ?_, ?_, hdt3, hnb6, hdj5, ?_, ?_, ?_, ?_, hx0_18, ?_, ?_, ?_⟩
        · first | exact ho33 | (simpa using ho33)
        · first | exact hot20 | (simpa using hot20)
        · first | exact ho34 | (simpa using ho34)
        · exact hb39
        · exact hb36
        · exact hb37
        · exact hb38
        · try dsimp only
          first | exact hrl | (rw [List.length_set]; exact hrl)
        · try dsimp only
          first
          | (rw [gt_set (by omega), if_pos rfl, hrx, Int.neg_neg]; exact mrow_set hgb hbn hne hf)
          | (rw [hrx]; exact mrow_skip hgb (fun h9 => by have c9 : (decide (x ≠ b) && pb p x b) = false := (by assumption); rw [decide_eq_true h9.1, h9.2] at c9; cases c9))
        · try dsimp only
          first
          | exact hro
          | (intro i hi; rw [gt_set (by omega), if_neg (by omega)]; exact hro i hi)
    · refine ⟨hlr1, DsOk.cons hDr1 (hdd1.nc (hch6.trans (Nc.of_ext hx7))), hm.set x (hdrOf v2), (rows.set x (List.replicate hs.length (0 : Int))).set x ((gt (rows.set x (List.replicate hs.length (0 : Int))) x).set x ((1 : Int))), ?_, ?_, ?_, (djt_new hot10 ho15), hnb3, (nb_new hb16 ho15), ?_, ?_, ?_, ?_, hx0_11, ?_, ?_, ?_⟩
      · first | exact ho18 | (simpa using ho18)
      · first | exact hot13 | (simpa using hot13)
      · first | exact ho19 | (simpa using ho19)
      · exact hb23
      · exact hb20
      · exact hb21
      · exact hb22
      · try dsimp only
        simp only [List.length_set]; exact hrl
      · try dsimp only
        rw [gt_set (by simp only [List.length_set]; omega), if_pos rfl, hgx, hl_vp]; exact mrow_zero (by omega)
      · try dsimp only
        intro i hi; rw [gt_set (by simp only [List.length_set]; omega), if_neg (by omega), gt_set (by omega), if_neg (by omega)]; exact hro i hi
    rintro _ h18 ⟨_, hr2, hd5, hm, rows, ho35, hot21, ho36, hdt4, hnb7, hdj6, hbk20, hbk21, hbk22, hbk23, hx0_19, hrl, hrx, hro⟩
    have hl_hot21 := hot21.1
    refine ⟨hr2, fun h19 hc9 => ?_⟩
    have hcel4 := cel_loop hc9 hr2
    have hx0_20 := hx0_19.trans (hc9.ext hbl1)
    have ho37 := hcel4.owE ho35
    have hot22 := hot21.cel hcel4
    have ho38 := hcel4.owE ho36
    have hb40 := hcel4.blk hbk21
    have hb41 := hcel4.blk hbk22
    have hb42 := hcel4.blk hbk23
    have hb43 := hcel4.blk hbk20
    have hd6 := hd5.chgL hr2 hc9
    have hbDs1 : ∀ d ∈ D1 :: ds, h.size ≤ d := fun d hd9 => by
      rw [List.mem_cons] at hd9
      rcases hd9 with rfl | hd9
      · exact hbD1
      · exact hdb1 d hd9
    have hnd1 : (D1 :: ds).Nodup := List.nodup_cons.2 ⟨fun hd9 => (by have := hlt1 _ hd9; omega), hdn1⟩
    have hlt2 : ∀ d ∈ D1 :: ds, d < h19.size := fun d hd9 => (Array.getElem?_eq_some_iff.1 (hd6 d hd9)).1
    refine wi_inBlock <| wi_inBlock <| wi_reg rfl <| lx_add (((x + 1 : Nat) : Int)) rfl rfl rfl (by omega) (by omega) (by omega) <| lx_move (.int .i64 ((x + 1 : Nat) : Int)) rfl rfl <| lx_nil <| ?_
    -- L0.1
    refine IH1 _ _ (x + 1, hm, rows, D1 :: ds) (agree_ups rfl agree_self) ⟨rfl, trivial⟩ ⟨hd6, hbDs1, hnd1, ?_, ?_, ?_, ?_, hx0_20, ?_, ?_, ?_⟩ ?_
    · first | exact ho37 | (simpa using ho37)
    · first | exact hot22 | (simpa using hot22)
    · exact hb40
    · exact hb41
    · try dsimp only
      omega
    · try dsimp only
      exact hrl
    · try dsimp only
      intro i hi
      by_cases e : i = x
      · subst e; rw [hrx, hli.len]; exact mrow_end hli
      · exact hro i (by omega)
    · first | omega | (dsimp only; omega)
  · refine lx_nil <| wi_seq <| wi_false rfl <| wi_exit rfl <| wi_seq <| wi_reg rfl <| lx_ldB (v1) rfl rfl fl49 hbk5 rfl rfl <| lx_assign (v1) rfl rfl <| lx_nil <| ?_
    -- R1
    have hd7 := hdd1
    refine wi_retD (Ds := ds) hdn1 hd7 (fun h20 hcel5 hsz7 hbb4 => ?_)
    have hx0_21 := ext_marks2 hx0_4 hd7 hdb1 hsz7 hbb4
    have ho39 := hcel5.owE ho5
    have hot23 := hot4.cel hcel5
    have hb44 := hcel5.blk hbk4
    have hb45 := hcel5.blk hbk5
    refine ⟨v1, (res_one rfl rfl), ⟨v1, hm, rfl, ?_, ?_, hx0_21⟩⟩
    · exact ho39
    · rw [← muT_ext hrl (fun i hi => hro i (by omega))]; exact hot23

end Go.Proofs.Ytdokijbdnajhgaa
namespace Go.X
/-- The first number below 'n' that passes; -1 if none does. -/
def firstF (n : Nat) (P : Nat → Bool) : Int := match (List.range n).find? P with
  | some z => (z : Int)
  | none => -1
theorem firstF_none {n : Nat} {P : Nat → Bool} (h : ∀ i, i < n → P i = false) : firstF n P = -1 := by
  unfold firstF
  rw [List.find?_eq_none.2 fun x hx => by rw [h x (List.mem_range.1 hx)]; simp]
theorem find_first {P : Nat → Bool} {z : Nat} (hp : P z = true) : ∀ {n : Nat}, z < n → (∀ i, i < z → P i = false) → (List.range n).find? P = some z
  | 0, h, _ => by omega
  | n + 1, h, hb => by
    rw [List.range_succ, List.find?_append]
    by_cases e : z < n
    · rw [find_first hp e hb]; rfl
    · obtain rfl : z = n := by omega
      rw [List.find?_eq_none.2 fun x hx => by rw [hb x (List.mem_range.1 hx)]; simp]
      simp [hp]
theorem firstF_some {n z : Nat} {P : Nat → Bool} (hz : z < n) (hp : P z = true) (hb : ∀ i, i < z → P i = false) : firstF n P = (z : Int) := by
  unfold firstF
  rw [find_first hp hz hb]
theorem firstF_congr {n : Nat} {P Q : Nat → Bool} (h : ∀ i, i < n → P i = Q i) : firstF n P = firstF n Q := by
  by_cases hx : ∃ z, z < n ∧ P z = true
  · have : ∃ z, z < n ∧ P z = true ∧ ∀ i, i < z → P i = false := by
      obtain ⟨z, hz, hp⟩ := hx
      induction z using Nat.strongRecOn with
      | _ z ih =>
        by_cases h2 : ∃ y, y < z ∧ P y = true
        · obtain ⟨y, hy, hpy⟩ := h2; exact ih y hy (by omega) hpy
        · exact ⟨z, hz, hp, fun i hi => by
            cases c : P i
            · rfl
            · exact absurd ⟨i, hi, c⟩ h2⟩
    obtain ⟨z, hz, hp, hb⟩ := this
    rw [firstF_some hz hp hb, firstF_some hz (by rw [← h z hz]; exact hp) fun i hi => by rw [← h i (by omega)]; exact hb i hi]
  · have h1 : ∀ i, i < n → P i = false := fun i hi => by
      cases c : P i
      · rfl
      · exact absurd ⟨i, hi, c⟩ hx
    rw [firstF_none h1, firstF_none fun i hi => by rw [← h i hi]; exact h1 i hi]
theorem firstF_cases (n : Nat) (P : Nat → Bool) : (firstF n P = -1 ∧ ∀ i, i < n → P i = false) ∨ ∃ z : Nat, firstF n P = (z : Int) ∧ z < n ∧ P z = true ∧ ∀ i, i < z → P i = false := by
  by_cases h : ∀ i, i < n → P i = false
  · exact .inl ⟨firstF_none h, h⟩
  · right
    have : ∃ z, z < n ∧ P z = true := Classical.byContradiction fun hne => h fun i hi => by
      cases c : P i
      · rfl
      · exact absurd ⟨i, hi, c⟩ hne
    obtain ⟨z, hz, hp⟩ := this
    induction z using Nat.strongRecOn with
    | _ z ih =>
      by_cases h2 : ∃ y, y < z ∧ P y = true
      · obtain ⟨y, hy, hpy⟩ := h2; exact ih y hy (by omega) hpy
      · have hb : ∀ i, i < z → P i = false := fun i hi => by
          cases c : P i
          · rfl
          · exact absurd ⟨i, hi, c⟩ h2
        exact ⟨z, firstF_some hz hp hb, hz, hp, hb⟩
/-- The element of a set that, by 'F', all of the set is on one side of. -/
def bndB (F : Nat → Nat) (s x : Nat) : Bool := s.testBit x && incl s (F x)
/-- Whether 'z' is the join. -/
def jnB (n : Nat) (f : Nat → Nat → Bool) (x y z : Nat) : Bool := f x z && f y z && (List.range n).all fun w => !f x w || !f y w || f z w
theorem jnB_iff {n x y z : Nat} {f : Nat → Nat → Bool} : jnB n f x y z = true ↔ f x z = true ∧ f y z = true ∧ ∀ w, w < n → f x w = true → f y w = true → f z w = true := by
  unfold jnB
  rw [Bool.and_eq_true, Bool.and_eq_true, rall_iff, and_assoc]
  refine and_congr_right fun _ => and_congr_right fun _ => ⟨fun h w hw a b => by have := h w hw; rw [a, b] at this; simpa using this, fun h w hw => ?_⟩
  cases a : f x w
  · rfl
  · cases b : f y w
    · rfl
    · rw [h w hw a b]; rfl
def joinF (n : Nat) (f : Nat → Nat → Bool) (x y : Nat) : Int := firstF n (jnB n f x y)
def flipF (f : Nat → Nat → Bool) : Nat → Nat → Bool := fun x y => f y x
def meetF (n : Nat) (f : Nat → Nat → Bool) (x y : Nat) : Int := joinF n (flipF f) x y
theorem bnd_join {n x y : Nat} {f : Nat → Nat → Bool} : firstF n (bndB (upF n f) (upF n f x &&& upF n f y)) = joinF n f x y := firstF_congr fun z hz => by
  rw [Bool.eq_iff_iff, jnB_iff]
  unfold bndB
  rw [Bool.and_eq_true, incl_iff, Nat.testBit_and, upF_bit, upF_bit, decide_eq_true hz, Bool.true_and, Bool.true_and, Bool.and_eq_true, and_assoc]
  refine and_congr_right fun _ => and_congr_right fun _ => ⟨fun h w hw a b => ?_, fun h w hw => ?_⟩
  · have := h w (by rw [Nat.testBit_and, upF_bit, upF_bit, decide_eq_true hw, a, b]; rfl)
    rw [upF_bit, Bool.and_eq_true] at this; exact this.2
  · rw [Nat.testBit_and, upF_bit, upF_bit, Bool.and_eq_true, Bool.and_eq_true, Bool.and_eq_true, decide_eq_true_iff] at hw
    rw [upF_bit, decide_eq_true hw.1.1, h w hw.1.1 hw.1.2 hw.2.2]; rfl
theorem bnd_meet {n x y : Nat} {f : Nat → Nat → Bool} : firstF n (bndB (dnF n f) (dnF n f x &&& dnF n f y)) = meetF n f x y := bnd_join (f := flipF f)
/-- A table of numbers. -/
def tabI (n : Nat) (g : Nat → Nat → Int) : List (List Int) := (List.range n).map fun x => mapR n (g x)
theorem tabI_len (n : Nat) (g : Nat → Nat → Int) : (tabI n g).length = n := by simp [tabI]
theorem gt_tabI {n x : Nat} {g : Nat → Nat → Int} (h : x < n) : gt (tabI n g) x = mapR n (g x) := by rw [gt_eq (by rw [tabI_len]; exact h)]; simp [tabI]
theorem tabI_snoc {n k : Nat} {g : Nat → Nat → Int} {r : List (List Int)} (hr : r = (List.range k).map fun x => mapR n (g x)) : r ++ [mapR n (g k)] = (List.range (k + 1)).map fun x => mapR n (g x) := by rw [hr, List.range_succ, List.map_append]; rfl
theorem mapR_snoc (k : Nat) (g : Nat → Int) : mapR k g ++ [g k] = mapR (k + 1) g := by unfold mapR; rw [List.range_succ, List.map_append]; rfl
/-- The first two without a join or a meet. -/
def gapB (n : Nat) (f : Nat → Nat → Bool) (x y : Nat) : Bool := decide (joinF n f x y < 0) || decide (meetF n f x y < 0)
def gapR (n : Nat) (f : Nat → Nat → Bool) (x y : Nat) (b : Bool) : Prop :=
  (b = true ∧ x < y ∧ y < n ∧ gapB n f x y = true ∧ ∀ i j, i < j → j < n → (i < x ∨ (i = x ∧ j < y)) → gapB n f i j = false) ∨ (b = false ∧ x = 0 ∧ y = 0 ∧ ∀ i j, i < j → j < n → gapB n f i j = false)
theorem gapR_uniq {n x y u v : Nat} {f : Nat → Nat → Bool} {b c : Bool} (h : gapR n f x y b) (k : gapR n f u v c) : x = u ∧ y = v ∧ b = c := by
  rcases h with ⟨h1, h2, h3, h4, h5⟩ | ⟨h1, h2, h3, h4⟩ <;> rcases k with ⟨k1, k2, k3, k4, k5⟩ | ⟨k1, k2, k3, k4⟩
  · by_cases c1 : u < x ∨ (u = x ∧ v < y)
    · have := h5 u v k2 k3 c1; rw [k4] at this; cases this
    · by_cases c2 : x < u ∨ (x = u ∧ y < v)
      · have := k5 x y h2 h3 c2; rw [h4] at this; cases this
      · exact ⟨by omega, by omega, by rw [h1, k1]⟩
  · have := k4 x y h2 h3; rw [h4] at this; cases this
  · have := h4 u v k2 k3; rw [k4] at this; cases this
  · exact ⟨by omega, by omega, by rw [h1, k1]⟩
end Go.X
namespace Go.X
structure StrL (P : Program) (tx el : TypeId) (f0 f1 : Go.Field) : Prop where
  und : P.underlying tx = some (.struct #[f0, f1])
  t0 : f0.type = el
  t1 : f1.type = el
  o0 : f0.offset = 0
  o1 : f1.offset = 1
  size : ∀ w, (sizeOf el).run P w = .ok 1 w
section
variable {P : Program} {S : Heap → Prop} {kd : Oper → Kd} {ops : Array Oper} {rest : List Oper} {K : Env → Heap → Prop} {L : List (Nat × Value)} {b : Env} {h : Heap}
variable {d : Nat} {t tx ty el : TypeId} {p : String} {af : Array Edge} {g : Option (Nat × Bool)} {x y : Operand} {f0 f1 : Go.Field}
theorem bldL {u v : Value} (hA : StrL P tx el f0 f1) (hz : ∀ w, (zeroValue tx).run P w = .ok (.agg #[.slice none 0 0, .slice none 0 0]) w) (hu : u.cells = #[u]) (hv : v.cells = #[v]) (w : World) :
    (Instr.build tx #[(0, u), (1, v)]).run P w = .ok (.agg #[u, v]) w := by
  have hs := hA.size
  have hc : (Value.agg #[Value.slice none 0 0, Value.slice none 0 0]).cells = #[Value.slice none 0 0, Value.slice none 0 0] := rfl
  simp [Instr.build, hz, run_underlying hA.und, hA.t0, hA.t1, hA.o0, hA.o1, hs, Instr.fill, hu, hv, hc]
theorem bldL0 (hA : StrL P tx el f0 f1) (hz : ∀ w, (zeroValue tx).run P w = .ok (.agg #[.slice none 0 0, .slice none 0 0]) w) (w : World) :
    (Instr.build tx #[]).run P w = .ok (.agg #[.slice none 0 0, .slice none 0 0]) w := by
  have hs := hA.size
  have hc : (Value.agg #[Value.slice none 0 0, Value.slice none 0 0]).cells = #[Value.slice none 0 0, Value.slice none 0 0] := rfl
  simp [Instr.build, hz, run_underlying hA.und, Instr.fill, hA.t0, hA.t1, hs, hc]
theorem lx_fieldL {bn i : Nat} (hw : Region.wanted ⟨some d, .fieldAddr tx x i, t, p, af, g⟩ (yieldE ops (ups L b)) = true) (hA : StrL P tx el f0 f1) (hi : i = 0 ∨ i = 1) (hx : ev (ups L b) x = .pointer (some ⟨bn, 0, none⟩))
    (hn : Lx P S kd ops rest K (ups ((d, .pointer (some ⟨bn, i, none⟩)) :: L) b) h) : Lx P S kd ops (⟨some d, .fieldAddr tx x i, t, p, af, g⟩ :: rest) K (ups L b) h :=
  lx_free _ hw (fun w _ => by
    rcases hi with rfl | rfl
    · simp [execOp, hx, Instr.fieldAt, run_underlying hA.und, hA.o0, hA.t0, hA.size w, fieldPlace, Instr.sureAddr, add_lit]
    · simp [execOp, hx, Instr.fieldAt, run_underlying hA.und, hA.o1, hA.t1, hA.size w, fieldPlace, Instr.sureAddr, add_lit]) hn
theorem one2 {u v : Value} (hu : u.oneCell' = true) (hv : v.oneCell' = true) : ∀ x ∈ (#[u, v] : Array Value).toList, x.oneCell' = true := by
  intro x hx
  simp only [List.mem_cons, List.not_mem_nil, or_false] at hx
  rcases hx with rfl | rfl
  · exact hu
  · exact hv
end
end Go.X
