/-
  Texts in one: XList, XEulS, XLinS.
-/
import Derived.Test.YtdokijbdnajhgaaMCnt5
set_option linter.unusedSimpArgs false
set_option linter.unusedVariables false
namespace Go.X
/-- Sums by rows: from the elements before 'z', and from 'z' to those before 'b'. -/
def relP (r : Nat → Nat → Bool) (w : Nat → Int) (z b q : Nat) : Int := (sumI z fun a => if r a q then w a else 0) + if q < b then (if r z q then w z else 0) else 0
theorem relP_zero {r : Nat → Nat → Bool} {w : Nat → Int} {q : Nat} : relP r w 0 0 q = 0 := rfl
theorem relP_next {r : Nat → Nat → Bool} {w : Nat → Int} {z b q : Nat} (hq : q < b) : relP r w z b q = relP r w (z + 1) 0 q := by unfold relP; rw [if_pos hq, if_neg (show ¬ q < 0 by omega), sumI]; omega
theorem relP_all {r : Nat → Nat → Bool} {w : Nat → Int} {n q : Nat} : relP r w n 0 q = sumI n fun a => if r a q then w a else 0 := by unfold relP; rw [if_neg (show ¬ q < 0 by omega), Int.add_zero]
theorem relP_step {r : Nat → Nat → Bool} {w : Nat → Int} {z b q : Nat} : relP r w z (b + 1) q = relP r w z b q + if q = b then (if r z q then w z else 0) else 0 := by
  unfold relP
  by_cases e : q = b
  · rw [if_pos e, if_pos (show q < b + 1 by omega), if_neg (show ¬ q < b by omega)]; omega
  · rw [if_neg e]
    by_cases e2 : q < b
    · rw [if_pos e2, if_pos (show q < b + 1 by omega)]; omega
    · rw [if_neg e2, if_neg (show ¬ q < b + 1 by omega)]; omega
theorem relP_bound {r : Nat → Nat → Bool} {w : Nat → Int} {z b q : Nat} {B : Int} (hB : 0 ≤ B) (hz : z ≤ 11) (h : ∀ a, a ≤ z → -B ≤ w a ∧ w a ≤ B) : -(12 * B) ≤ relP r w z b q ∧ relP r w z b q ≤ 12 * B := by
  have h1 := sumI_bound hB (n := z) (g := fun a => if r a q then w a else 0) fun i hi => by
    have := h i (by omega)
    skip
    split
    · exact this
    · omega
  have h2 : ((z : Nat) : Int) * B ≤ 11 * B := Int.mul_le_mul_of_nonneg_right (by omega) hB
  have h3 := h z (Nat.le_refl _)
  unfold relP
  split
  · split <;> omega
  · omega
theorem relP_set {n : Nat} {r : Nat → Nat → Bool} {w : Nat → Int} {z b : Nat} (hb : b < n) (h : r z b = true) : (mapR n (relP r w z b)).set b (relP r w z b b + w z) = mapR n (relP r w z (b + 1)) := by
  rw [mapR_set hb]
  refine mapR_congr fun q _ => ?_
  rw [relP_step]
  by_cases e : q = b
  · subst e; rw [if_pos rfl, if_pos rfl, if_pos h]
  · rw [if_neg e, if_neg e]; omega
theorem relP_skip {n : Nat} {r : Nat → Nat → Bool} {w : Nat → Int} {z b : Nat} (h : r z b = false) : mapR n (relP r w z b) = mapR n (relP r w z (b + 1)) := mapR_congr fun q _ => by
  rw [relP_step]
  by_cases e : q = b
  · subst e; rw [if_pos rfl, h, if_neg (by simp), Int.add_zero]
  · rw [if_neg e, Int.add_zero]
theorem relP_start (n : Nat) (r : Nat → Nat → Bool) (w : Nat → Int) : List.replicate n (0 : Int) = mapR n (relP r w 0 0) := (rep_mapR _ _).trans (mapR_congr fun q _ => relP_zero.symm)
theorem relP_sums {n : Nat} {f : Nat → Nat → Bool} {xs : List Int} : mapR n (relP f (gt xs) n 0) = sumT n f xs := mapR_congr fun q _ => relP_all
/-- The numbers of chains, as far as they are at most 'y'. -/
def chW (n : Nat) (f : Nat → Nat → Bool) (x y k b : Nat) : Int := if k = 0 ∨ f b y = true then chN n f x k b else 0
def chR (f : Nat → Nat → Bool) (y a b : Nat) : Bool := blw f a b && f b y
theorem chW_zero {n : Nat} {f : Nat → Nat → Bool} {x y b : Nat} : chW n f x y 0 b = chN n f x 0 b := if_pos (.inl rfl)
theorem chW_end {n : Nat} {f : Nat → Nat → Bool} {x y k : Nat} (h : f y y = true) : chW n f x y k y = chN n f x k y := if_pos (.inr h)
theorem chW_next {n : Nat} {f : Nat → Nat → Bool} (ho : IsO n f) {x y k b : Nat} (hb : b < n) (hy : y < n) : relP (chR f y) (chW n f x y k) n 0 b = chW n f x y (k + 1) b := by
  rw [relP_all]
  unfold chR
  cases h : f b y
  · rw [show chW n f x y (k + 1) b = 0 from if_neg (by rw [h]; rintro (h1 | h1) <;> cases h1)]
    exact sumI_zero fun a _ => by rw [Bool.and_false]; rfl
  · rw [show chW n f x y (k + 1) b = chN n f x (k + 1) b from if_pos (.inr h), chN]
    refine sumI_congr fun a ha => ?_
    rw [Bool.and_true]
    cases h2 : blw f a b
    · rfl
    · rw [if_pos rfl, if_pos rfl]
      exact if_pos (.inr (ho.trans ha hb hy (blw_iff.1 h2).2 h))
theorem chW_bound {n : Nat} {f : Nat → Nat → Bool} {x y k b : Nat} (hn : n ≤ 12) (hk : k ≤ 12) : -8916100448256 ≤ chW n f x y k b ∧ chW n f x y k b ≤ 8916100448256 := by
  have h1 := chN_bound (f := f) (x := x) hn k b
  have h2 : 12 ^ k ≤ 12 ^ 12 := Nat.pow_le_pow_right (by omega) hk
  unfold chW
  split <;> omega
theorem chW_start {n : Nat} {f : Nat → Nat → Bool} {x y : Nat} (hx : x < n) : (List.replicate n (0 : Int)).set x 1 = mapR n (chW n f x y 0) := by
  rw [rep_mapR, mapR_set hx]
  exact mapR_congr fun j _ => by rw [chW_zero]; rfl
/-- Lists of elements, being made: none comes before one below it. -/
structure LstP (n : Nat) (f : Nat → Nat → Bool) (ds : List Bool) (xs : List Int) : Prop where
  len : xs.length = (List.range n).countP fun i => gt ds i
  dl : ds.length = n
  rng : ∀ i, i < xs.length → ∃ a : Nat, gt xs i = (a : Int) ∧ a < n ∧ gt ds a = true
  all : ∀ a : Nat, a < n → gt ds a = true → ∃ i, i < xs.length ∧ gt xs i = (a : Int)
  bel : ∀ i, i < xs.length → ∀ z, z < n → blw f z (gt xs i).toNat = true → ∃ j, j < i ∧ gt xs j = (z : Int)
  inj : ∀ i j, i < xs.length → j < xs.length → gt xs i = gt xs j → i = j
/-- What can come next. -/
def freeF (f : Nat → Nat → Bool) (ds : List Bool) (x k : Nat) : Bool := !gt ds x && (List.range k).all fun y => !blw f y x || gt ds y
theorem freeF_zero (f : Nat → Nat → Bool) (ds : List Bool) (x : Nat) : freeF f ds x 0 = !gt ds x := by unfold freeF; simp
theorem freeF_succ (f : Nat → Nat → Bool) (ds : List Bool) (x k : Nat) : freeF f ds x (k + 1) = (freeF f ds x k && (!blw f k x || gt ds k)) := by unfold freeF; rw [List.range_succ, List.all_append, Bool.and_assoc]; simp
theorem freeF_iff {f : Nat → Nat → Bool} {ds : List Bool} {x k : Nat} : freeF f ds x k = true ↔ gt ds x = false ∧ ∀ y, y < k → blw f y x = true → gt ds y = true := by
  unfold freeF
  rw [Bool.and_eq_true, Bool.not_eq_true', List.all_eq_true]
  refine and_congr_right fun _ => ⟨fun h y hy hb => ?_, fun h y hy => ?_⟩
  · have := h y (List.mem_range.2 hy)
    rw [hb] at this; simpa using this
  · have := h y (List.mem_range.1 hy)
    cases c : blw f y x
    · rfl
    · rw [this c]; rfl
section
variable {n : Nat} {f : Nat → Nat → Bool} {ds : List Bool} {xs : List Int}
theorem LstP.start (n : Nat) (f : Nat → Nat → Bool) : LstP n f (List.replicate n false) [] where
  len := by
    symm
    rw [List.length_nil, List.countP_eq_zero]
    intro i hi
    rw [gt_replicate (List.mem_range.1 hi)]; simp
  dl := List.length_replicate
  rng := fun i hi => absurd hi (by simp)
  all := fun a ha h => by rw [gt_replicate ha] at h; cases h
  bel := fun i hi => absurd hi (by simp)
  inj := fun i j hi => absurd hi (by simp)
theorem LstP.le (h : LstP n f ds xs) : xs.length ≤ n := by
  rw [h.len]
  have := List.countP_le_length (p := fun i => gt ds i) (l := List.range n)
  simpa using this
theorem countP_more {P Q : Nat → Bool} {x : Nat} (hx : P x = false) (hq : Q x = true) (h : ∀ i, i ≠ x → Q i = P i) : ∀ {N : Nat}, x < N → (List.range N).countP Q = (List.range N).countP P + 1
  | 0, h0 => by omega
  | N + 1, h0 => by
    rw [List.range_succ, List.countP_append, List.countP_append]
    by_cases e : x = N
    · subst e
      have : (List.range x).countP P = (List.range x).countP Q := List.countP_congr fun i hi => by rw [h i (by have := List.mem_range.1 hi; omega)]
      rw [this]
      simp [hx, hq]
    · rw [countP_more hx hq h (show x < N by omega)]
      have : List.countP Q [N] = List.countP P [N] := List.countP_congr fun i hi => by rw [List.mem_singleton] at hi; subst hi; rw [h _ (Ne.symm e)]
      omega
theorem LstP.step (h : LstP n f ds xs) {x : Nat} (hx : x < n) (hf : freeF f ds x n = true) : LstP n f (ds.set x true) (xs ++ [(x : Int)]) := by
  obtain ⟨h0, hb⟩ := freeF_iff.1 hf
  have hxl : x < ds.length := by rw [h.dl]; exact hx
  have hgs : ∀ i, gt (ds.set x true) i = if i = x then true else gt ds i := fun i => gt_set hxl
  have hlast : gt (xs ++ [(x : Int)]) xs.length = (x : Int) := gt_append_right
  have hlow : ∀ i, i < xs.length → gt (xs ++ [(x : Int)]) i = gt xs i := fun i hi => gt_append_left hi
  have hlen : (xs ++ [(x : Int)]).length = xs.length + 1 := by simp
  refine ⟨?_, by rw [List.length_set]; exact h.dl, fun i hi => ?_, fun a ha hd => ?_, fun i hi z hz hzb => ?_, fun i j hi hj e => ?_⟩
  · rw [hlen, h.len, countP_more (P := fun i => gt ds i) (Q := fun i => gt (ds.set x true) i) (x := x) h0 (by show gt _ _ = _; rw [hgs, if_pos rfl]) (fun i hi => by show gt _ _ = _; rw [hgs, if_neg hi]) hx]
  · rw [hlen] at hi
    by_cases e : i < xs.length
    · obtain ⟨a, h1, h2, h3⟩ := h.rng i e
      refine ⟨a, by rw [hlow i e]; exact h1, h2, ?_⟩
      rw [hgs, h3]; split <;> rfl
    · rw [show i = xs.length by omega]
      exact ⟨x, hlast, hx, by rw [hgs, if_pos rfl]⟩
  · rw [hgs] at hd
    by_cases e : a = x
    · subst e; exact ⟨xs.length, by rw [hlen]; omega, hlast⟩
    · rw [if_neg e] at hd
      obtain ⟨i, h1, h2⟩ := h.all a ha hd
      exact ⟨i, by rw [hlen]; omega, by rw [hlow i h1]; exact h2⟩
  · rw [hlen] at hi
    by_cases e : i < xs.length
    · rw [hlow i e] at hzb
      obtain ⟨j, h1, h2⟩ := h.bel i e z hz hzb
      exact ⟨j, h1, by rw [hlow j (by omega)]; exact h2⟩
    · rw [show i = xs.length by omega] at hzb ⊢
      rw [hlast, Int.toNat_natCast] at hzb
      obtain ⟨j, h1, h2⟩ := h.all z hz (hb z hz hzb)
      exact ⟨j, h1, by rw [hlow j h1]; exact h2⟩
  · rw [hlen] at hi hj
    have hne : ∀ i, i < xs.length → gt xs i ≠ (x : Int) := fun i hi e => by
      obtain ⟨a, h1, h2, h3⟩ := h.rng i hi
      rw [show a = x by omega, h0] at h3; cases h3
    by_cases ei : i < xs.length
    · by_cases ej : j < xs.length
      · rw [hlow i ei, hlow j ej] at e; exact h.inj i j ei ej e
      · rw [hlow i ei, show j = xs.length by omega, hlast] at e; exact absurd e (hne i ei)
    · by_cases ej : j < xs.length
      · rw [hlow j ej, show i = xs.length by omega, hlast] at e; exact absurd e.symm (hne j ej)
      · omega
theorem LstP.done (h : LstP n f ds xs) (hl : xs.length = n) : LinL n f xs := by
  have hall : ∀ a, a < n → gt ds a = true := fun a ha => by
    have h1 := h.len
    rw [hl] at h1
    have h2 : (List.range n).countP (fun i => gt ds i) = (List.range n).length := by rw [← h1, List.length_range]
    rw [List.countP_eq_length] at h2
    exact h2 a (List.mem_range.2 ha)
  refine ⟨hl, fun i hi => ?_, fun a ha => ?_, fun i j hi hj hf hne => ?_, fun i j hi hj e => h.inj i j (by omega) (by omega) e⟩
  · obtain ⟨a, h1, h2, _⟩ := h.rng i (by omega); exact ⟨a, h1, h2⟩
  · obtain ⟨i, h1, h2⟩ := h.all a ha (hall a ha); exact ⟨i, by omega, h2⟩
  · obtain ⟨a, h1, h2, _⟩ := h.rng i (by omega)
    rw [h1, Int.toNat_natCast] at hf
    have hb : blw f a (gt xs j).toNat = true := blw_iff.2 ⟨fun e => ?_, hf⟩
    · obtain ⟨k, h3, h4⟩ := h.bel j (by omega) a h2 hb
      have := h.inj i k (by omega) (by omega) (by rw [h1, h4])
      omega
    · obtain ⟨b, h5, _, _⟩ := h.rng j (by omega)
      rw [h5, Int.toNat_natCast] at e
      exact hne (h.inj i j (by omega) (by omega) (by rw [h1, h5, e]))
theorem LstP.more (ho : IsO n f) (h : LstP n f ds xs) (hl : xs.length < n) : ∃ x, x < n ∧ freeF f ds x n = true := by
  have hex : ∃ a, a < n ∧ gt ds a = false := by
    refine Classical.byContradiction fun hn => ?_
    have h1 : (List.range n).countP (fun i => gt ds i) = (List.range n).length := List.countP_eq_length.2 fun a ha => by
      cases c : gt ds a
      · exact absurd ⟨a, List.mem_range.1 ha, c⟩ hn
      · rfl
    rw [← h.len, List.length_range] at h1
    omega
  obtain ⟨a, ha, hd⟩ := hex
  have hmin : ∀ (c : Nat) {a : Nat}, a < n → gt ds a = false → cntD n f a ≤ c → ∃ x, x < n ∧ freeF f ds x n = true := by
    intro c
    induction c with
    | zero => intro a ha _ hc; exact absurd (cntD_pos ho ha) (by omega)
    | succ c ih =>
      intro a ha hd hc
      by_cases e : freeF f ds a n = true
      · exact ⟨a, ha, e⟩
      · have h2 : ∃ y, y < n ∧ blw f y a = true ∧ gt ds y = false := by
          refine Classical.byContradiction fun hn => e (freeF_iff.2 ⟨hd, fun y hy hb => ?_⟩)
          cases c2 : gt ds y
          · exact absurd ⟨y, hy, hb, c2⟩ hn
          · rfl
        obtain ⟨y, hy, hb, hyd⟩ := h2
        have := cntD_lt ho hy ha (blw_iff.1 hb).2 (blw_iff.1 hb).1
        exact ih hy hyd (by omega)
  exact hmin _ ha hd (Nat.le_refl _)
end
/-- A row, of which the first 'k' of a list have come. -/
def drow (n : Nat) (F : Nat → Int) (xs : List Int) (k : Nat) : List Int := mapR n fun y => if dnK xs k y then F y else 0
theorem drow_len (n : Nat) (F : Nat → Int) (xs : List Int) (k : Nat) : (drow n F xs k).length = n := mapR_len n _
theorem drow_zero (n : Nat) (F : Nat → Int) (xs : List Int) : List.replicate n (0 : Int) = drow n F xs 0 := by
  rw [rep_mapR]
  exact mapR_congr fun j _ => by rw [dnK_zero]; rfl
theorem drow_end {n : Nat} {f : Nat → Nat → Bool} {F : Nat → Int} {xs : List Int} (hL : LinL n f xs) : drow n F xs n = mapR n F := mapR_congr fun j hj => by rw [dnK_all hL hj]; rfl
theorem drow_set {n k b : Nat} {F : Nat → Int} {xs : List Int} (hb : gt xs k = (b : Int)) (hbn : b < n) : (drow n F xs k).set b (F b) = drow n F xs (k + 1) := by
  unfold drow
  rw [mapR_set hbn]
  refine mapR_congr fun j _ => ?_
  rw [dnK_succ hb]
  by_cases e : j = b
  · subst e; rw [if_pos rfl, decide_eq_true rfl, Bool.or_true]; rfl
  · rw [if_neg e, decide_eq_false e, Bool.or_false]
theorem drow_skip {n k b : Nat} {F : Nat → Int} {xs : List Int} (hb : gt xs k = (b : Int)) (h : F b = 0) : drow n F xs k = drow n F xs (k + 1) := mapR_congr fun j _ => by
  rw [dnK_succ hb]
  by_cases e : j = b
  · subst e; rw [h]; split <;> split <;> rfl
  · rw [decide_eq_false e, Bool.or_false]
theorem drow_not {n k b : Nat} {f : Nat → Nat → Bool} {F : Nat → Int} {xs : List Int} (hL : LinL n f xs) (hk : k < n) (hb : gt xs k = (b : Int)) (hbn : b < n) : gt (drow n F xs k) b = 0 := by
  unfold drow
  rw [gt_mapR hbn, dnK_not hL hk hb]; rfl
theorem drow_below {n k b z : Nat} {f : Nat → Nat → Bool} {F : Nat → Int} {xs : List Int} (hL : LinL n f xs) (hk : k < n) (hb : gt xs k = (b : Int)) (hz : z < n) (h : blw f z b = true) : gt (drow n F xs k) z = F z := by
  obtain ⟨h1, h2⟩ := blw_iff.1 h
  unfold drow
  rw [gt_mapR hz, dnK_below hL hk hb hz h2 h1]; rfl
theorem drow_bound {n k z : Nat} {F : Nat → Int} {xs : List Int} {B : Int} (hB : 0 ≤ B) (hz : z < n) (h : ∀ z, z < n → -B ≤ F z ∧ F z ≤ B) : -B ≤ gt (drow n F xs k) z ∧ gt (drow n F xs k) z ≤ B := by
  unfold drow
  rw [gt_mapR hz]
  have := h z hz
  split
  · exact this
  · omega
/-- What is left of 'a' by what a row says of the elements before 'j'. -/
def rpart (r : Nat → Bool) (row : List Int) (a : Int) (j : Nat) : Int := a - sumI j fun x => if r x then gt row x else 0
theorem rpart_zero (r : Nat → Bool) (row : List Int) (a : Int) : rpart r row a 0 = a := by unfold rpart sumI; omega
theorem rpart_yes {r : Nat → Bool} {row : List Int} {a : Int} {j : Nat} (h : r j = true) : rpart r row a (j + 1) = rpart r row a j - gt row j := by unfold rpart; rw [sumI, if_pos h]; omega
theorem rpart_no {r : Nat → Bool} {row : List Int} {a : Int} {j : Nat} (h : r j = false) : rpart r row a (j + 1) = rpart r row a j := by unfold rpart; rw [sumI, if_neg (by rw [h]; simp)]; omega
theorem rpart_bound {r : Nat → Bool} {row : List Int} {a B : Int} {j : Nat} (hB : 0 ≤ B) (hj : j ≤ 12) (h : ∀ z, z < j → -B ≤ gt row z ∧ gt row z ≤ B) : a - 12 * B ≤ rpart r row a j ∧ rpart r row a j ≤ a + 12 * B := by
  have h1 := sumI_bound hB (n := j) (g := fun x => if r x then gt row x else 0) fun i hi => by
    have := h i hi
    skip
    split
    · exact this
    · omega
  have h2 : ((j : Nat) : Int) * B ≤ 12 * B := Int.mul_le_mul_of_nonneg_right (by omega) hB
  unfold rpart
  omega
theorem rpart_bound9 {r : Nat → Bool} {row : List Int} {a B : Int} {j : Nat} (hB : 0 ≤ B) (hj : j ≤ 9) (h : ∀ z, z < j → -B ≤ gt row z ∧ gt row z ≤ B) : a - 9 * B ≤ rpart r row a j ∧ rpart r row a j ≤ a + 9 * B := by
  have h1 := sumI_bound hB (n := j) (g := fun x => if r x then gt row x else 0) fun i hi => by
    have := h i hi
    skip
    split
    · exact this
    · omega
  have h2 : ((j : Nat) : Int) * B ≤ 9 * B := Int.mul_le_mul_of_nonneg_right (by omega) hB
  unfold rpart
  omega
/-- What Moebius' numbers leave. -/
def muR (f : Nat → Nat → Bool) (x b z : Nat) : Bool := f x z && blw f z b
theorem rpart_mu {n x k b : Nat} {f : Nat → Nat → Bool} {xs : List Int} (ho : IsO n f) (hL : LinL n f xs) (hx : x < n) (hk : k < n) (hb : gt xs k = (b : Int)) (hbn : b < n) (hne : x ≠ b) (hf : f x b = true) : rpart (muR f x b) (drow n (muF n f x) xs k) 0 n = muF n f x b := by
  rw [muF_in ho hx hbn hne hf]
  unfold rpart
  rw [Int.zero_sub]
  congr 1
  refine sumI_congr fun z hz => ?_
  have e : muR f x b z = btw f x b z := by
    unfold muR blw btw
    cases f x z <;> cases f z b <;> simp
  rw [← e]
  cases h : muR f x b z
  · rfl
  · rw [if_pos rfl, if_pos rfl]
    unfold muR at h
    rw [Bool.and_eq_true] at h
    exact drow_below hL hk hb hz h.2
theorem rpart_df {n k b : Nat} {f : Nat → Nat → Bool} {a : Nat → Int} {xs : List Int} (ho : IsO n f) (hL : LinL n f xs) (hk : k < n) (hb : gt xs k = (b : Int)) (hbn : b < n) : rpart (fun x => blw f x b) (drow n (fun y => dfP n f a y n) xs k) (a b) n = dfP n f a b n := by
  rw [dfP_rec ho a hbn]
  unfold rpart
  congr 1
  refine sumI_congr fun z hz => ?_
  show (if blw f z b = true then _ else _) = _
  cases h : blw f z b
  · rfl
  · rw [if_pos rfl, if_pos rfl]
    exact drow_below hL hk hb hz h
/-- Differences of at most nine numbers stay small. -/
theorem dfP_small {n : Nat} {f : Nat → Nat → Bool} (ho : IsO n f) (hn : n ≤ 9) {a : Nat → Int} (h : ∀ x, x < n → -1000000000 ≤ a x ∧ a x ≤ 1000000000) : ∀ (c : Nat) {y : Nat}, y < n → cntD n f y ≤ c → -(1000000000 * ((10 ^ c : Nat) : Int)) ≤ dfP n f a y n ∧ dfP n f a y n ≤ 1000000000 * ((10 ^ c : Nat) : Int)
  | 0, y, hy, hc => absurd (cntD_pos ho hy) (by omega)
  | c + 1, y, hy, hc => by
    have hp : 0 < 10 ^ c := Nat.pow_pos (by omega)
    have h1 := sumI_bound (B := 1000000000 * ((10 ^ c : Nat) : Int)) (by omega) (n := n) (g := fun x => if blw f x y then dfP n f a x n else 0) fun i hi => by
      cases hb : blw f i y
      · rw [if_neg (by simp)]; omega
      · have := cntD_lt ho hi hy (blw_iff.1 hb).2 (blw_iff.1 hb).1
        rw [if_pos rfl]
        exact dfP_small ho hn h c hi (by omega)
    have h2 : ((n : Nat) : Int) * (1000000000 * ((10 ^ c : Nat) : Int)) ≤ 9 * (1000000000 * ((10 ^ c : Nat) : Int)) := Int.mul_le_mul_of_nonneg_right (by omega) (by omega)
    have h3 := h y hy
    have h4 : ((10 ^ (c + 1) : Nat) : Int) = ((10 ^ c : Nat) : Int) * 10 := by rw [Nat.pow_succ]; push_cast; rfl
    rw [dfP_rec ho a hy, h4]
    omega
theorem dfP_nine {n : Nat} {f : Nat → Nat → Bool} (ho : IsO n f) (hn : n ≤ 9) {a : Nat → Int} (h : ∀ x, x < n → -1000000000 ≤ a x ∧ a x ≤ 1000000000) {y : Nat} (hy : y < n) : -1000000000000000000 ≤ dfP n f a y n ∧ dfP n f a y n ≤ 1000000000000000000 := by
  have h1 := cntD_le n f y
  have h2 := dfP_small ho hn h 9 hy (by omega)
  have h3 : (10 : Nat) ^ 9 = 1000000000 := by decide
  omega
end Go.X
namespace Go.X
/-- How many of the elements before 'k' are in a set. -/
def cntK (s k : Nat) : Nat := (List.range k).countP fun i => s.testBit i
theorem cntK_yes {s k : Nat} (h : s.testBit k = true) : cntK s (k + 1) = cntK s k + 1 := by unfold cntK; rw [List.range_succ, List.countP_append]; simp [h]
theorem cntK_no {s k : Nat} (h : s.testBit k = false) : cntK s (k + 1) = cntK s k := by unfold cntK; rw [List.range_succ, List.countP_append]; simp [h]
theorem cntK_le (s k : Nat) : cntK s k ≤ k := by
  unfold cntK
  have := List.countP_le_length (p := fun i => s.testBit i) (l := List.range k)
  simpa using this
theorem cntK_none (k : Nat) : cntK 0 k = 0 := by
  unfold cntK
  rw [List.countP_eq_zero]
  intro i _; simp
/-- Whether an element is comparable with those of a set before 'j'. -/
def cmpK (f : Nat → Nat → Bool) (s x j : Nat) : Bool := (List.range j).all fun y => !s.testBit y || f x y || f y x
theorem cmpK_succ (f : Nat → Nat → Bool) (s x j : Nat) : cmpK f s x (j + 1) = (cmpK f s x j && (!s.testBit j || f x j || f j x)) := rall_succ _ _
/-- Whether the elements of a set before 'k' are a chain. -/
def chnK (f : Nat → Nat → Bool) (s k : Nat) : Bool := (List.range k).all fun x => !s.testBit x || cmpK f s x x
theorem chnK_yes {f : Nat → Nat → Bool} {s k : Nat} (h : s.testBit k = true) : chnK f s (k + 1) = (chnK f s k && cmpK f s k k) := by unfold chnK; rw [rall_succ, h]; rfl
theorem chnK_no {f : Nat → Nat → Bool} {s k : Nat} (h : s.testBit k = false) : chnK f s (k + 1) = chnK f s k := by unfold chnK; rw [rall_succ, h]; simp
/-- What a set counts for. -/
def eulW (n : Nat) (f : Nat → Nat → Bool) (s : Nat) : Int := if chnK f s n then (if cntK s n % 2 = 1 then 1 else -1) else 0
/-- What the sets before 't' count for, but for the empty one. -/
def eulS (n : Nat) (f : Nat → Nat → Bool) (t : Nat) : Int := sumI t fun s => if s = 0 then 0 else eulW n f s
theorem eulS_one (n : Nat) (f : Nat → Nat → Bool) : eulS n f 1 = 0 := rfl
theorem eulS_succ {n t : Nat} {f : Nat → Nat → Bool} (h : 1 ≤ t) : eulS n f (t + 1) = eulS n f t + eulW n f t := by unfold eulS; rw [sumI, if_neg (by omega)]
theorem eulW_bound (n s : Nat) (f : Nat → Nat → Bool) : -1 ≤ eulW n f s ∧ eulW n f s ≤ 1 := by
  unfold eulW
  split
  · split <;> omega
  · omega
theorem eulS_bound {n t : Nat} {f : Nat → Nat → Bool} : -(t : Int) ≤ eulS n f t ∧ eulS n f t ≤ t := by
  have h := sumI_bound (B := 1) (by decide) (n := t) (g := fun s => if s = 0 then 0 else eulW n f s) fun i _ => by
    have := eulW_bound n i f
    skip
    split
    · omega
    · exact this
  unfold eulS
  omega
/-- Sets with an element, and the same ones without it. -/
theorem sum_pair {y : Nat} : ∀ {n : Nat}, y < n → ∀ (g : Nat → Int), (sumI (2 ^ n) fun s => if s.testBit y then g (andNot s (2 ^ y)) else 0) = sumI (2 ^ n) fun s => if s.testBit y then 0 else g s
  | 0, h, _ => by omega
  | n + 1, h, g => by
    rw [Nat.pow_succ, Nat.mul_two, sumI_split, sumI_split]
    by_cases e : y = n
    · subst e
      have a1 : (sumI (2 ^ y) fun s => if s.testBit y then g (andNot s (2 ^ y)) else 0) = 0 := sumI_zero fun s hs => by rw [Nat.testBit_lt_two_pow hs]; rfl
      have a2 : (sumI (2 ^ y) fun s => if (2 ^ y + s).testBit y then g (andNot (2 ^ y + s) (2 ^ y)) else 0) = sumI (2 ^ y) g := sumI_congr fun s hs => by
        have hb : (2 ^ y + s).testBit y = true := by rw [Nat.testBit_two_pow_add_eq, Nat.testBit_lt_two_pow hs]; rfl
        rw [if_pos hb]
        congr 1
        refine Nat.eq_of_testBit_eq fun i => ?_
        rw [bit_off]
        by_cases ei : y = i
        · subst ei; rw [decide_eq_true rfl, Nat.testBit_lt_two_pow hs]; simp
        · rw [decide_eq_false ei]
          rcases Nat.lt_or_gt_of_ne ei with h1 | h1
          · rw [Nat.testBit_lt_two_pow (show s < 2 ^ i from Nat.lt_of_lt_of_le hs (Nat.pow_le_pow_right (by omega) (by omega))), Nat.testBit_lt_two_pow (show 2 ^ y + s < 2 ^ i from Nat.lt_of_lt_of_le (show 2 ^ y + s < 2 ^ (y + 1) by rw [Nat.pow_succ]; omega) (Nat.pow_le_pow_right (by omega) (by omega)))]; rfl
          · rw [Nat.testBit_two_pow_add_gt h1 s]; simp
      have b1 : (sumI (2 ^ y) fun s => if s.testBit y then 0 else g s) = sumI (2 ^ y) g := sumI_congr fun s hs => by rw [Nat.testBit_lt_two_pow hs]; rfl
      have b2 : (sumI (2 ^ y) fun s => if (2 ^ y + s).testBit y then 0 else g (2 ^ y + s)) = 0 := sumI_zero fun s hs => by
        rw [Nat.testBit_two_pow_add_eq, Nat.testBit_lt_two_pow hs]; rfl
      rw [a1, a2, b1, b2]; omega
    · have hy : y < n := by omega
      have hc : ∀ s, (2 ^ n + s).testBit y = s.testBit y := fun s => Nat.testBit_two_pow_add_gt hy s
      have a2 : (sumI (2 ^ n) fun s => if (2 ^ n + s).testBit y then g (andNot (2 ^ n + s) (2 ^ y)) else 0) = sumI (2 ^ n) fun s => if s.testBit y then (fun q => g (2 ^ n + q)) (andNot s (2 ^ y)) else 0 := sumI_congr fun s hs => by
        rw [hc]
        cases hb : s.testBit y
        · rfl
        · rw [if_pos rfl, if_pos rfl]
          show g _ = g _
          congr 1
          have hlt : andNot s (2 ^ y) < 2 ^ n := Nat.lt_of_le_of_lt (andNot_le _ _) hs
          refine Nat.eq_of_testBit_eq fun i => ?_
          rw [bit_off]
          rcases Nat.lt_trichotomy i n with h1 | h1 | h1
          · rw [Nat.testBit_two_pow_add_gt h1, Nat.testBit_two_pow_add_gt h1, bit_off]
          · subst h1
            rw [Nat.testBit_two_pow_add_eq, Nat.testBit_two_pow_add_eq, Nat.testBit_lt_two_pow hs, Nat.testBit_lt_two_pow hlt, decide_eq_false e]; rfl
          · have hp : 2 ^ (n + 1) ≤ 2 ^ i := Nat.pow_le_pow_right (by omega) (by omega)
            rw [Nat.pow_succ] at hp
            rw [Nat.testBit_lt_two_pow (show 2 ^ n + s < 2 ^ i by omega), Nat.testBit_lt_two_pow (show 2 ^ n + andNot s (2 ^ y) < 2 ^ i by omega)]; rfl
      have b2 : (sumI (2 ^ n) fun s => if (2 ^ n + s).testBit y then 0 else g (2 ^ n + s)) = sumI (2 ^ n) fun s => if s.testBit y then 0 else (fun q => g (2 ^ n + q)) s := sumI_congr fun s _ => by rw [hc]
      rw [a2, b2, sum_pair hy g, sum_pair hy fun q => g (2 ^ n + q)]
section
variable {n : Nat} {f : Nat → Nat → Bool} (ho : IsO n f)
include ho
theorem chnK_iff {s : Nat} : chnK f s n = true ↔ ∀ x y, x < n → y < n → s.testBit x = true → s.testBit y = true → f x y = true ∨ f y x = true := by
  unfold chnK
  rw [rall_iff]
  constructor
  · intro h
    have hlt : ∀ x y, x < n → y < x → s.testBit x = true → s.testBit y = true → f x y = true ∨ f y x = true := fun x y hx hy hsx hsy => by
      have h1 := h x hx
      rw [hsx, Bool.not_true, Bool.false_or, cmpK, rall_iff] at h1
      have h2 := h1 y hy
      rw [hsy] at h2
      simpa using h2
    intro x y hx hy hsx hsy
    rcases Nat.lt_trichotomy x y with h1 | h1 | h1
    · exact (hlt y x hy h1 hsy hsx).symm
    · subst h1; exact .inl (ho.refl hx)
    · exact hlt x y hx h1 hsx hsy
  · intro h x hx
    cases hsx : s.testBit x
    · rfl
    · rw [Bool.not_true, Bool.false_or, cmpK, rall_iff]
      intro y hy
      cases hsy : s.testBit y
      · rfl
      · have := h x y hx (by omega) hsx hsy
        simpa using this
omit ho in
/-- Whether 'y' is the greatest of a set; whether all of a set is below 'y'. -/
def topB (n : Nat) (f : Nat → Nat → Bool) (s y : Nat) : Bool := s.testBit y && (List.range n).all fun x => !s.testBit x || f x y
omit ho in
def belB (n : Nat) (f : Nat → Nat → Bool) (s y : Nat) : Bool := (List.range n).all fun x => !s.testBit x || blw f x y
omit ho in
theorem topB_iff {s y : Nat} : topB n f s y = true ↔ s.testBit y = true ∧ ∀ x, x < n → s.testBit x = true → f x y = true := by
  unfold topB
  rw [Bool.and_eq_true, rall_iff]
  refine and_congr_right fun _ => ⟨fun h x hx hs => ?_, fun h x hx => ?_⟩
  · have := h x hx; rw [hs] at this; simpa using this
  · cases hs : s.testBit x
    · rfl
    · rw [h x hx hs]; rfl
omit ho in
theorem belB_iff {s y : Nat} : belB n f s y = true ↔ ∀ x, x < n → s.testBit x = true → blw f x y = true := by
  unfold belB
  rw [rall_iff]
  refine ⟨fun h x hx hs => ?_, fun h x hx => ?_⟩
  · have := h x hx; rw [hs] at this; simpa using this
  · cases hs : s.testBit x
    · rfl
    · rw [h x hx hs]; rfl
theorem topB_uniq {s x y : Nat} (hx : x < n) (hy : y < n) (h1 : topB n f s x = true) (h2 : topB n f s y = true) : x = y := by
  obtain ⟨a1, a2⟩ := topB_iff.1 h1
  obtain ⟨b1, b2⟩ := topB_iff.1 h2
  exact ho.anti hx hy (b2 x hx a1) (a2 y hy b1)
theorem topB_ex {s : Nat} (hs : s < 2 ^ n) (h0 : s ≠ 0) (hc : chnK f s n = true) : ∃ y, y < n ∧ topB n f s y = true := by
  have hc2 := (chnK_iff ho).1 hc
  have h1 : ∀ k, k ≤ n → (∃ x, x < k ∧ s.testBit x = true) → ∃ y, y < k ∧ s.testBit y = true ∧ ∀ x, x < k → s.testBit x = true → f x y = true := by
    intro k
    induction k with
    | zero => rintro _ ⟨x, hx, _⟩; omega
    | succ k ih =>
      rintro hk ⟨x, hx, hb⟩
      by_cases e : ∃ x, x < k ∧ s.testBit x = true
      · obtain ⟨y, h2, h3, h4⟩ := ih (by omega) e
        cases hbk : s.testBit k
        · refine ⟨y, by omega, h3, fun z hz hzb => ?_⟩
          by_cases e2 : z = k
          · subst e2; rw [hbk] at hzb; cases hzb
          · exact h4 z (by omega) hzb
        · rcases hc2 k y (by omega) (by omega) hbk h3 with h5 | h5
          · refine ⟨y, by omega, h3, fun z hz hzb => ?_⟩
            by_cases e2 : z = k
            · subst e2; exact h5
            · exact h4 z (by omega) hzb
          · refine ⟨k, by omega, hbk, fun z hz hzb => ?_⟩
            by_cases e2 : z = k
            · subst e2; exact ho.refl (by omega)
            · exact ho.trans (show z < n by omega) (show y < n by omega) (by omega) (h4 z (by omega) hzb) h5
      · have hxk : x = k := Classical.byContradiction fun hne => e ⟨x, by omega, hb⟩
        subst hxk
        refine ⟨x, by omega, hb, fun z hz hzb => ?_⟩
        by_cases e2 : z = x
        · subst e2; exact ho.refl (by omega)
        · exact absurd ⟨z, by omega, hzb⟩ e
  have h2 : ∃ x, x < n ∧ s.testBit x = true := by
    refine Classical.byContradiction fun hn => h0 (Nat.eq_of_testBit_eq fun i => ?_)
    rw [Nat.zero_testBit]
    cases hb : s.testBit i
    · rfl
    · exact absurd ⟨i, bit_lt hs hb, hb⟩ hn
  obtain ⟨y, h3, h4, h5⟩ := h1 n (Nat.le_refl _) h2
  exact ⟨y, h3, topB_iff.2 ⟨h4, h5⟩⟩
omit ho in
/-- What the chains with the greatest element 'y' count for. -/
def eulE (n : Nat) (f : Nat → Nat → Bool) (y : Nat) : Int := sumI (2 ^ n) fun s => if topB n f s y then eulW n f s else 0
omit ho in
theorem topB_none {y : Nat} : topB n f 0 y = false := by unfold topB; rw [Nat.zero_testBit]; rfl
/-- Of the sets with their greatest elements. -/
theorem top_sum {s : Nat} (hs : s < 2 ^ n) (h : Nat → Bool) : (sumI n fun y => if h y then (if topB n f s y then eulW n f s else 0) else 0) = if s ≠ 0 ∧ ∃ y, y < n ∧ topB n f s y = true ∧ h y = true then eulW n f s else 0 := by
  by_cases e : ∃ y, y < n ∧ topB n f s y = true ∧ h y = true
  · obtain ⟨y, h1, h2, h3⟩ := e
    have h0 : s ≠ 0 := fun e => by subst e; rw [topB_none] at h2; cases h2
    rw [if_pos ⟨h0, y, h1, h2, h3⟩, sumI_one (k := y) h1 fun i hi hne => ?_, if_pos h3, if_pos h2]
    cases ht : topB n f s i
    · split <;> rfl
    · exact absurd (topB_uniq ho hi h1 ht h2) hne
  · rw [if_neg (fun h9 => e h9.2)]
    refine sumI_zero fun i hi => ?_
    cases ht : topB n f s i
    · split <;> rfl
    · cases hh : h i
      · rfl
      · exact absurd ⟨i, hi, ht, hh⟩ e
theorem eulS_top : eulS n f (2 ^ n) = sumI n (eulE n f) := by
  unfold eulS
  rw [show sumI n (eulE n f) = sumI n fun y => sumI (2 ^ n) fun s => if true = true then (if topB n f s y then eulW n f s else 0) else 0 from sumI_congr fun y _ => sumI_congr fun s _ => (if_pos rfl).symm, sumI_swap]
  refine sumI_congr fun s hs => ?_
  rw [top_sum ho hs fun _ => true]
  by_cases e : s = 0
  · rw [if_pos e, if_neg (fun h => h.1 e)]
  · rw [if_neg e]
    cases hc : chnK f s n
    · rw [show eulW n f s = 0 from if_neg (by rw [hc]; simp)]; split <;> rfl
    · obtain ⟨y, h1, h2⟩ := topB_ex ho hs e hc
      rw [if_pos ⟨e, y, h1, h2, rfl⟩]
/-- A chain with its greatest element, and without it. -/
theorem eulW_off {s y : Nat} (hy : y < n) (hb : s.testBit y = true) : (if topB n f s y then eulW n f s else 0) = if belB n f (andNot s (2 ^ y)) y then -eulW n f (andNot s (2 ^ y)) else 0 := by
  have hin : ∀ x, (andNot s (2 ^ y)).testBit x = true ↔ s.testBit x = true ∧ y ≠ x := fun x => by rw [bit_off, Bool.and_eq_true, Bool.not_eq_true', decide_eq_false_iff_not]
  have e : topB n f s y = belB n f (andNot s (2 ^ y)) y := by
    rw [Bool.eq_iff_iff, topB_iff, belB_iff]
    constructor
    · rintro ⟨_, h⟩ x hx hx2
      obtain ⟨h1, h2⟩ := (hin x).1 hx2
      exact blw_iff.2 ⟨Ne.symm h2, h x hx h1⟩
    · intro h
      refine ⟨hb, fun x hx hx2 => ?_⟩
      by_cases e : y = x
      · subst e; exact ho.refl hx
      · exact (blw_iff.1 (h x hx ((hin x).2 ⟨hx2, e⟩))).2
  rw [e]
  cases ht : belB n f (andNot s (2 ^ y)) y
  · rfl
  · rw [if_pos rfl, if_pos rfl]
    have ht2 := belB_iff.1 ht
    have hcc : chnK f s n = chnK f (andNot s (2 ^ y)) n := by
      rw [Bool.eq_iff_iff, chnK_iff ho, chnK_iff ho]
      constructor
      · intro h a b ha hb2 h1 h2
        exact h a b ha hb2 ((hin a).1 h1).1 ((hin b).1 h2).1
      · intro h a b ha hb2 h1 h2
        by_cases ea : y = a
        · subst ea
          by_cases eb : y = b
          · subst eb; exact .inl (ho.refl hy)
          · exact .inr (blw_iff.1 (ht2 b hb2 ((hin b).2 ⟨h2, eb⟩))).2
        · by_cases eb : y = b
          · subst eb; exact .inl (blw_iff.1 (ht2 a ha ((hin a).2 ⟨h1, ea⟩))).2
          · exact h a b ha hb2 ((hin a).2 ⟨h1, ea⟩) ((hin b).2 ⟨h2, eb⟩)
    have hcn : cntK s n = cntK (andNot s (2 ^ y)) n + 1 := countP_drop (P := fun i => s.testBit i) (Q := fun i => (andNot s (2 ^ y)).testBit i) (x := y) hb (by rw [bit_off]; simp) (fun i hi => by show s.testBit i = _; rw [bit_off]; simp [Ne.symm hi]) hy
    unfold eulW
    rw [hcc]
    cases chnK f (andNot s (2 ^ y)) n
    · rfl
    · rw [if_pos rfl, if_pos rfl, hcn]
      rcases Nat.mod_two_eq_zero_or_one (cntK (andNot s (2 ^ y)) n) with h | h
      · rw [if_pos (show (cntK (andNot s (2 ^ y)) n + 1) % 2 = 1 by omega), if_neg (by omega)]; rfl
      · rw [if_neg (show ¬ (cntK (andNot s (2 ^ y)) n + 1) % 2 = 1 by omega), if_pos h]
theorem eulE_below {y : Nat} (hy : y < n) : eulE n f y = sumI (2 ^ n) fun s => if belB n f s y then -eulW n f s else 0 := by
  have h1 := sum_pair hy fun t => if belB n f t y then -eulW n f t else 0
  have h2 : eulE n f y = sumI (2 ^ n) fun s => if s.testBit y then (if belB n f (andNot s (2 ^ y)) y then -eulW n f (andNot s (2 ^ y)) else 0) else 0 := sumI_congr fun s _ => by
    cases hb : s.testBit y
    · rw [if_neg (by unfold topB; rw [hb]; simp), if_neg (by simp)]
    · rw [if_pos rfl, eulW_off ho hy hb]
  have h3 : (sumI (2 ^ n) fun s => if belB n f s y then -eulW n f s else 0) = sumI (2 ^ n) fun s => if s.testBit y then 0 else (fun t => if belB n f t y then -eulW n f t else 0) s := sumI_congr fun s _ => by
    cases hb : s.testBit y
    · rfl
    · rw [if_pos rfl, if_neg]
      intro h9
      exact (blw_iff.1 (belB_iff.1 h9 y hy hb)).1 rfl
  rw [h2, h3]; exact h1
theorem eulE_rec {y : Nat} (hy : y < n) : eulE n f y = 1 - sumI n fun x => if blw f x y then eulE n f x else 0 := by
  have h1 : (sumI n fun x => if blw f x y then eulE n f x else 0) = sumI (2 ^ n) fun s => sumI n fun x => if blw f x y then (if topB n f s x then eulW n f s else 0) else 0 := by
    rw [sumI_swap]
    refine sumI_congr fun x _ => ?_
    split
    · rfl
    · exact (sumI_zero fun _ _ => rfl).symm
  have hp : 0 < 2 ^ n := Nat.pow_pos (by omega)
  have h2 : eulE n f y + (sumI n fun x => if blw f x y then eulE n f x else 0) = 1 := by
    rw [h1, eulE_below ho hy, ← sumI_add, sumI_one (k := 0) hp fun s hs h0 => ?_]
    · rw [top_sum ho hp, if_pos (belB_iff.2 fun x _ h => by rw [Nat.zero_testBit] at h; cases h), if_neg (fun h => h.1 rfl)]
      have hc : chnK f 0 n = true := (chnK_iff ho).2 fun x _ _ _ h => by rw [Nat.zero_testBit] at h; cases h
      unfold eulW
      rw [hc, cntK_none]; rfl
    · rw [top_sum ho hs]
      cases hc : chnK f s n
      · rw [show eulW n f s = 0 from if_neg (by rw [hc]; simp)]
        split <;> split <;> rfl
      · obtain ⟨z, hz, ht⟩ := topB_ex ho hs h0 hc
        obtain ⟨ht1, ht2⟩ := topB_iff.1 ht
        cases hb : belB n f s y
        · rw [if_neg (by simp), if_neg]; · rfl
          rintro ⟨_, w, hw, hw1, hw2⟩
          have e := topB_uniq ho hw hz hw1 ht
          subst e
          have : belB n f s y = true := belB_iff.2 fun x hx hsx => by
            obtain ⟨h3, h4⟩ := blw_iff.1 hw2
            refine blw_iff.2 ⟨fun e => ?_, ho.trans hx hw hy (ht2 x hx hsx) h4⟩
            subst e
            exact h3 (ho.anti hw hx h4 (ht2 x hx hsx))
          rw [hb] at this; cases this
        · rw [if_pos rfl, if_pos ⟨h0, z, hz, ht, belB_iff.1 hb z hz ht1⟩]; omega
  omega
/-- Over all sets: the same as by what ends with each element. -/
theorem euler_law : eulS n f (2 ^ n) = eulN n f := by
  rw [eulS_top ho]
  have h : ∀ (c : Nat) {y : Nat}, y < n → cntD n f y ≤ c → eulE n f y = euF n f y := by
    intro c
    induction c with
    | zero => intro y hy hc; exact absurd (cntD_pos ho hy) (by omega)
    | succ c ih =>
      intro y hy hc
      rw [eulE_rec ho hy, euF_eq ho hy]
      congr 1
      refine sumI_congr fun x hx => ?_
      cases hb : blw f x y
      · rfl
      · have := cntD_lt ho hx hy (blw_iff.1 hb).2 (blw_iff.1 hb).1
        rw [if_pos rfl, if_pos rfl]
        exact ih hx (by omega)
  exact sumI_congr fun y hy => h _ hy (Nat.le_refl _)
end
end Go.X
namespace Go.X
/-- Whether an element can come next, when a set has come: the elements before 'k' looked at. -/
def fretF (f : Nat → Nat → Bool) (s x k : Nat) : Bool := !s.testBit x && (List.range k).all fun y => !blw f y x || s.testBit y
theorem fretF_zero (f : Nat → Nat → Bool) (s x : Nat) : fretF f s x 0 = !s.testBit x := by unfold fretF; simp
theorem fretF_succ (f : Nat → Nat → Bool) (s x k : Nat) : fretF f s x (k + 1) = (fretF f s x k && (!blw f k x || s.testBit k)) := by unfold fretF; rw [rall_succ, Bool.and_assoc]
theorem fretF_iff {f : Nat → Nat → Bool} {s x k : Nat} : fretF f s x k = true ↔ s.testBit x = false ∧ ∀ y, y < k → blw f y x = true → s.testBit y = true := by
  unfold fretF
  rw [Bool.and_eq_true, Bool.not_eq_true', rall_iff]
  refine and_congr_right fun _ => ⟨fun h y hy hb => ?_, fun h y hy => ?_⟩
  · have := h y hy; rw [hb] at this; simpa using this
  · cases c : blw f y x
    · rfl
    · rw [h y hy c]; rfl
/-- In how many orders the elements of a set can be listed: noughts for what is no ideal. -/
def linV (n : Nat) (f : Nat → Nat → Bool) (s : Nat) : Int := if idlB n f s then linN n f s else 0
theorem linV_bound {n s : Nat} {f : Nat → Nat → Bool} (hn : n ≤ 12) : 0 ≤ linV n f s ∧ linV n f s ≤ 23298085122481 := by
  have := linN_bound (s := s) (f := f) hn
  unfold linV
  split
  · exact this
  · omega
/-- What has come to 't' when the sets before 's', and of 's' the elements before 'x', have been gone through. -/
def linC (n : Nat) (f : Nat → Nat → Bool) (s x t q : Nat) : Bool := t.testBit q && fretF f (andNot t (2 ^ q)) q n && (decide (andNot t (2 ^ q) < s) || decide (andNot t (2 ^ q) = s) && decide (q < x))
def linT (n : Nat) (f : Nat → Nat → Bool) (s x t : Nat) : Int := (if t = 0 then 1 else 0) + sumI n fun q => if linC n f s x t q then linV n f (andNot t (2 ^ q)) else 0
theorem linT_bound {n s x t : Nat} {f : Nat → Nat → Bool} (hn : n ≤ 12) : -300000000000000 ≤ linT n f s x t ∧ linT n f s x t ≤ 300000000000000 := by
  have h := sumI_bound (B := 23298085122481) (by decide) (n := n) (g := fun q => if linC n f s x t q then linV n f (andNot t (2 ^ q)) else 0) fun i _ => by
    have := linV_bound (s := andNot t (2 ^ i)) (f := f) hn
    skip
    split
    · omega
    · omega
  have h2 : ((n : Nat) : Int) * 23298085122481 ≤ 12 * 23298085122481 := Int.mul_le_mul_of_nonneg_right (by omega) (by decide)
  unfold linT
  split <;> omega
theorem linT_zero (n : Nat) (f : Nat → Nat → Bool) (t : Nat) : linT n f 0 0 t = if t = 0 then 1 else 0 := by
  unfold linT
  rw [sumI_zero fun q _ => if_neg (by unfold linC; simp), Int.add_zero]
theorem linT_next {n s t : Nat} {f : Nat → Nat → Bool} : linT n f s n t = linT n f (s + 1) 0 t := by
  unfold linT
  congr 1
  refine sumI_congr fun q hq => ?_
  have e : linC n f s n t q = linC n f (s + 1) 0 t q := by
    unfold linC
    rw [decide_eq_true hq, Bool.and_true, decide_eq_false (show ¬ q < 0 by omega), Bool.and_false, Bool.or_false]
    congr 1
    rw [Bool.eq_iff_iff, Bool.or_eq_true, decide_eq_true_iff, decide_eq_true_iff, decide_eq_true_iff]
    omega
  rw [e]
theorem off_or {s x : Nat} (h : s.testBit x = false) : andNot (s ||| 2 ^ x) (2 ^ x) = s := Nat.eq_of_testBit_eq fun i => by
  rw [bit_off, Nat.testBit_or, Nat.testBit_two_pow]
  by_cases e : x = i
  · subst e; rw [decide_eq_true rfl, h]; rfl
  · rw [decide_eq_false e]; simp
theorem or_off {t x : Nat} (h : t.testBit x = true) : andNot t (2 ^ x) ||| 2 ^ x = t := Nat.eq_of_testBit_eq fun i => by
  rw [Nat.testBit_or, bit_off, Nat.testBit_two_pow]
  by_cases e : x = i
  · subst e; rw [decide_eq_true rfl, h]; rfl
  · rw [decide_eq_false e]; simp
theorem or_bit (s x : Nat) : (s ||| 2 ^ x).testBit x = true := by rw [Nat.testBit_or, Nat.testBit_two_pow, decide_eq_true rfl, Bool.or_true]
theorem linT_step {n s x t : Nat} {f : Nat → Nat → Bool} (hx : x < n) : linT n f s (x + 1) t = linT n f s x t + if fretF f s x n = true ∧ t = s ||| 2 ^ x then linV n f s else 0 := by
  have h1 : (sumI n fun q => if q = x then (if fretF f s x n = true ∧ t = s ||| 2 ^ x then linV n f s else 0) else 0) = if fretF f s x n = true ∧ t = s ||| 2 ^ x then linV n f s else 0 := by
    rw [sumI_one (k := x) hx fun i _ hne => if_neg hne, if_pos rfl]
  rw [← h1]
  unfold linT
  rw [Int.add_assoc, ← sumI_add]
  congr 1
  refine sumI_congr fun q hq => ?_
  by_cases e : q = x
  · subst e
    rw [if_pos rfl]
    unfold linC
    rw [decide_eq_true (show q < q + 1 by omega), decide_eq_false (show ¬ q < q by omega), Bool.and_true, Bool.and_false, Bool.or_false]
    by_cases e2 : fretF f s q n = true ∧ t = s ||| 2 ^ q
    · obtain ⟨a1, rfl⟩ := e2
      have hb := (fretF_iff.1 a1).1
      rw [off_or hb, or_bit, a1, if_pos (⟨rfl, rfl⟩ : true = true ∧ s ||| 2 ^ q = s ||| 2 ^ q), decide_eq_true (show s = s from rfl), decide_eq_false (show ¬ s < s by omega)]
      simp
    · rw [if_neg e2, Int.add_zero]
      cases hb : t.testBit q
      · rfl
      · by_cases e3 : andNot t (2 ^ q) = s
        · rw [e3]
          cases hf : fretF f s q n
          · rfl
          · exact absurd ⟨hf, by rw [← e3, or_off hb]⟩ e2
        · rw [decide_eq_false e3, Bool.or_false]
  · rw [if_neg e, Int.add_zero]
    have : linC n f s (x + 1) t q = linC n f s x t q := by
      unfold linC
      rw [show decide (q < x + 1) = decide (q < x) from by rw [decide_eq_decide]; omega]
    rw [this]
def linR (n : Nat) (f : Nat → Nat → Bool) (s x : Nat) : List Int := mapR (2 ^ n) (linT n f s x)
theorem linR_len (n : Nat) (f : Nat → Nat → Bool) (s x : Nat) : (linR n f s x).length = 2 ^ n := mapR_len _ _
theorem linR_start (n : Nat) (f : Nat → Nat → Bool) : (List.replicate (2 ^ n) (0 : Int)).set 0 1 = linR n f 0 0 := by
  have hp : 0 < 2 ^ n := Nat.pow_pos (by omega)
  unfold linR
  rw [rep_mapR, mapR_set hp]
  exact mapR_congr fun t _ => (linT_zero n f t).symm
theorem linR_next {n s : Nat} {f : Nat → Nat → Bool} : linR n f s n = linR n f (s + 1) 0 := mapR_congr fun _ _ => linT_next
theorem linR_yes {n s x : Nat} {f : Nat → Nat → Bool} (hx : x < n) (hs : s ||| 2 ^ x < 2 ^ n) (h : fretF f s x n = true) : (linR n f s x).set (s ||| 2 ^ x) (linT n f s x (s ||| 2 ^ x) + linV n f s) = linR n f s (x + 1) := by
  unfold linR
  rw [mapR_set hs]
  refine mapR_congr fun t _ => ?_
  rw [linT_step hx]
  by_cases e : t = s ||| 2 ^ x
  · rw [if_pos e, if_pos ⟨h, e⟩, e]
  · rw [if_neg e, if_neg (fun h9 => e h9.2), Int.add_zero]
theorem linR_no {n s x : Nat} {f : Nat → Nat → Bool} (hx : x < n) (h : fretF f s x n = false) : linR n f s x = linR n f s (x + 1) := mapR_congr fun t _ => by
  rw [linT_step hx, if_neg (fun h9 => by rw [h] at h9; cases h9.1), Int.add_zero]
/-- Where nothing leads to a set, the set leads nowhere. -/
theorem linR_stop {n s : Nat} {f : Nat → Nat → Bool} (h : linV n f s = 0) {x : Nat} (hx : x ≤ n) : linR n f s x = linR n f (s + 1) 0 := by
  rw [← linR_next]
  have : ∀ d x, x + d = n → linR n f s x = linR n f s n := by
    intro d
    induction d with
    | zero => intro x hd; rw [show x = n by omega]
    | succ d ih =>
      intro x hd
      rw [← ih (x + 1) (by omega)]
      exact mapR_congr fun t _ => by rw [linT_step (by omega), h]; split <;> omega
  exact this (n - x) x (by omega)
section
variable {n : Nat} {f : Nat → Nat → Bool} (ho : IsO n f) (hn : n ≤ 12)
include ho hn
theorem linV_sum {t : Nat} (ht : t < 2 ^ n) (h0 : t ≠ 0) : (sumI n fun q => if t.testBit q && fretF f (andNot t (2 ^ q)) q n then linV n f (andNot t (2 ^ q)) else 0) = linV n f t := by
  have hp := pow12 hn
  cases hi : idlB n f t
  · rw [show linV n f t = 0 from if_neg (by rw [hi]; simp)]
    refine sumI_zero fun q hq => ?_
    cases hb : t.testBit q
    · rfl
    · cases hf : fretF f (andNot t (2 ^ q)) q n
      · rfl
      · rw [Bool.and_self, if_pos rfl]
        refine if_neg fun h => ?_
        have h2 := idlB_iff.1 h
        have h3 := (fretF_iff.1 hf).2
        have : idlB n f t = true := idlB_iff.2 fun x y hx hy hbx hyx => by
          by_cases ey : q = y
          · subst ey; exact hb
          · by_cases ex : q = x
            · subst ex
              have := h3 y hy (blw_iff.2 ⟨Ne.symm ey, hyx⟩)
              rw [bit_off, Bool.and_eq_true] at this; exact this.1
            · have := h2 x y hx hy (by rw [bit_off, hbx, decide_eq_false ex]; rfl) hyx
              rw [bit_off, Bool.and_eq_true] at this; exact this.1
        rw [hi] at this; cases this
  · rw [show linV n f t = linN n f t from if_pos hi, linN_sum hn (by omega) h0]
    refine sumI_congr fun q hq => ?_
    have h2 := idlB_iff.1 hi
    cases hb : t.testBit q
    · have : lastB n f t q = false := by unfold lastB; rw [hb]; rfl
      rw [this]; rfl
    · have hf : fretF f (andNot t (2 ^ q)) q n = true := fretF_iff.2 ⟨by rw [bit_off, decide_eq_true rfl]; simp, fun y hy hyb => by
        obtain ⟨h3, h4⟩ := blw_iff.1 hyb
        rw [bit_off, h2 q y hq hy hb h4, decide_eq_false (Ne.symm h3)]; rfl⟩
      rw [hf, Bool.and_self, if_pos rfl]
      cases hl : lastB n f t q
      · rw [if_neg (by simp)]
        refine if_neg fun h => ?_
        have h3 := idlB_iff.1 h
        have hself : (upF n f q &&& t).testBit q = true := by rw [Nat.testBit_and, upF_bit, decide_eq_true hq, ho.refl hq, hb]; rfl
        have hz : andNot (upF n f q &&& t) (2 ^ q) = 0 := Nat.eq_of_testBit_eq fun i => by
          rw [Nat.zero_testBit, bit_off, Nat.testBit_and, upF_bit]
          by_cases ei : q = i
          · rw [decide_eq_true ei]; simp
          · cases hti : t.testBit i
            · simp
            · cases hfi : f q i
              · simp
              · have hin := bit_lt ht hti
                have := h3 i q hin hq (by rw [bit_off, hti, decide_eq_false ei]; rfl) hfi
                rw [bit_off, decide_eq_true rfl] at this
                simp at this
        have h4 := popN_off (by omega) hself
        rw [hz, popN_zero] at h4
        unfold lastB at hl
        rw [hb, h4] at hl
        cases hl
      · rw [if_pos rfl]
        exact if_pos (idl_off ho hn ht hi hl).1
theorem linT_done {s x t : Nat} (ht : t < 2 ^ n) (hs : t ≤ s) : linT n f s x t = linV n f t := by
  by_cases h0 : t = 0
  · subst h0
    unfold linT
    rw [if_pos rfl, sumI_zero fun q _ => if_neg (by unfold linC; rw [Nat.zero_testBit]; simp)]
    have hi : idlB n f 0 = true := idlB_iff.2 fun x y _ _ h => by rw [Nat.zero_testBit] at h; cases h
    rw [show linV n f 0 = linN n f 0 from if_pos hi, linN_zero]; rfl
  · rw [← linV_sum ho hn ht h0]
    unfold linT
    rw [if_neg h0, Int.zero_add]
    refine sumI_congr fun q hq => ?_
    have e : linC n f s x t q = (t.testBit q && fretF f (andNot t (2 ^ q)) q n) := by
      unfold linC
      cases hb : t.testBit q
      · rfl
      · have h1 := andNot_le t (2 ^ q)
        have h2 : andNot t (2 ^ q) ≠ t := fun e => by
          have := bit_off (s := t) (x := q) (y := q)
          rw [e, hb] at this; simp at this
        rw [decide_eq_true (show andNot t (2 ^ q) < s by omega)]; simp
    rw [e]
theorem linR_at {s x t : Nat} (ht : t < 2 ^ n) (hs : t ≤ s) : gt (linR n f s x) t = linV n f t := by
  unfold linR
  rw [gt_mapR ht, linT_done ho hn ht hs]
omit ho hn in
theorem linV_all : linV n f (2 ^ n - 1) = linN n f (2 ^ n - 1) := if_pos (idlB_iff.2 fun x y hx hy _ _ => by
  rw [Nat.testBit_two_pow_sub_one]; exact decide_eq_true hy)
end
end Go.X
