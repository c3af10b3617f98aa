/-
  Orders, plain: tables of truth values, what an order is, the closure of pairs.
-/
import Derived.Test.YtdokijbdnajhgaaXTab
set_option linter.unusedSimpArgs false
set_option linter.unusedVariables false
namespace Go.X
abbrev Tab := List (List Bool)
abbrev pb (p : List (List Bool)) (x y : Nat) : Bool := gt (gt p x) y
def Sq (p : List (List Bool)) (n : Nat) : Prop := p.length = n ∧ ∀ i, i < n → (gt p i).length = n
def rowF (n : Nat) (g : Nat → Bool) : List Bool := (List.range n).map g
def tabF (n : Nat) (f : Nat → Nat → Bool) : List (List Bool) := (List.range n).map fun x => rowF n (f x)
theorem rowF_length (n : Nat) (g : Nat → Bool) : (rowF n g).length = n := by simp [rowF]
theorem gt_rowF {n j : Nat} {g : Nat → Bool} (h : j < n) : gt (rowF n g) j = g j := by rw [gt_eq (by rw [rowF_length]; exact h)]; simp [rowF]
theorem tabF_length (n : Nat) (f : Nat → Nat → Bool) : (tabF n f).length = n := by simp [tabF]
theorem gt_tabF {n x : Nat} {f : Nat → Nat → Bool} (h : x < n) : gt (tabF n f) x = rowF n (f x) := by rw [gt_eq (by rw [tabF_length]; exact h)]; simp [tabF]
theorem tabF_sq (n : Nat) (f : Nat → Nat → Bool) : Sq (tabF n f) n := ⟨tabF_length n f, fun i hi => by rw [gt_tabF hi, rowF_length]⟩
theorem pb_tabF {n x y : Nat} {f : Nat → Nat → Bool} (hx : x < n) (hy : y < n) : pb (tabF n f) x y = f x y := by
  show gt (gt (tabF n f) x) y = _
  rw [gt_tabF hx, gt_rowF hy]
theorem row_ext {n : Nat} {g : Nat → Bool} {r : List Bool} (hl : r.length = n) (h : ∀ j, j < n → gt r j = g j) : r = rowF n g :=
  gt_ext (by rw [hl, rowF_length]) fun j hj => by rw [gt_rowF (by omega)]; exact h j (by omega)
theorem tab_ext {n : Nat} {f : Nat → Nat → Bool} {p : List (List Bool)} (hs : Sq p n) (h : ∀ x y, x < n → y < n → pb p x y = f x y) : p = tabF n f :=
  gt_ext (by rw [hs.1, tabF_length]) fun x hx => by
    rw [hs.1] at hx
    rw [gt_tabF hx]
    exact row_ext (hs.2 x hx) fun y hy => h x y hx hy
theorem tab_rows {n : Nat} {f : Nat → Nat → Bool} {p : List (List Bool)} (hl : p.length = n) (h : ∀ i, i < n → gt p i = rowF n (f i)) : p = tabF n f :=
  gt_ext (by rw [hl, tabF_length]) fun x hx => by rw [gt_tabF (by omega)]; exact h x (by omega)
theorem tabF_congr {n : Nat} {f g : Nat → Nat → Bool} (h : ∀ x y, x < n → y < n → f x y = g x y) : tabF n f = tabF n g :=
  tab_ext (tabF_sq n f) fun x y hx hy => by rw [pb_tabF hx hy]; exact h x y hx hy
theorem sq_self {p : List (List Bool)} {n : Nat} (hs : Sq p n) : p = tabF n (pb p) := tab_ext hs fun _ _ _ _ => rfl
theorem sq_set {p : List (List Bool)} {n x z : Nat} {b : Bool} (hs : Sq p n) (hx : x < n) : Sq (p.set x ((gt p x).set z b)) n := ⟨by rw [List.length_set]; exact hs.1, fun i hi => by
  rw [gt_set (by rw [hs.1]; exact hx)]
  split
  · rw [List.length_set]; exact hs.2 x hx
  · exact hs.2 i hi⟩
theorem pb_set {p : List (List Bool)} {n x z a c : Nat} {b : Bool} (hs : Sq p n) (hx : x < n) (hz : z < n) : pb (p.set x ((gt p x).set z b)) a c = if a = x ∧ c = z then b else pb p a c := by
  show gt (gt _ a) c = _
  rw [gt_set (by rw [hs.1]; exact hx)]
  by_cases h1 : a = x
  · subst h1
    rw [if_pos rfl, gt_set (by rw [hs.2 a hx]; exact hz)]
    by_cases h2 : c = z
    · rw [if_pos h2, if_pos ⟨rfl, h2⟩]
    · rw [if_neg h2, if_neg (fun h => h2 h.2)]
  · rw [if_neg h1, if_neg (fun h => h1 h.1)]
theorem id_row {n x : Nat} (hx : x < n) : (List.replicate n false).set x true = rowF n fun j => decide (x = j) :=
  row_ext (by simp) fun j hj => by
    rw [gt_set (by simpa using hx), gt_replicate hj]
    by_cases h : j = x
    · subst h; simp
    · rw [if_neg h]; symm; simp; omega

/-! ### What an order is -/
def okP (n : Nat) (f : Nat → Nat → Bool) (x y : Nat) : Prop := (x = y → f x y = true) ∧ (x ≠ y → f x y = true → f y x = false) ∧ ∀ z, z < n → f x y = true → f y z = true → f x z = true
def IsO (n : Nat) (f : Nat → Nat → Bool) : Prop := ∀ x y, x < n → y < n → okP n f x y
theorem IsO.refl {n : Nat} {f : Nat → Nat → Bool} (h : IsO n f) {x : Nat} (hx : x < n) : f x x = true := (h x x hx hx).1 rfl
theorem IsO.anti {n : Nat} {f : Nat → Nat → Bool} (h : IsO n f) {x y : Nat} (hx : x < n) (hy : y < n) (h1 : f x y = true) (h2 : f y x = true) : x = y :=
  Classical.byContradiction fun hne => by have := (h x y hx hy).2.1 hne h1; rw [h2] at this; cases this
theorem IsO.trans {n : Nat} {f : Nat → Nat → Bool} (h : IsO n f) {x y z : Nat} (hx : x < n) (hy : y < n) (hz : z < n) (h1 : f x y = true) (h2 : f y z = true) : f x z = true := (h x y hx hy).2.2 z hz h1 h2
theorem isO_mk {n : Nat} {f : Nat → Nat → Bool} (h1 : ∀ x, x < n → f x x = true) (h2 : ∀ x y, x < n → y < n → f x y = true → f y x = true → x = y) (h3 : ∀ x y z, x < n → y < n → z < n → f x y = true → f y z = true → f x z = true) : IsO n f := fun x y hx hy =>
  ⟨fun e => by subst e; exact h1 x hx, fun hne h => by
    cases hf : f y x
    · rfl
    · exact absurd (h2 x y hx hy h hf) hne, fun z hz a b => h3 x y z hx hy hz a b⟩
theorem IsO.congr {n : Nat} {f g : Nat → Nat → Bool} (h : IsO n f) (he : ∀ x y, x < n → y < n → f x y = g x y) : IsO n g :=
  isO_mk (fun x hx => by rw [← he x x hx hx]; exact h.refl hx) (fun x y hx hy a b => h.anti hx hy (by rw [he x y hx hy]; exact a) (by rw [he y x hy hx]; exact b))
    (fun x y z hx hy hz a b => by rw [← he x z hx hz]; exact h.trans hx hy hz (by rw [he x y hx hy]; exact a) (by rw [he y z hy hz]; exact b))
def ordB (n : Nat) (f : Nat → Nat → Bool) : Bool := (List.range n).all fun x => (List.range n).all fun y =>
  (!decide (x = y) || f x y) && (decide (x = y) || !f x y || !f y x) && (List.range n).all fun z => !f x y || !f y z || f x z
theorem ordB_iff {n : Nat} {f : Nat → Nat → Bool} : ordB n f = true ↔ IsO n f := by
  unfold ordB IsO
  constructor
  · intro h x y hx hy
    have h1 := List.all_eq_true.1 (List.all_eq_true.1 h x (List.mem_range.2 hx)) y (List.mem_range.2 hy)
    simp only [Bool.and_eq_true, List.all_eq_true, List.mem_range] at h1
    obtain ⟨⟨h2, h3⟩, h4⟩ := h1
    refine ⟨fun e => by simpa [e] using h2, fun hne a => ?_, fun z hz a b => ?_⟩
    · have : decide (x = y) = false := decide_eq_false hne
      rw [this, a] at h3; simpa using h3
    · have := h4 z hz
      rw [a, b] at this; simpa using this
  · intro h
    rw [List.all_eq_true]
    intro x hx
    rw [List.all_eq_true]
    intro y hy
    rw [List.mem_range] at hx hy
    obtain ⟨h1, h2, h3⟩ := h x y hx hy
    simp only [Bool.and_eq_true, List.all_eq_true, List.mem_range]
    refine ⟨⟨?_, ?_⟩, fun z hz => ?_⟩
    · by_cases e : x = y
      · rw [h1 e]; simp
      · simp [e]
    · by_cases e : x = y
      · simp [e]
      · cases a : f x y
        · simp
        · rw [h2 e a]; simp
    · cases a : f x y
      · simp
      · cases b : f y z
        · simp
        · rw [h3 z hz a b]; simp
def sqB (p : List (List Bool)) : Bool := (List.range p.length).all fun i => decide ((gt p i).length = p.length)
theorem sqB_iff {p : List (List Bool)} : sqB p = true ↔ Sq p p.length := by
  unfold sqB Sq
  rw [List.all_eq_true]
  exact ⟨fun h => ⟨rfl, fun i hi => by simpa using h i (List.mem_range.2 hi)⟩, fun h i hi => by simpa using h.2 i (List.mem_range.1 hi)⟩
def isT (p : List (List Bool)) : Bool := sqB p && ordB p.length (pb p)
theorem isT_iff {p : List (List Bool)} : isT p = true ↔ Sq p p.length ∧ IsO p.length (pb p) := by
  unfold isT
  rw [Bool.and_eq_true, sqB_iff, ordB_iff]
theorem isT_sq {p : List (List Bool)} (h : isT p = true) : Sq p p.length := (isT_iff.1 h).1
theorem isT_o {p : List (List Bool)} (h : isT p = true) : IsO p.length (pb p) := (isT_iff.1 h).2
theorem isT_tabF {n : Nat} {f : Nat → Nat → Bool} (h : IsO n f) : isT (tabF n f) = true := by
  rw [isT_iff, tabF_length]
  exact ⟨tabF_sq n f, h.congr fun x y hx hy => (pb_tabF hx hy).symm⟩
theorem ntb {b : Bool} (h : b = false) : ¬ (b = true) := by rw [h]; simp
theorem nbf {b : Bool} (h : (!b) = false) : b = true := by simpa using h
theorem nbt {b : Bool} (h : (!b) = true) : b = false := by simpa using h
theorem bad_tri {n x y z : Nat} {f : Nat → Nat → Bool} (hz : z < n) (h1 : f x y = true) (h2 : f y z = true) (h3 : f x z = false) : ¬ okP n f x y := fun o => ntb h3 (o.2.2 z hz h1 h2)
theorem bad_refl {n x y : Nat} {f : Nat → Nat → Bool} (e : x = y) (h : f x y = false) : ¬ okP n f x y := fun o => ntb h (o.1 e)
theorem bad_anti {n x y : Nat} {f : Nat → Nat → Bool} (e : x ≠ y) (h1 : f x y = true) (h2 : f y x = true) : ¬ okP n f x y := fun o => ntb (o.2.1 e h1) h2
/-- What Check answers. -/
def chkT (p : List (List Bool)) : Int := if p.length < 1 ∨ 12 < p.length then 90 else if isT p then 0 else 90
theorem chkT_ok {p : List (List Bool)} (h : chkT p = 0) : 1 ≤ p.length ∧ p.length ≤ 12 ∧ isT p = true := by
  unfold chkT at h
  split at h
  · cases h
  · split at h
    · rename_i h1 h2; exact ⟨by omega, by omega, h2⟩
    · cases h
theorem ok_chkT {p : List (List Bool)} (h1 : 1 ≤ p.length) (h2 : p.length ≤ 12) (h : isT p = true) : chkT p = 0 := by
  unfold chkT; rw [if_neg (by omega), if_pos h]
theorem chkT_size {p : List (List Bool)} (h : p.length < 1 ∨ 12 < p.length) : chkT p = 90 := if_pos h
theorem chkT_bad {p : List (List Bool)} (h : isT p = false) : chkT p = 90 := by
  unfold chkT
  split
  · rfl
  · rw [h]; rfl
theorem not_isT {p : List (List Bool)} (h : ¬ (Sq p p.length ∧ IsO p.length (pb p))) : isT p = false := by
  rw [Bool.eq_false_iff]; exact fun h' => h (isT_iff.1 h')
theorem bad_sq {p : List (List Bool)} {i : Nat} (hi : i < p.length) (h : (gt p i).length ≠ p.length) : isT p = false := not_isT fun h' => h (h'.1.2 i hi)
theorem bad_ok {p : List (List Bool)} {x y : Nat} (hx : x < p.length) (hy : y < p.length) (h : ¬ okP p.length (pb p) x y) : isT p = false := not_isT fun h' => h (h'.2 x y hx hy)
theorem chkT_cases (p : List (List Bool)) : chkT p = 0 ∨ chkT p = 90 := by
  unfold chkT; split
  · exact .inr rfl
  · split
    · exact .inl rfl
    · exact .inr rfl

/-! ### The closure of pairs -/
def warY (W : Nat → Nat → Bool) (y x z : Nat) : Bool := W x z || (W x y && W y z)
def warN (W : Nat → Nat → Bool) : Nat → Nat → Nat → Bool
  | 0 => W
  | k + 1 => warY (warN W k) k
theorem warY_col (W : Nat → Nat → Bool) (y x : Nat) : warY W y x y = W x y := by unfold warY; cases W x y <;> simp
theorem warY_row (W : Nat → Nat → Bool) (y z : Nat) : warY W y y z = W y z := by unfold warY; cases W y z <;> simp
/-- Within the pass of 'y', as far as the row 'x' and the place 'z'. -/
def warS (W : Nat → Nat → Bool) (y x z a c : Nat) : Bool := if a < x ∨ (a = x ∧ c < z) then warY W y a c else W a c
theorem warS_zero (W : Nat → Nat → Bool) (y a c : Nat) : warS W y 0 0 a c = W a c := by unfold warS; rw [if_neg (by omega)]
theorem warS_next (W : Nat → Nat → Bool) {y n x a c : Nat} (hc : c < n) : warS W y x n a c = warS W y (x + 1) 0 a c := by
  unfold warS
  by_cases h : a < x ∨ (a = x ∧ c < n)
  · rw [if_pos h, if_pos (by omega)]
  · rw [if_neg h, if_neg (by omega)]
theorem warS_end (W : Nat → Nat → Bool) {y n a c : Nat} (ha : a < n) : warS W y n 0 a c = warY W y a c := by unfold warS; rw [if_pos (.inl ha)]
theorem warS_xz (W : Nat → Nat → Bool) (y x z : Nat) : warS W y x z x z = W x z := by unfold warS; rw [if_neg (by omega)]
theorem warS_xy (W : Nat → Nat → Bool) (y x z a : Nat) : warS W y x z a y = W a y := by unfold warS; split; exact warY_col W y a; rfl
theorem warS_yz (W : Nat → Nat → Bool) (y x z c : Nat) : warS W y x z y c = W y c := by unfold warS; split; exact warY_row W y c; rfl
theorem warS_step {W : Nat → Nat → Bool} {y n x z : Nat} {r : List (List Bool)} {b : Bool} (hs : Sq r n) (hx : x < n) (hz : z < n) (hr : ∀ a c, a < n → c < n → pb r a c = warS W y x z a c) (hb : b = warY W y x z) :
    ∀ a c, a < n → c < n → pb (r.set x ((gt r x).set z b)) a c = warS W y x (z + 1) a c := fun a c ha hc => by
  rw [pb_set hs hx hz, hr a c ha hc]
  unfold warS
  by_cases h : a = x ∧ c = z
  · rw [if_pos h, if_pos (by omega), hb, h.1, h.2]
  · rw [if_neg h]
    by_cases h2 : a < x ∨ (a = x ∧ c < z)
    · rw [if_pos h2, if_pos (by omega)]
    · rw [if_neg h2, if_neg (by omega)]
/-- The value that is stored. -/
theorem warS_val {W : Nat → Nat → Bool} {y n x z : Nat} {r : List (List Bool)} (hx : x < n) (hy : y < n) (hz : z < n) (hr : ∀ a c, a < n → c < n → pb r a c = warS W y x z a c) :
    warY W y x z = (pb r x z || (pb r x y && pb r y z)) := by
  rw [hr x z hx hz, hr x y hx hy, hr y z hy hz, warS_xz, warS_xy, warS_yz]; rfl
theorem or_t {a b c : Bool} (h : a = true) : true = (a || (b && c)) := by rw [h]; rfl
theorem or_f {a b c : Bool} (h : a = false) (hb : b = false) : false = (a || (b && c)) := by rw [h, hb]; rfl
theorem or_v {a b c : Bool} (h : a = false) (hb : b = true) : c = (a || (b && c)) := by rw [h, hb]; rfl
theorem warN_trans (W : Nat → Nat → Bool) : ∀ k y, y < k → ∀ x z, warN W k x y = true → warN W k y z = true → warN W k x z = true
  | 0, y, h => absurd h (by omega)
  | k + 1, y, h => fun x z h1 h2 => by
    have ih := warN_trans W k
    show warY (warN W k) k x z = true
    have h1 : warY (warN W k) k x y = true := h1
    have h2 : warY (warN W k) k y z = true := h2
    by_cases e : y = k
    · subst e
      rw [warY_col] at h1; rw [warY_row] at h2
      unfold warY; rw [h1, h2]; simp
    · have hy : y < k := by omega
      unfold warY at h1 h2 ⊢
      rw [Bool.or_eq_true, Bool.and_eq_true] at h1 h2 ⊢
      rcases h1 with h1 | ⟨h1, h1'⟩ <;> rcases h2 with h2 | ⟨h2, h2'⟩
      · exact .inl (ih y hy x z h1 h2)
      · exact .inr ⟨ih y hy x k h1 h2, h2'⟩
      · exact .inr ⟨h1, ih y hy k z h1' h2⟩
      · exact .inr ⟨h1, h2'⟩
theorem warN_le (W : Nat → Nat → Bool) : ∀ k x z, W x z = true → warN W k x z = true
  | 0, _, _, h => h
  | k + 1, x, z, h => by show warY _ _ _ _ = true; unfold warY; rw [warN_le W k x z h]; rfl
theorem warN_in {W : Nat → Nat → Bool} {R : Nat → Nat → Prop} (ht : ∀ x y z, R x y → R y z → R x z) (h0 : ∀ x z, W x z = true → R x z) : ∀ k x z, warN W k x z = true → R x z
  | 0, x, z, h => h0 x z h
  | k + 1, x, z, h => by
    have h : warY (warN W k) k x z = true := h
    unfold warY at h
    rw [Bool.or_eq_true, Bool.and_eq_true] at h
    rcases h with h | ⟨h1, h2⟩
    · exact warN_in ht h0 k x z h
    · exact ht x k z (warN_in ht h0 k x k h1) (warN_in ht h0 k k z h2)
/-- The pairs, with all elements at most themselves. -/
def pairW (ls : List (Int × Int)) (k : Nat) (x y : Nat) : Bool := decide (x = y) || (ls.take k).any fun c => decide (c.1 = (x : Int) ∧ c.2 = (y : Int))
theorem pairW_zero (ls : List (Int × Int)) (x y : Nat) : pairW ls 0 x y = decide (x = y) := by simp [pairW]
theorem pairW_succ {ls : List (Int × Int)} {k : Nat} (hk : k < ls.length) (x y : Nat) : pairW ls (k + 1) x y = (pairW ls k x y || decide ((gt ls k).1 = (x : Int) ∧ (gt ls k).2 = (y : Int))) := by
  unfold pairW
  rw [show ls.take (k + 1) = ls.take k ++ [gt ls k] from by rw [List.take_add_one, gt_some hk]; rfl, List.any_append, Bool.or_assoc]
  simp
def closW (n : Nat) (ls : List (Int × Int)) : Nat → Nat → Bool := warN (pairW ls ls.length) n
theorem pairW_iff {ls : List (Int × Int)} {x y : Nat} : pairW ls ls.length x y = true ↔ x = y ∨ ((x : Int), (y : Int)) ∈ ls := by
  unfold pairW
  rw [List.take_length, Bool.or_eq_true, List.any_eq_true, decide_eq_true_iff]
  constructor
  · rintro (h | ⟨c, hc, h⟩)
    · exact .inl h
    · have := of_decide_eq_true h
      exact .inr (by rw [← this.1, ← this.2]; exact hc)
  · rintro (h | h)
    · exact .inl h
    · exact .inr ⟨_, h, by simp⟩
/-- A closure of pairs along which a rank rises is an order. -/
theorem clos_order {n : Nat} {ls : List (Int × Int)} (rk : Nat → Nat) (hi : ∀ x y, x < n → y < n → rk x = rk y → x = y) (hr : ∀ x y : Nat, ((x : Int), (y : Int)) ∈ ls → rk x ≤ rk y) : IsO n (closW n ls) := by
  have hle : ∀ x y, closW n ls x y = true → rk x ≤ rk y := warN_in (R := fun x y => rk x ≤ rk y) (fun _ _ _ => Nat.le_trans) (fun x z h => by
    rcases pairW_iff.1 h with h | h
    · rw [h]; exact Nat.le_refl _
    · exact hr x z h) n
  exact isO_mk (fun x hx => warN_le _ _ _ _ (pairW_iff.2 (.inl rfl))) (fun x y hx hy a b => hi x y hx hy (Nat.le_antisymm (hle x y a) (hle y x b)))
    (fun x y z hx hy hz a b => warN_trans _ n y hy x z a b)
theorem clos_pair {n : Nat} {ls : List (Int × Int)} {x y : Nat} (h : ((x : Int), (y : Int)) ∈ ls) : closW n ls x y = true := warN_le _ _ _ _ (pairW_iff.2 (.inr h))
theorem clos_refl {n : Nat} {ls : List (Int × Int)} (x : Nat) : closW n ls x x = true := warN_le _ _ _ _ (pairW_iff.2 (.inl rfl))
/-- It is the least one. -/
theorem clos_in {n : Nat} {ls : List (Int × Int)} {R : Nat → Nat → Prop} (hr : ∀ x, R x x) (ht : ∀ x y z, R x y → R y z → R x z) (h0 : ∀ x y : Nat, ((x : Int), (y : Int)) ∈ ls → R x y) {x y : Nat} (h : closW n ls x y = true) : R x y :=
  warN_in ht (fun x z h => by
    rcases pairW_iff.1 h with h | h
    · rw [h]; exact hr z
    · exact h0 x z h) n x y h
def inR (n : Int) (c : Int × Int) : Bool := decide (0 ≤ c.1 ∧ 0 ≤ c.2 ∧ c.1 < n ∧ c.2 < n)
theorem inR_iff {n : Int} {c : Int × Int} : inR n c = true ↔ 0 ≤ c.1 ∧ 0 ≤ c.2 ∧ c.1 < n ∧ c.2 < n := by simp [inR]
/-- What Closure answers. -/
def closE (n : Int) (ls : List (Int × Int)) : Int := if n < 1 ∨ 12 < n then 1 else if ls.all (inR n) then (if ordB n.toNat (closW n.toNat ls) then 0 else 90) else 1
theorem closE_size {n : Int} {ls : List (Int × Int)} (h : n < 1 ∨ 12 < n) : closE n ls = 1 := if_pos h
theorem closE_out {n : Int} {ls : List (Int × Int)} {i : Nat} (hi : i < ls.length) (h : ¬ (0 ≤ (gt ls i).1 ∧ 0 ≤ (gt ls i).2 ∧ (gt ls i).1 < n ∧ (gt ls i).2 < n)) : closE n ls = 1 := by
  unfold closE
  split
  · rfl
  · rw [if_neg]
    intro h9
    exact h (inR_iff.1 (List.all_eq_true.1 h9 _ (gt_mem hi)))
theorem all_inR {n : Int} {ls : List (Int × Int)} (h : ∀ i, i < ls.length → inR n (gt ls i) = true) : ls.all (inR n) = true := by
  rw [List.all_eq_true]
  intro c hc
  obtain ⟨i, hi, rfl⟩ := mem_gt hc
  exact h i hi
theorem closE_ok {m : Nat} {ls : List (Int × Int)} (h1 : 1 ≤ m) (h2 : m ≤ 12) (h : ∀ i, i < ls.length → inR m (gt ls i) = true) : closE m ls = if ordB m (closW m ls) then 0 else 90 := by
  unfold closE
  rw [if_neg (by omega), if_pos (all_inR h), Int.toNat_natCast]
theorem chkT_tabF {m : Nat} {f : Nat → Nat → Bool} (h1 : 1 ≤ m) (h2 : m ≤ 12) : chkT (tabF m f) = if ordB m f then 0 else 90 := by
  have hs : sqB (tabF m f) = true := sqB_iff.2 (by rw [tabF_length]; exact tabF_sq m f)
  have ho : ordB m (pb (tabF m f)) = ordB m f := by
    rw [Bool.eq_iff_iff, ordB_iff, ordB_iff]
    exact ⟨fun h => h.congr fun x y hx hy => pb_tabF hx hy, fun h => h.congr fun x y hx hy => (pb_tabF hx hy).symm⟩
  unfold chkT isT
  rw [tabF_length, if_neg (by omega), hs, ho]
  rfl
theorem pairW_step {ls : List (Int × Int)} {p : List (List Bool)} {m k a b : Nat} (hk : k < ls.length) (hs : Sq p m) (ha : a < m) (hb : b < m) (hg : gt ls k = ((a : Int), (b : Int))) (hp : ∀ x y, x < m → y < m → pb p x y = pairW ls k x y) :
    ∀ x y, x < m → y < m → pb (p.set a ((gt p a).set b true)) x y = pairW ls (k + 1) x y := fun x y hx hy => by
  rw [pb_set hs ha hb, pairW_succ hk, hg, hp x y hx hy]
  by_cases h : x = a ∧ y = b
  · rw [if_pos h, h.1, h.2]; simp
  · rw [if_neg h, decide_eq_false (by dsimp only; omega)]; simp
theorem warN_congr {V W : Nat → Nat → Bool} {n : Nat} (h : ∀ x y, x < n → y < n → V x y = W x y) : ∀ k, k ≤ n → ∀ x y, x < n → y < n → warN V k x y = warN W k x y
  | 0, _, x, y, hx, hy => h x y hx hy
  | k + 1, hk, x, y, hx, hy => by
    have ih := warN_congr h k (by omega)
    show warY _ _ _ _ = warY _ _ _ _
    unfold warY
    rw [ih x y hx hy, ih x k hx (by omega), ih k y (by omega) hy]
theorem clos_tab {ls : List (Int × Int)} {p : List (List Bool)} {m k : Nat} (hs : Sq p m) (hk : k = ls.length) (hp : ∀ x y, x < m → y < m → pb p x y = pairW ls k x y) : tabF p.length (warN (pb p) p.length) = tabF m (closW m ls) := by
  rw [hs.1]
  subst hk
  exact tabF_congr (warN_congr hp m (Nat.le_refl m))
theorem isT_tab {m : Nat} {f : Nat → Nat → Bool} {r : List (List Bool)} (h : r = tabF m f) : isT r = ordB m f := by
  subst h
  have hs : sqB (tabF m f) = true := sqB_iff.2 (by rw [tabF_length]; exact tabF_sq m f)
  have ho : ordB m (pb (tabF m f)) = ordB m f := by
    rw [Bool.eq_iff_iff, ordB_iff, ordB_iff]
    exact ⟨fun h => h.congr fun x y hx hy => pb_tabF hx hy, fun h => h.congr fun x y hx hy => (pb_tabF hx hy).symm⟩
  unfold isT
  rw [hs, tabF_length, ho]; rfl
end Go.X
