/-
  What is said of heaps: extensions, slices that are read, slices that are owned, blocks of variables.
-/
import Derived.Test.YtdokijbdnajhgaaXOpsA
import Derived.Laws.OwnMore
import Derived.OwnWalk
set_option linter.unusedSimpArgs false
set_option linter.unusedVariables false
namespace Go.X

def cellA (h : Heap) (a : Addr) : Option Value :=
  match h[a.block]? with
  | some (.cells c _ _) => if a.spot.isSome then none else c[a.off]?
  | _ => none

theorem cell_eq (w : World) (a : Addr) : w.cell? a = cellA w.heap a := rfl

theorem add_add (a : Addr) (i j : Nat) : (a.add i).add j = a.add (i + j) := by
  unfold Addr.add
  by_cases hi : i = 0
  · subst hi; simp
  · by_cases hj : j = 0
    · subst hj; simp [hi]
    · simp [hi, hj, Nat.add_assoc]
theorem add_zero (a : Addr) : a.add 0 = a := by simp [Addr.add]
theorem add_block (a : Addr) (i : Nat) : (a.add i).block = a.block := by unfold Addr.add; split <;> rfl
theorem add_lit (g o j : Nat) : (⟨g, o, none⟩ : Addr).add j = ⟨g, o + j, none⟩ := by unfold Addr.add; split <;> simp_all

theorem lt_of_cellA {h : Heap} {a : Addr} {v : Value} (hc : cellA h a = some v) : a.block < h.size := by
  unfold cellA at hc
  rcases Nat.lt_or_ge a.block h.size with h1 | h1
  · exact h1
  · rw [Array.getElem?_eq_none h1] at hc; cases hc

/-- Below block 'B' nothing has turned. -/
structure Ext (B : Nat) (h h' : Heap) : Prop where
  size : h.size ≤ h'.size
  block : ∀ k, k < B → h'[k]? = h[k]?

theorem Ext.refl (B : Nat) (h : Heap) : Ext B h h := ⟨Nat.le_refl _, fun _ _ => rfl⟩
theorem Ext.trans {B : Nat} {a b c : Heap} (h : Ext B a b) (k : Ext B b c) : Ext B a c := ⟨Nat.le_trans h.size k.size, fun i hi => (k.block i hi).trans (h.block i hi)⟩
theorem Ext.mono {B B' : Nat} {a b : Heap} (h : Ext B a b) (hB : B' ≤ B) : Ext B' a b := ⟨h.size, fun i hi => h.block i (Nat.lt_of_lt_of_le hi hB)⟩
theorem Ext.cell {B : Nat} {h h' : Heap} (hx : Ext B h h') {a : Addr} (ha : a.block < B) : cellA h' a = cellA h a := by unfold cellA; rw [hx.block _ ha]
theorem Ext.cellS {h h' : Heap} (hx : Ext h.size h h') {a : Addr} {v : Value} (hc : cellA h a = some v) : cellA h' a = some v := (hx.cell (lt_of_cellA hc)).trans hc
/-- Two steps: what the first made, the second left. -/
theorem Ext.trans2 {B : Nat} {a b c : Heap} (h : Ext B a b) (k : Ext b.size b c) (hB : B ≤ b.size) : Ext B a c := h.trans (k.mono hB)

theorem ext_push (h : Heap) (o : Obj) : Ext h.size h (h.push o) := ⟨by simp, fun k hk => by rw [Array.getElem?_push, if_neg (by omega)]⟩

/-- All but the block of the slice 'v' is as it was. -/
structure Chg (v : Value) (h h' : Heap) : Prop where
  size : h.size ≤ h'.size
  block : ∀ k, k < h.size → some k ≠ v.ownBlock → h'[k]? = h[k]?

theorem Chg.refl (v : Value) (h : Heap) : Chg v h h := ⟨Nat.le_refl _, fun _ _ _ => rfl⟩
theorem Chg.of_ext {v : Value} {h h' : Heap} (hx : Ext h.size h h') : Chg v h h' := ⟨hx.size, fun k hk _ => hx.block k hk⟩
theorem Chg.cell {v : Value} {h h' : Heap} (hx : Chg v h h') {a : Addr} {u : Value} (hc : cellA h a = some u) (ha : some a.block ≠ v.ownBlock) : cellA h' a = some u := by
  have := hx.block _ (lt_of_cellA hc) ha
  unfold cellA at *
  rw [this]; exact hc

/-- The cells of a slice: it is a slice of 'n' elements, at whose address 'cs' lie. -/
def Rd (h : Heap) (v : Value) (n : Nat) (cs : List Value) : Prop :=
  ∃ a cap, v = .slice a n cap ∧ n ≤ cap ∧ (a = none → n = 0) ∧ ∀ (j : Nat) (u : Value), cs[j]? = some u → ∃ ad, a = some ad ∧ cellA h (ad.add j) = some u

theorem Rd.ext {h h' : Heap} {v : Value} {n : Nat} {cs : List Value} (hr : Rd h v n cs) {B : Nat} (hx : Ext B h h') (hB : h.size ≤ B) : Rd h' v n cs := by
  obtain ⟨a, cap, hv, h1, h2, h3⟩ := hr
  refine ⟨a, cap, hv, h1, h2, fun j u hj => ?_⟩
  obtain ⟨ad, ha, hc⟩ := h3 j u hj
  exact ⟨ad, ha, (hx.cell (Nat.lt_of_lt_of_le (lt_of_cellA hc) hB)).trans hc⟩
theorem Rd.extS {h h' : Heap} {v : Value} {n : Nat} {cs : List Value} (hr : Rd h v n cs) (hx : Ext h.size h h') : Rd h' v n cs := hr.ext hx (Nat.le_refl _)
theorem Rd.chg {h h' : Heap} {v w : Value} {n : Nat} {cs : List Value} (hr : Rd h v n cs) (hx : Chg w h h') (hd : ∀ g, v.ownBlock = some g → w.ownBlock ≠ some g) : Rd h' v n cs := by
  obtain ⟨a, cap, rfl, h1, h2, h3⟩ := hr
  refine ⟨a, cap, rfl, h1, h2, fun j u hj => ?_⟩
  obtain ⟨ad, rfl, hc⟩ := h3 j u hj
  exact ⟨ad, rfl, hx.cell hc (by rw [add_block]; exact fun e => hd _ rfl e.symm)⟩

theorem rd_nil (h : Heap) : Rd h (.slice none 0 0) 0 [] := ⟨none, 0, rfl, Nat.le_refl _, fun _ => rfl, fun j u hj => by simp at hj⟩

/-- A slice of our own: nothing, or at the head of a row from block 'B' on that may be written. -/
def Own (h : Heap) (B : Nat) (e : TypeId) (k : Nat) (v : Value) (n : Nat) (cs : List Value) : Prop :=
  cs.length = n * k ∧
  ((v = .slice none 0 0 ∧ n = 0) ∨
   ∃ g cap cur, v = .slice (some ⟨g, 0, none⟩) n cap ∧ B ≤ g ∧ h[g]? = some (.cells cur e (0, 0)) ∧ n ≤ cap ∧ cap ≤ maxLen ∧ cur.size = cap * k ∧ cur.toList.take (n * k) = cs)

theorem own_iff (w : World) {B : Nat} {e : TypeId} {k : Nat} {v : Value} {n : Nat} {cs : List Value} : w.ownsRow B e k v n cs ↔ Own w.heap B e k v n cs := Iff.rfl

theorem own_nil (h : Heap) (B : Nat) (e : TypeId) (k : Nat) : Own h B e k (.slice none 0 0) 0 [] := ⟨by simp, .inl ⟨rfl, rfl⟩⟩

theorem Own.rd {h : Heap} {B : Nat} {e : TypeId} {k : Nat} {v : Value} {n : Nat} {cs : List Value} (ho : Own h B e k v n cs) : Rd h v n cs := by
  obtain ⟨hl, h1⟩ := ho
  rcases h1 with ⟨rfl, rfl⟩ | ⟨g, cap, cur, rfl, hB, hg, hn, hm, hs, ht⟩
  · have : cs = [] := List.eq_nil_of_length_eq_zero (by simpa using hl)
    subst this
    exact rd_nil h
  · refine ⟨_, _, rfl, hn, fun h0 => (by cases h0), fun j u hj => ⟨_, rfl, ?_⟩⟩
    rw [add_lit, ← ht] at *
    unfold cellA
    rw [List.getElem?_take] at hj
    split at hj
    · simpa [hg] using hj
    · cases hj

theorem Own.lt {h : Heap} {B : Nat} {e : TypeId} {k : Nat} {v : Value} {n : Nat} {cs : List Value} (ho : Own h B e k v n cs) {g : Nat} (hg : v.ownBlock = some g) : B ≤ g ∧ g < h.size := by
  rcases ho.2 with ⟨rfl, rfl⟩ | ⟨g', cap, cur, rfl, hB, hh, _⟩
  · cases hg
  · simp only [Value.ownBlock, Option.some.injEq] at hg
    subst hg
    exact ⟨hB, (Array.getElem?_eq_some_iff.1 hh).1⟩

theorem Own.keep {h h' : Heap} {B : Nat} {e : TypeId} {k : Nat} {v : Value} {n : Nat} {cs : List Value} (ho : Own h B e k v n cs) (hk : ∀ g, v.ownBlock = some g → h'[g]? = h[g]?) : Own h' B e k v n cs := by
  refine ⟨ho.1, ?_⟩
  rcases ho.2 with h1 | ⟨g, cap, cur, rfl, hB, hh, r⟩
  · exact .inl h1
  · exact .inr ⟨g, cap, cur, rfl, hB, (hk g rfl).trans hh, r⟩
theorem Own.extS {h h' : Heap} {B : Nat} {e : TypeId} {k : Nat} {v : Value} {n : Nat} {cs : List Value} (ho : Own h B e k v n cs) (hx : Ext h.size h h') : Own h' B e k v n cs :=
  ho.keep fun g hg => hx.block g (ho.lt hg).2
theorem Own.chg {h h' : Heap} {B : Nat} {e : TypeId} {k : Nat} {v w : Value} {n : Nat} {cs : List Value} (ho : Own h B e k v n cs) (hx : Chg w h h') (hd : ∀ g, v.ownBlock = some g → w.ownBlock ≠ some g) : Own h' B e k v n cs :=
  ho.keep fun g hg => hx.block g (ho.lt hg).2 (fun e' => hd g hg e'.symm)
theorem Own.base {h : Heap} {B B' : Nat} {e : TypeId} {k : Nat} {v : Value} {n : Nat} {cs : List Value} (ho : Own h B e k v n cs) (hB : B' ≤ B) : Own h B' e k v n cs := by
  refine ⟨ho.1, ?_⟩
  rcases ho.2 with h1 | ⟨g, cap, cur, rfl, hb, r⟩
  · exact .inl h1
  · exact .inr ⟨g, cap, cur, rfl, Nat.le_trans hB hb, r⟩
theorem Chg.ext {h h' : Heap} {B : Nat} {e : TypeId} {k : Nat} {v : Value} {n : Nat} {cs : List Value} (hx : Chg v h h') (ho : Own h B e k v n cs) (hB : B ≤ h.size) : Ext B h h' :=
  ⟨hx.size, fun i hi => hx.block i (Nat.lt_of_lt_of_le hi hB) (fun e' => by have := (ho.lt e'.symm).1; omega)⟩
/-- Read, when later changes lie beyond. -/
theorem Own.rdExt {h h' : Heap} {B : Nat} {e : TypeId} {k : Nat} {v : Value} {n : Nat} {cs : List Value} (ho : Own h B e k v n cs) {B' : Nat} (hx : Ext B' h h') (hB : h.size ≤ B') : Rd h' v n cs := ho.rd.ext hx hB

/-- A block of a variable. -/
def Blk (h : Heap) (b : Nat) (cs : Array Value) (t : TypeId) : Prop := h[b]? = some (.cells cs t (0, 0))
theorem Blk.lt {h : Heap} {b : Nat} {cs : Array Value} {t : TypeId} (hb : Blk h b cs t) : b < h.size := (Array.getElem?_eq_some_iff.1 hb).1
theorem Blk.ext {h h' : Heap} {b : Nat} {cs : Array Value} {t : TypeId} (hb : Blk h b cs t) {B : Nat} (hx : Ext B h h') (hB : b < B) : Blk h' b cs t := (hx.block b hB).trans hb
theorem Blk.extS {h h' : Heap} {b : Nat} {cs : Array Value} {t : TypeId} (hb : Blk h b cs t) (hx : Ext h.size h h') : Blk h' b cs t := (hx.block b hb.lt).trans hb
theorem Blk.chg {h h' : Heap} {b : Nat} {cs : Array Value} {t : TypeId} {v : Value} (hb : Blk h b cs t) (hx : Chg v h h') (hd : v.ownBlock ≠ some b) : Blk h' b cs t := (hx.block b hb.lt (fun e => hd e.symm)).trans hb
theorem Blk.cell {h : Heap} {b : Nat} {cs : Array Value} {t : TypeId} (hb : Blk h b cs t) (o : Nat) : cellA h ⟨b, o, none⟩ = cs[o]? := by unfold cellA; rw [show h[b]? = _ from hb]; rfl

/-! ### Elements -/

/-- How an element of a Lean list lies in cells. -/
structure Enc (α : Type) where
  k : Nat
  f : α → List Value
  len : ∀ x, (f x).length = k
  one : ∀ x, ∀ u ∈ f x, u.oneCell' = true
  pos : 0 < k

def iv (x : Int) : Value := .int .i64 x
def encI : Enc Int := ⟨1, fun x => [.int .i64 x], fun _ => rfl, fun _ _ hu => by simp at hu; subst hu; rfl, Nat.one_pos⟩
def encB : Enc Bool := ⟨1, fun x => [.bool x], fun _ => rfl, fun _ _ hu => by simp at hu; subst hu; rfl, Nat.one_pos⟩
def encP : Enc (Int × Int) := ⟨2, fun x => [.int .i64 x.1, .int .i64 x.2], fun _ => rfl, fun _ _ hu => by simp at hu; rcases hu with rfl | rfl <;> rfl, by decide⟩

def gt {α : Type} [Inhabited α] (xs : List α) (i : Nat) : α := xs.getD i default
theorem gt_eq {α : Type} [Inhabited α] {xs : List α} {i : Nat} (hi : i < xs.length) : gt xs i = xs[i] := by simp [gt, hi]
theorem gt_some {α : Type} [Inhabited α] {xs : List α} {i : Nat} (hi : i < xs.length) : xs[i]? = some (gt xs i) := by simp [gt, hi]

/-- A slice that reads as a list. -/
def RdE {α : Type} (E : Enc α) (h : Heap) (v : Value) (xs : List α) : Prop := Rd h v xs.length (xs.flatMap E.f)
/-- A slice of our own that reads as a list. -/
def OwE {α : Type} (E : Enc α) (h : Heap) (B : Nat) (e : TypeId) (v : Value) (xs : List α) : Prop := Own h B e E.k v xs.length (xs.flatMap E.f)

section
variable {α : Type} {E : Enc α} {h h' : Heap} {v w : Value} {xs : List α} {B B' : Nat} {e : TypeId}
theorem RdE.ext (hr : RdE E h v xs) (hx : Ext B h h') (hB : h.size ≤ B) : RdE E h' v xs := Rd.ext hr hx hB
theorem RdE.extS (hr : RdE E h v xs) (hx : Ext h.size h h') : RdE E h' v xs := Rd.extS hr hx
theorem OwE.rd (ho : OwE E h B e v xs) : RdE E h v xs := Own.rd ho
theorem OwE.extS (ho : OwE E h B e v xs) (hx : Ext h.size h h') : OwE E h' B e v xs := Own.extS ho hx
theorem OwE.chg (ho : OwE E h B e v xs) (hx : Chg w h h') (hd : ∀ g, v.ownBlock = some g → w.ownBlock ≠ some g) : OwE E h' B e v xs := Own.chg ho hx hd
theorem OwE.base (ho : OwE E h B e v xs) (hB : B' ≤ B) : OwE E h B' e v xs := Own.base ho hB
theorem OwE.ext (ho : OwE E h B e v xs) (hx : Chg v h h') (hB : B ≤ h.size) : Ext B h h' := Chg.ext hx ho hB
theorem OwE.lt (ho : OwE E h B e v xs) {g : Nat} (hg : v.ownBlock = some g) : B ≤ g ∧ g < h.size := Own.lt ho hg
theorem owE_nil (E : Enc α) (h : Heap) (B : Nat) (e : TypeId) : OwE E h B e (.slice none 0 0) [] := own_nil h B e E.k

theorem flat_length (E : Enc α) (xs : List α) : (xs.flatMap E.f).length = xs.length * E.k := by
  induction xs with
  | nil => simp
  | cons x xs ih => simp [List.flatMap_cons, ih, E.len, Nat.add_mul, Nat.add_comm]

theorem flat_get [Inhabited α] (E : Enc α) : ∀ (xs : List α) (i j : Nat), i < xs.length → j < E.k → (xs.flatMap E.f)[i * E.k + j]? = (E.f (gt xs i))[j]?
  | [], i, j, hi, _ => absurd hi (by simp)
  | x :: xs, 0, j, _, hj => by
    have hl := E.len x
    simp only [List.flatMap_cons, Nat.zero_mul, Nat.zero_add]
    rw [List.getElem?_append_left (by omega)]
    rfl
  | x :: xs, i + 1, j, hi, hj => by
    have hl := E.len x
    simp only [List.flatMap_cons]
    rw [List.getElem?_append_right (by rw [hl, Nat.add_mul]; omega), hl]
    have : (i + 1) * E.k + j - E.k = i * E.k + j := by rw [Nat.add_mul]; omega
    rw [this, flat_get E xs i j (by simpa using hi) hj]
    rfl

theorem flat_set [Inhabited α] (E : Enc α) : ∀ (xs : List α) (i : Nat) (x : α), i < xs.length → (xs.set i x).flatMap E.f = (xs.flatMap E.f).take (i * E.k) ++ E.f x ++ (xs.flatMap E.f).drop (i * E.k + E.k)
  | [], i, x, hi => absurd hi (by simp)
  | y :: xs, 0, x, _ => by
    have hl := E.len y
    simp only [List.set_cons_zero, List.flatMap_cons, Nat.zero_mul, List.take_zero, List.nil_append, Nat.zero_add]
    rw [List.drop_append_of_le_length (by omega), List.drop_of_length_le (by omega)]
    rfl
  | y :: xs, i + 1, x, hi => by
    have hl := E.len y
    simp only [List.set_cons_succ, List.flatMap_cons]
    rw [flat_set E xs i x (by simpa using hi)]
    have e1 : (i + 1) * E.k = (E.f y).length + i * E.k := by rw [hl, Nat.add_mul]; omega
    rw [e1, List.take_length_add_append, Nat.add_assoc, List.drop_length_add_append]
    simp [List.append_assoc]
end

/-- The pointer to cell 'j' of a slice. -/
def ptrAt (v : Value) (j : Nat) : Value := match v with | .slice (some a) _ _ => .pointer (some (a.add j)) | _ => undef

/-- What the program's tables say of a slice type and its element type. -/
structure ElemT (P : Program) (ts el : TypeId) (k bytes : Nat) : Prop where
  und : P.underlying ts = some (.slice el)
  info : ∃ i z, P.info? el = some i ∧ i.zero = some z ∧ i.size = k ∧ i.bytes = bytes ∧ z.cells.size = k

theorem elemT {P : Program} {ts el : TypeId} {k bytes : Nat} {z : Value} (hu : P.underlying ts = some (.slice el))
    (hi : (P.info? el).map (fun i => (i.zero, i.size, i.bytes)) = some (some z, k, bytes)) (hz : z.cells.size = k) : ElemT P ts el k bytes := by
  obtain ⟨i, h1, h2, h3, h4⟩ := info_parts hi
  exact ⟨hu, i, z, h1, h2, h3, h4, hz⟩

theorem ElemT.size {P : Program} {ts el : TypeId} {k bytes : Nat} (hT : ElemT P ts el k bytes) (w : World) : (sizeOf el).run P w = .ok k w := by
  obtain ⟨_, i, z, h1, _, h3, _⟩ := hT
  simp [sizeOf, typeInfo, h1, h3]

end Go.X
