/-
  Slices of slices: headers, tables that read, tables of our own.
-/
import Derived.Test.YtdokijbdnajhgaaXRange
import Derived.Test.YtdokijbdnajhgaaXPlain
set_option linter.unusedSimpArgs false
set_option linter.unusedVariables false
namespace Go.X
/-- A slice's header. -/
structure Hdr where
  a : Option Addr
  n : Nat
  c : Nat
def Hdr.v (x : Hdr) : Value := .slice x.a x.n x.c
instance : Inhabited Hdr := ⟨⟨none, 0, 0⟩⟩
def hdrOf : Value → Hdr
  | .slice a n c => ⟨a, n, c⟩
  | _ => default
def encHd : Enc Hdr := ⟨1, fun x => [.slice x.a x.n x.c], fun _ => rfl, fun _ _ hu => by simp at hu; subst hu; rfl, Nat.one_pos⟩
theorem hdr_rd {h : Heap} {v : Value} {n : Nat} {cs : List Value} (hr : Rd h v n cs) : (hdrOf v).v = v := by
  obtain ⟨a, cap, rfl, _⟩ := hr; rfl
theorem hdr_cells {h : Heap} {v : Value} {n : Nat} {cs : List Value} (hr : Rd h v n cs) : v.cells.toList = encHd.f (hdrOf v) := by
  obtain ⟨a, cap, rfl, _⟩ := hr; rfl
theorem hdr_cells1 {h : Heap} {v : Value} {n : Nat} {cs : List Value} (hr : Rd h v n cs) : [v].map (fun u => u.cells.toList) = [hdrOf v].map encHd.f := by
  obtain ⟨a, cap, rfl, _⟩ := hr; rfl
theorem hdr_default : (default : Hdr).v = .slice none 0 0 := rfl
theorem hdr_v (x : Hdr) : hdrOf x.v = x := rfl

section
variable {α β : Type} {E : Enc α} {E' : Enc β} {h h' : Heap} {B B' : Nat} {e e' e2 : TypeId} {v w w' : Value} {xs ws : List α} {ys : List β} {bn : Nat} {cs : Array Value} {t : TypeId} {hs : List Hdr} {rows : List (List α)} {i : Nat}

/-- Things of our own whose cells are of different types lie apart. -/
theorem dj_ty (ho : OwE E h B e v xs) (ho' : OwE E' h B' e' w ys) (hne : e ≠ e') : Dj v w := by
  rcases ho.2 with ⟨rfl, _⟩ | ⟨g, cap, cur, rfl, _, hg, _⟩
  · exact dj_nil_l _
  · rcases ho'.2 with ⟨rfl, _⟩ | ⟨g', cap', cur', rfl, _, hg', _⟩
    · exact dj_nil_r _
    · intro k h1 h2
      simp only [Value.ownBlock, Option.some.injEq] at h1 h2
      subst h1; subst h2
      rw [hg] at hg'
      simp only [Option.some.injEq, Obj.cells.injEq] at hg'
      exact hne hg'.2.1
theorem nb_ty (ho : OwE E h B e v xs) (hb : Blk h bn cs t) (hne : e ≠ t) : v.ownBlock ≠ some bn := by
  rcases ho.2 with ⟨rfl, _⟩ | ⟨g, cap, cur, rfl, _, hg, _⟩
  · exact nb_nil _
  · intro h1
    simp only [Value.ownBlock, Option.some.injEq] at h1
    subst h1
    rw [show h[g]? = _ from hb] at hg
    simp only [Option.some.injEq, Obj.cells.injEq] at hg
    exact hne hg.2.1.symm

/-- A table that reads as rows. -/
def RT (E : Enc α) (h : Heap) (hs : List Hdr) (rows : List (List α)) : Prop := hs.length = rows.length ∧ ∀ i, i < rows.length → RdE E h (gt hs i).v (gt rows i)
theorem RT.ext (hr : RT E h hs rows) {B : Nat} (hx : Ext B h h') (hB : h.size ≤ B) : RT E h' hs rows := ⟨hr.1, fun i hi => (hr.2 i hi).ext hx hB⟩
theorem RT.extS (hr : RT E h hs rows) (hx : Ext h.size h h') : RT E h' hs rows := hr.ext hx (Nat.le_refl _)
theorem RT.cel (hr : RT E h hs rows) (hx : Cel h h') : RT E h' hs rows := ⟨hr.1, fun i hi => hx.rdE (hr.2 i hi)⟩

theorem rt_nil (E : Enc α) (h : Heap) : RT E h [] [] := ⟨rfl, fun i hi => by simp at hi⟩
theorem rt_cons {v : Value} {xs : List α} (hr : RdE E h v xs) (ht : RT E h hs rows) : RT E h (hdrOf v :: hs) (xs :: rows) := ⟨by simp [ht.1], fun i hi => by
  cases i with
  | zero => show RdE E h (hdrOf v).v xs; rw [hdr_rd hr]; exact hr
  | succ i => exact ht.2 i (by simpa using hi)⟩
theorem cells_cons {u : Value} {us : List Value} {F : Enc β} {a : β} {as : List β} (h1 : u.cells.toList = F.f a) (h2 : us.map (fun u => u.cells.toList) = as.map F.f) : (u :: us).map (fun u => u.cells.toList) = (a :: as).map F.f := by simp [h1, h2]

/-- A table whose rows are our own, each apart from the others. -/
def OT (E : Enc α) (h : Heap) (B : Nat) (e2 : TypeId) (hs : List Hdr) (rows : List (List α)) : Prop :=
  hs.length = rows.length ∧ (∀ i, i < rows.length → OwE E h B e2 (gt hs i).v (gt rows i)) ∧ (∀ i j, i < j → j < rows.length → Dj (gt hs i).v (gt hs j).v)
theorem OT.rt (ho : OT E h B e2 hs rows) : RT E h hs rows := ⟨ho.1, fun i hi => (ho.2.1 i hi).rd⟩
theorem OT.extS (ho : OT E h B e2 hs rows) (hx : Ext h.size h h') : OT E h' B e2 hs rows := ⟨ho.1, fun i hi => (ho.2.1 i hi).extS hx, ho.2.2⟩
theorem OT.cel (ho : OT E h B e2 hs rows) (hx : Cel h h') : OT E h' B e2 hs rows := ⟨ho.1, fun i hi => hx.owE (ho.2.1 i hi), ho.2.2⟩
theorem OT.base (ho : OT E h B e2 hs rows) (hB : B' ≤ B) : OT E h B' e2 hs rows := ⟨ho.1, fun i hi => (ho.2.1 i hi).base hB, ho.2.2⟩
theorem Quiet.ot {T B0 : Nat} (hq : Quiet T B0 h h') (ho : OT E h B e2 hs rows) (hne : e2 ≠ T) : OT E h' B e2 hs rows := ⟨ho.1, fun i hi => hq.owE (ho.2.1 i hi) hne, ho.2.2⟩
/-- All rows lie apart from a slice. -/
def Djt (hs : List Hdr) (w : Value) : Prop := ∀ i, i < hs.length → Dj (gt hs i).v w
def Nbt (hs : List Hdr) (bn : Nat) : Prop := ∀ i, i < hs.length → (gt hs i).v.ownBlock ≠ some bn
theorem OT.chg (ho : OT E h B e2 hs rows) (hx : Chg w h h') (hd : Djt hs w) : OT E h' B e2 hs rows := ⟨ho.1, fun i hi => (ho.2.1 i hi).chg hx (hd i (by rw [ho.1]; exact hi)), ho.2.2⟩
theorem OT.chgB (ho : OT E h B e2 hs rows) (hx : ChgB bn h h') (hd : Nbt hs bn) : OT E h' B e2 hs rows := ⟨ho.1, fun i hi => hx.owE (ho.2.1 i hi) (hd i (by rw [ho.1]; exact hi)), ho.2.2⟩
theorem OT.nil (E : Enc α) (h : Heap) (B : Nat) (e2 : TypeId) : OT E h B e2 [] [] := ⟨rfl, fun i hi => by simp at hi, fun i j _ hj => by simp at hj⟩
theorem OT.rep (E : Enc α) (h : Heap) (B : Nat) (e2 : TypeId) (n : Nat) : OT E h B e2 (List.replicate n default) (List.replicate n []) :=
  ⟨by simp, fun i hi => by
    simp only [List.length_replicate] at hi
    rw [gt_replicate hi, gt_replicate hi]; exact owE_nil E h B e2, fun i j hij hj => by
    simp only [List.length_replicate] at hj
    rw [gt_replicate hj]; exact dj_nil_r _⟩
theorem djt_ty (ho : OT E h B e2 hs rows) (ho' : OwE E' h B' e' w ys) (hne : e2 ≠ e') : Djt hs w := fun i hi => dj_ty (ho.2.1 i (by rw [← ho.1]; exact hi)) ho' hne
theorem nbt_ty (ho : OT E h B e2 hs rows) (hb : Blk h bn cs t) (hne : e2 ≠ t) : Nbt hs bn := fun i hi => nb_ty (ho.2.1 i (by rw [← ho.1]; exact hi)) hb hne
theorem nbt_new (ho : OT E h B e2 hs rows) (hb : h.size ≤ bn) : Nbt hs bn := fun i hi h1 => by
  have := ((ho.2.1 i (by rw [← ho.1]; exact hi)).lt h1).2
  omega
theorem djt_new (ho : OT E h B e2 hs rows) (hn : OwE E' h' h.size e' w ys) : Djt hs w := fun i hi => dj_new (ho.2.1 i (by rw [← ho.1]; exact hi)) hn
theorem djt_newT (ho : OwE E' h B' e' w ys) (hn : OT E h' h.size e2 hs rows) : Djt hs w := fun i hi => (dj_new ho (hn.2.1 i (by rw [← hn.1]; exact hi))).symm
theorem djt_app (h0 : Djt hs w) (ho : OT E h B e2 hs rows) (hg : ∀ g, w'.ownBlock = some g → w.ownBlock = some g ∨ h.size ≤ g) : Djt hs w' := fun i hi => dj_app (h0 i hi) (ho.2.1 i (by rw [← ho.1]; exact hi)) hg
theorem djt_eq (h0 : Djt hs w) (he : w'.ownBlock = w.ownBlock) : Djt hs w' := fun i hi => dj_eq (h0 i hi) he
theorem djt_nil (hs : List Hdr) : Djt hs (.slice none 0 0) := fun i hi => dj_nil_r _
theorem djt_nil_l (w : Value) : Djt [] w := fun i hi => by simp at hi
theorem djt_rep (n : Nat) (w : Value) : Djt (List.replicate n default) w := fun i hi => by
  simp only [List.length_replicate] at hi
  rw [gt_replicate hi]; exact dj_nil_l _
theorem djt_snoc (h0 : Djt hs w) (hr : (hdrOf w').v = w') (hd : Dj w' w) : Djt (hs ++ [hdrOf w']) w := fun i hi => by
  simp only [List.length_append, List.length_cons, List.length_nil] at hi
  by_cases c : i < hs.length
  · rw [gt_append_left c]; exact h0 i c
  · have : i = hs.length := by omega
    subst this
    rw [gt_append_right, hr]; exact hd
theorem djt_set (h0 : Djt hs w) (hr : (hdrOf w').v = w') (hd : Dj w' w) : Djt (hs.set i (hdrOf w')) w := fun j hj => by
  simp only [List.length_set] at hj
  by_cases c : i < hs.length
  · rw [gt_set c]
    split
    · rw [hr]; exact hd
    · exact h0 j hj
  · rw [List.set_eq_of_length_le (by omega)]; exact h0 j hj
/-- One more row. -/
theorem OT.snoc (ho : OT E h B e2 hs rows) (hw : OwE E h B e2 w ws) (hd : Djt hs w) : OT E h B e2 (hs ++ [hdrOf w]) (rows ++ [ws]) := by
  obtain ⟨h1, h2, h3⟩ := ho
  have hr := hdr_rd hw.rd
  refine ⟨by simp [h1], fun i hi => ?_, fun i j hij hj => ?_⟩
  · simp only [List.length_append, List.length_cons, List.length_nil] at hi
    by_cases c : i < rows.length
    · rw [gt_append_left c, gt_append_left (by omega)]; exact h2 i c
    · have e1 : i = rows.length := by omega
      subst e1
      rw [gt_append_right, ← h1, gt_append_right, hr]; exact hw
  · simp only [List.length_append, List.length_cons, List.length_nil] at hj
    rw [gt_append_left (by omega : i < hs.length)]
    by_cases c : j < rows.length
    · rw [gt_append_left (by omega)]; exact h3 i j hij c
    · have e1 : j = hs.length := by omega
      subst e1
      rw [gt_append_right, hr]; exact hd i (by omega)
/-- A row is put into its place. -/
theorem OT.set (ho : OT E h B e2 hs rows) (hi : i < rows.length) (hw : OwE E h B e2 w ws) (hd : ∀ j, j < hs.length → j ≠ i → Dj (gt hs j).v w) : OT E h B e2 (hs.set i (hdrOf w)) (rows.set i ws) := by
  obtain ⟨h1, h2, h3⟩ := ho
  have hr := hdr_rd hw.rd
  refine ⟨by simp [h1], fun j hj => ?_, fun j k hjk hk => ?_⟩
  · simp only [List.length_set] at hj
    rw [gt_set (by omega), gt_set hi]
    split
    · rw [hr]; exact hw
    · exact h2 j hj
  · simp only [List.length_set] at hk
    rw [gt_set (by omega), gt_set (by omega)]
    by_cases c1 : j = i
    · rw [if_pos c1, if_neg (by omega), hr]; exact (hd k (by omega) (by omega)).symm
    · rw [if_neg c1]
      by_cases c2 : k = i
      · rw [if_pos c2, hr]; exact hd j (by omega) c1
      · rw [if_neg c2]; exact h3 j k hjk hk
/-- A row's cells have turned. -/
theorem OT.cell (ho : OT E h B e2 hs rows) (hi : i < rows.length) (hc : Chg (gt hs i).v h h') (hw : OwE E h' B e2 (gt hs i).v ws) : OT E h' B e2 hs (rows.set i ws) := by
  obtain ⟨h1, h2, h3⟩ := ho
  refine ⟨by simp [h1], fun j hj => ?_, fun j k hjk hk => h3 j k hjk (by simpa using hk)⟩
  simp only [List.length_set] at hj
  rw [gt_set hi]
  split
  · rename_i e1; subst e1; exact hw
  · rename_i e1
    refine (h2 j hj).chg hc ?_
    rcases Nat.lt_or_gt_of_ne e1 with c | c
    · exact h3 j i c hi
    · exact (h3 i j c hj).symm
/-- A row has grown. -/
theorem OT.app (ho : OT E h B e2 hs rows) (hi : i < rows.length) (hc : Chg (gt hs i).v h h') (hw : OwE E h' B e2 w ws) (hg : ∀ g, w.ownBlock = some g → (gt hs i).v.ownBlock = some g ∨ h.size ≤ g) : OT E h' B e2 (hs.set i (hdrOf w)) (rows.set i ws) := by
  obtain ⟨h1, h2, h3⟩ := ho
  have hr := hdr_rd hw.rd
  have hne : ∀ j, j < rows.length → j ≠ i → Dj (gt hs j).v (gt hs i).v := fun j hj hji => by
    rcases Nat.lt_or_gt_of_ne hji with c | c
    · exact h3 j i c hi
    · exact (h3 i j c hj).symm
  have hd : ∀ j, j < rows.length → j ≠ i → Dj (gt hs j).v w := fun j hj hji => dj_app (hne j hj hji) (h2 j hj) hg
  refine ⟨by simp [h1], fun j hj => ?_, fun j k hjk hk => ?_⟩
  · simp only [List.length_set] at hj
    rw [gt_set (by omega), gt_set hi]
    split
    · rw [hr]; exact hw
    · rename_i c; exact (h2 j hj).chg hc (hne j hj c)
  · simp only [List.length_set] at hk
    rw [gt_set (by omega), gt_set (by omega)]
    by_cases c1 : j = i
    · rw [if_pos c1, if_neg (by omega), hr]; exact (hd k hk (by omega)).symm
    · rw [if_neg c1]
      by_cases c2 : k = i
      · rw [if_pos c2, hr]; exact hd j (by omega) c1
      · rw [if_neg c2]; exact h3 j k hjk hk
theorem djt_ne (h0 : Djt hs w) : ∀ j, j < hs.length → j ≠ i → Dj (gt hs j).v w := fun j hj _ => h0 j hj
theorem rt_len {hh : Heap} (hr : RT E hh hs rows) : hs.length = rows.length := hr.1
end
end Go.X
