/-
  The rules for variables in blocks, new memory, appends, calls.
-/
import Derived.Test.YtdokijbdnajhgaaXOpsB
set_option linter.unusedSimpArgs false
set_option linter.unusedVariables false
namespace Go.X

section
variable {P : Program} {S : Heap → Prop} {kd : Oper → Kd} {ops : Array Oper} {rest : List Oper} {K : Env → Heap → Prop} {L : List (Nat × Value)} {b : Env} {h : Heap}
variable {d : Nat} {t tx ty : TypeId} {p : String} {af : Array Edge} {g : Option (Nat × Bool)} {x y z : Operand}
variable {α : Type} {E : Enc α} {v : Value} {xs : List α} {B : Nat} {ts el : TypeId} {bytes : Nat}

/-! ### Variables in blocks -/

theorem blk_push (h : Heap) (cs : Array Value) (t : TypeId) : Blk (h.push (.cells cs t)) h.size cs t := by simp [Blk]

/-- A new variable, zero. -/
theorem lx_alloc {z0 : Value} (hw : Region.wanted ⟨some d, .alloc t, ty, p, af, g⟩ (yieldE ops (ups L b)) = true) (hk : kd ⟨some d, .alloc t, ty, p, af, g⟩ = .new) (hz : ∀ w, (zeroValue t).run P w = .ok z0 w)
    (hS : S h → ∀ h', Ext h.size h h' → S h')
    (hn : ∀ (bn : Nat) (h' : Heap), bn = h.size → Blk h' bn z0.cells t → Ext h.size h h' → h'.size = h.size + 1 → Lx P S kd ops rest K (ups ((d, .pointer (some ⟨bn, 0, none⟩)) :: L) b) h') :
    Lx P S kd ops (⟨some d, .alloc t, ty, p, af, g⟩ :: rest) K (ups L b) h :=
  lx_new hw hk fun hSh w hh => by
    subst hh
    have hrun : (execOp (ev (ups L b)) ⟨some d, .alloc t, ty, p, af, g⟩).run P w = .ok (.value (.pointer (some ⟨w.heap.size, 0, none⟩))) { w with heap := w.heap.push (.cells z0.cells t) } := by
      simp [execOp, Instr.alloc, hz, newVar, newRow, newObj, Sem.run]
    rw [hrun]
    exact ⟨⟨rfl, rfl, rfl⟩, (ext_push _ _).grow, hS hSh _ (ext_push _ _), hn _ _ rfl (blk_push _ _ _) (ext_push _ _) (by simp)⟩

/-- A new variable that holds a value. -/
theorem lx_box (cs : Array Value) (hw : Region.wanted ⟨some d, .box t x, ty, p, af, g⟩ (yieldE ops (ups L b)) = true) (hk : kd ⟨some d, .box t x, ty, p, af, g⟩ = .new) (hx : (ev (ups L b) x).cells = cs)
    (hS : S h → ∀ h', Ext h.size h h' → S h')
    (hn : ∀ (bn : Nat) (h' : Heap), bn = h.size → Blk h' bn cs t → Ext h.size h h' → h'.size = h.size + 1 → Lx P S kd ops rest K (ups ((d, .pointer (some ⟨bn, 0, none⟩)) :: L) b) h') :
    Lx P S kd ops (⟨some d, .box t x, ty, p, af, g⟩ :: rest) K (ups L b) h :=
  lx_new hw hk fun hSh w hh => by
    subst hh; subst hx
    have hrun : (execOp (ev (ups L b)) ⟨some d, .box t x, ty, p, af, g⟩).run P w = .ok (.value (.pointer (some ⟨w.heap.size, 0, none⟩))) { w with heap := w.heap.push (.cells (ev (ups L b) x).cells t) } := by
      simp [execOp, Instr.box, newVar, newRow, newObj, Sem.run]
    rw [hrun]
    exact ⟨⟨rfl, rfl, rfl⟩, (ext_push _ _).grow, hS hSh _ (ext_push _ _), hn _ _ rfl (blk_push _ _ _) (ext_push _ _) (by simp)⟩

/-- The address of a cell of an array variable. -/
theorem lx_ixB {kk : IntKind} {i len e1 k1 bn o : Nat} (o' : Nat) (hw : Region.wanted ⟨some d, .indexAddr tx x y, t, p, af, g⟩ (yieldE ops (ups L b)) = true) (hu : P.underlying tx = some (.array len e1)) (hs : ∀ w, (sizeOf e1).run P w = .ok k1 w)
    (hx : ev (ups L b) x = .pointer (some ⟨bn, o, none⟩)) (hy : ev (ups L b) y = .int kk ((i : Nat) : Int)) (hi : i < len) (ho : o + i * k1 = o')
    (hn : Lx P S kd ops rest K (ups ((d, .pointer (some ⟨bn, o', none⟩)) :: L) b) h) : Lx P S kd ops (⟨some d, .indexAddr tx x y, t, p, af, g⟩ :: rest) K (ups L b) h :=
  lx_free _ hw (fun w _ => by
    subst ho
    have h1 : ¬ len ≤ i := by omega
    simp [execOp, hx, hy, Instr.indexAt, asIntOf, run_underlying hu, hs, h1, Instr.sureAddr, add_lit]) hn

/-- A cell of a variable is read. -/
theorem lx_ldB {bn o : Nat} {cs : Array Value} {te : TypeId} (u : Value) (hw : Region.wanted ⟨some d, .load t x, ty, p, af, g⟩ (yieldE ops (ups L b)) = true) (hk : kd ⟨some d, .load t x, ty, p, af, g⟩ = .read) (hf : Flat P t) (hb : Blk h bn cs te) (hj : cs[o]? = some u) (hx : ev (ups L b) x = .pointer (some ⟨bn, o, none⟩))
    (hn : Lx P S kd ops rest K (ups ((d, u) :: L) b) h) : Lx P S kd ops (⟨some d, .load t x, ty, p, af, g⟩ :: rest) K (ups L b) h :=
  lx_read u hw (.inl hk) (fun w _ hg => by
    have hb := hb.extS hg.ext
    have hc := hb.cell o
    rw [hj] at hc
    simp [execOp, hx, Instr.loadAt, Instr.sureAddr, run_load_flat hf hc]) hn

/-- The same where the cell is known in every heap of the class. -/
theorem lx_ldS {a : Addr} (u : Value) (hw : Region.wanted ⟨some d, .load t x, ty, p, af, g⟩ (yieldE ops (ups L b)) = true) (hf : Flat P t) (hc : ∀ h', S h' → cellA h' a = some u) (hx : ev (ups L b) x = .pointer (some a))
    (hn : Lx P S kd ops rest K (ups ((d, u) :: L) b) h) : Lx P S kd ops (⟨some d, .load t x, ty, p, af, g⟩ :: rest) K (ups L b) h :=
  lx_free u hw (fun w hh => by simp [execOp, hx, Instr.loadAt, Instr.sureAddr, run_load_flat hf (hc _ hh)]) hn

/-- A whole array or struct variable is read. -/
theorem lx_ldBA {bn n : Nat} {cs : Array Value} {te : TypeId} (hw : Region.wanted ⟨some d, .load t x, ty, p, af, g⟩ (yieldE ops (ups L b)) = true) (hk : kd ⟨some d, .load t x, ty, p, af, g⟩ = .read) (hf : Wide P t n) (hb : Blk h bn cs te) (hl : cs.size = n) (hx : ev (ups L b) x = .pointer (some ⟨bn, 0, none⟩))
    (hn : Lx P S kd ops rest K (ups ((d, .agg cs) :: L) b) h) : Lx P S kd ops (⟨some d, .load t x, ty, p, af, g⟩ :: rest) K (ups L b) h :=
  lx_read _ hw (.inl hk) (fun w _ hg => by
    have hb := hb.extS hg.ext
    have h2 := run_load_wide (P := P) hf (w := w) (a := ⟨bn, 0, none⟩) (us := cs.toList) (by simpa using hl) (fun j u hju => by
      rw [add_lit, hb.cell]; simpa using hju)
    simp [execOp, hx, Instr.loadAt, Instr.sureAddr, h2]) hn

/-- A part of an array variable is read. -/
theorem lx_ldBP {bn n o : Nat} {cs : Array Value} {te : TypeId} (us : List Value) (hw : Region.wanted ⟨some d, .load t x, ty, p, af, g⟩ (yieldE ops (ups L b)) = true) (hk : kd ⟨some d, .load t x, ty, p, af, g⟩ = .read) (hf : Wide P t n) (hb : Blk h bn cs te) (hl : us.length = n) (hus : ∀ (j : Nat) (u : Value), us[j]? = some u → cs[o + j]? = some u) (hx : ev (ups L b) x = .pointer (some ⟨bn, o, none⟩))
    (hn : Lx P S kd ops rest K (ups ((d, .agg us.toArray) :: L) b) h) : Lx P S kd ops (⟨some d, .load t x, ty, p, af, g⟩ :: rest) K (ups L b) h :=
  lx_read _ hw (.inl hk) (fun w _ hg => by
    have hb := hb.extS hg.ext
    have h2 := run_load_wide (P := P) hf (w := w) (a := ⟨bn, o, none⟩) (us := us) hl (fun j u hju => by
      rw [add_lit, hb.cell]; exact hus j u hju)
    simp [execOp, hx, Instr.loadAt, Instr.sureAddr, h2]) hn

/-- All but one block is as it was. -/
structure ChgB (bn : Nat) (h h' : Heap) : Prop where
  size : h'.size = h.size
  block : ∀ k, k ≠ bn → h'[k]? = h[k]?
theorem ChgB.ext {bn B : Nat} {h h' : Heap} (hx : ChgB bn h h') (hB : B ≤ bn) : Ext B h h' := ⟨Nat.le_of_eq hx.size.symm, fun k hk => hx.block k (by omega)⟩
theorem ChgB.blk {bn b' : Nat} {h h' : Heap} {cs : Array Value} {t : TypeId} (hx : ChgB bn h h') (hb : Blk h b' cs t) (hne : b' ≠ bn) : Blk h' b' cs t := (hx.block b' hne).trans hb
theorem ChgB.own {bn : Nat} {h h' : Heap} {B : Nat} {e : TypeId} {k : Nat} {v : Value} {n : Nat} {cs : List Value} (hx : ChgB bn h h') (ho : Own h B e k v n cs) (hne : v.ownBlock ≠ some bn) : Own h' B e k v n cs :=
  ho.keep fun g hg => hx.block g (fun e' => hne (by rw [hg, e']))
theorem ChgB.rd {bn : Nat} {h h' : Heap} {v : Value} {n : Nat} {cs : List Value} (hx : ChgB bn h h') (hr : Rd h v n cs) (hne : v.ownBlock ≠ some bn) : Rd h' v n cs := by
  obtain ⟨a, cap, rfl, h1, h2, h3⟩ := hr
  refine ⟨a, cap, rfl, h1, h2, fun j u hj => ?_⟩
  obtain ⟨ad, rfl, hc⟩ := h3 j u hj
  refine ⟨ad, rfl, ?_⟩
  have := hx.block (ad.add j).block (by rw [add_block]; exact fun e => hne (by simp [Value.ownBlock, e]))
  unfold cellA at *
  rw [this]; exact hc

theorem run_store_blk {bn o : Nat} {cs : Array Value} {te : TypeId} (us : List Value) (w : World) (hb : Blk w.heap bn cs te) (hl : o + us.length ≤ cs.size) (h1 : ∀ u ∈ us, u.oneCell' = true) :
    ∃ w', (storeCells (⟨bn, o, none⟩ : Addr) us 0).run P w = .ok () w' ∧ Qt w w' ∧ Blk w'.heap bn (cs.toList.take o ++ us ++ cs.toList.drop (o + us.length)).toArray te ∧ ChgB bn w.heap w'.heap :=
  ⟨_, run_storeCells_own us cs w hb hl h1, ⟨rfl, rfl, rfl⟩, setRow_heap w bn cs _ te _ hb, ⟨by simp, fun k hk => setRow_other w bn k _ hk⟩⟩

/-- A cell of a variable is written. -/
theorem lx_stB {bn o : Nat} {cs : Array Value} {te : TypeId} (u : Value) (hw : Region.wanted ⟨none, .store t x y, ty, p, af, g⟩ (yieldE ops (ups L b)) = true) (hk : kd ⟨none, .store t x y, ty, p, af, g⟩ = .eff) (hs : ∀ w, (sizeOf t).run P w = .ok 1 w)
    (hb : Blk h bn cs te) (ho : o < cs.size) (hx : ev (ups L b) x = .pointer (some ⟨bn, o, none⟩)) (hy : ev (ups L b) y = u) (hu : u.cells = #[u]) (h1 : u.oneCell' = true)
    (hS : S h → ∀ h', Blk h' bn (cs.setIfInBounds o u) te → ChgB bn h h' → S h')
    (hn : ∀ h', Blk h' bn (cs.setIfInBounds o u) te → ChgB bn h h' → Lx P S kd ops rest K (ups L b) h') : Lx P S kd ops (⟨none, .store t x y, ty, p, af, g⟩ :: rest) K (ups L b) h :=
  lx_eff hw hk fun hSh w hh => by
    subst hh; subst hy
    obtain ⟨w', hr, hq, hb', hc⟩ := run_store_blk (P := P) (bn := bn) (o := o) [ev (ups L b) y] w hb (by simp; omega) (fun u hu' => by simp at hu'; subst hu'; exact h1)
    have e1 : (cs.toList.take o ++ [ev (ups L b) y] ++ cs.toList.drop (o + [ev (ups L b) y].length)).toArray = cs.setIfInBounds o (ev (ups L b) y) := by
      apply Array.toList_inj.1
      rw [Array.toList_setIfInBounds, List.set_eq_take_append_cons_drop, if_pos (by simpa using ho)]
      simp
    rw [e1] at hb'
    have hrun : (execOp (ev (ups L b)) ⟨none, .store t x y, ty, p, af, g⟩).run P w = .ok .skip w' := by
      simp [execOp, hx, Instr.storeAt, Instr.sureAddr, storeVar, hs, hu, hr]
    rw [hrun]
    exact ⟨hq, hS hSh _ hb' hc, hn _ hb' hc⟩

/-- A whole variable is written. -/
theorem lx_stBA {bn n : Nat} {cs : Array Value} {te : TypeId} (us : Array Value) (hw : Region.wanted ⟨none, .store t x y, ty, p, af, g⟩ (yieldE ops (ups L b)) = true) (hk : kd ⟨none, .store t x y, ty, p, af, g⟩ = .eff) (hs : ∀ w, (sizeOf t).run P w = .ok n w)
    (hb : Blk h bn cs te) (hl : cs.size = n) (hl' : us.size = n) (hx : ev (ups L b) x = .pointer (some ⟨bn, 0, none⟩)) (hy : (ev (ups L b) y).cells = us) (h1 : ∀ u ∈ us.toList, u.oneCell' = true)
    (hS : S h → ∀ h', Blk h' bn us te → ChgB bn h h' → S h')
    (hn : ∀ h', Blk h' bn us te → ChgB bn h h' → Lx P S kd ops rest K (ups L b) h') : Lx P S kd ops (⟨none, .store t x y, ty, p, af, g⟩ :: rest) K (ups L b) h :=
  lx_eff hw hk fun hSh w hh => by
    subst hh; subst hy
    obtain ⟨w', hr, hq, hb', hc⟩ := run_store_blk (P := P) (bn := bn) (o := 0) (ev (ups L b) y).cells.toList w hb (by simp; omega) h1
    have e1 : (cs.toList.take 0 ++ (ev (ups L b) y).cells.toList ++ cs.toList.drop (0 + (ev (ups L b) y).cells.toList.length)).toArray = (ev (ups L b) y).cells := by
      rw [List.drop_of_length_le (by simp; omega)]
      simp
    rw [e1] at hb'
    have hrun : (execOp (ev (ups L b)) ⟨none, .store t x y, ty, p, af, g⟩).run P w = .ok .skip w' := by
      simp [execOp, hx, Instr.storeAt, Instr.sureAddr, storeVar, hs, hl', hr]
    rw [hrun]
    exact ⟨hq, hS hSh _ hb' hc, hn _ hb' hc⟩

/-! ### Values of arrays -/

/-- A part of an array value. -/
theorem lx_index {kk : IntKind} {i len e1 : Nat} {cs : Array Value} (u : Value) (hw : Region.wanted ⟨some d, .index tx x y, t, p, af, g⟩ (yieldE ops (ups L b)) = true) (hu : P.underlying tx = some (.array len e1)) (hs : ∀ w, (sizeOf e1).run P w = .ok 1 w) (hf : Flat P e1)
    (hx : ev (ups L b) x = .agg cs) (hy : ev (ups L b) y = .int kk ((i : Nat) : Int)) (hi : i < len) (hj : cs[i]? = some u)
    (hn : Lx P S kd ops rest K (ups ((d, u) :: L) b) h) : Lx P S kd ops (⟨some d, .index tx x y, t, p, af, g⟩ :: rest) K (ups L b) h :=
  lx_free _ hw (fun w _ => by
    have h1 : ¬ len ≤ i := by omega
    simp [execOp, hx, hy, Instr.index, asIntOf, run_underlying hu, hs, h1, part, hf w, hj]) hn

/-- A literal of a struct or an array. -/
theorem lx_build {parts : Array (Nat × Operand)} (v' : Value) (ps : List (Nat × Value)) (hw : Region.wanted ⟨some d, .build t parts, ty, p, af, g⟩ (yieldE ops (ups L b)) = true) (hp : parts.toList.map (fun q => (q.1, ev (ups L b) q.2)) = ps)
    (hr : ∀ w, (Instr.build t ps.toArray).run P w = .ok v' w)
    (hn : Lx P S kd ops rest K (ups ((d, v') :: L) b) h) : Lx P S kd ops (⟨some d, .build t parts, ty, p, af, g⟩ :: rest) K (ups L b) h :=
  lx_free _ hw (fun w _ => by
    have e1 : parts.map (fun q => (q.1, ev (ups L b) q.2)) = ps.toArray := by rw [← hp, ← Array.toList_map]
    have e2 : (parts.map fun (q : Nat × Operand) => match q with | (i, x) => (i, ev (ups L b) x)) = ps.toArray := by rw [← e1]
    simp only [execOp, Sem.run_bind]
    rw [e2, hr w]
    simp) hn

end
end Go.X
