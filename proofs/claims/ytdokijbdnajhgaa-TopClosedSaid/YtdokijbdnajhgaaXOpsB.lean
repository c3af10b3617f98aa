/-
  The rules for operations on memory: slices that are read and owned, variables in blocks, calls.
-/
import Derived.Test.YtdokijbdnajhgaaXHeap
set_option linter.unusedSimpArgs false
set_option linter.unusedVariables false
namespace Go.X

section
variable {P : Program} {S : Heap → Prop} {kd : Oper → Kd} {ops : Array Oper} {rest : List Oper} {K : Env → Heap → Prop} {L : List (Nat × Value)} {b : Env} {h : Heap}
variable {d : Nat} {t tx ty : TypeId} {p : String} {af : Array Edge} {g : Option (Nat × Bool)} {x y z : Operand}
variable {α : Type} {E : Enc α} {v : Value} {xs : List α} {B : Nat} {ts el : TypeId} {bytes : Nat}

theorem lx_read {op : Op} (u : Value) (hw : Region.wanted ⟨some d, op, t, p, af, g⟩ (yieldE ops (ups L b)) = true) (hk : kd ⟨some d, op, t, p, af, g⟩ = .read ∨ kd ⟨some d, op, t, p, af, g⟩ = .eff) (hv : ReadOb P S ⟨some d, op, t, p, af, g⟩ (ups L b) h u)
    (hn : Lx P S kd ops rest K (ups ((d, u) :: L) b) h) : Lx P S kd ops (⟨some d, op, t, p, af, g⟩ :: rest) K (ups L b) h := by
  unfold Lx
  rw [if_pos hw]
  exact ob_of_read hk u hv hn

theorem lx_eff {o : Oper} (hw : Region.wanted o (yieldE ops (ups L b)) = true) (hk : kd o = .eff)
    (hv : S h → EffOb P S o (ups L b) h (fun v h' => Lx P S kd ops rest K (putE (ups L b) o.dst v) h')) : Lx P S kd ops (o :: rest) K (ups L b) h := by
  unfold Lx
  rw [if_pos hw, hk]
  exact hv

theorem lx_new {o : Oper} (hw : Region.wanted o (yieldE ops (ups L b)) = true) (hk : kd o = .new)
    (hv : S h → NewOb P S o (ups L b) h (fun v h' => Lx P S kd ops rest K (putE (ups L b) o.dst v) h')) : Lx P S kd ops (o :: rest) K (ups L b) h := by
  unfold Lx
  rw [if_pos hw, hk]
  exact hv
theorem Ext.grow {h h' : Heap} (hx : Ext h.size h h') : Grow h h' := ⟨hx.size, hx.block⟩
theorem Grow.ext {h h' : Heap} (hx : Grow h h') : Ext h.size h h' := ⟨hx.1, hx.2⟩

theorem rd_shape {hh : Heap} {n : Nat} {cs : List Value} (hr : Rd hh v n cs) : ∃ a cap, v = .slice a n cap := by
  obtain ⟨a, cap, hv, _⟩ := hr; exact ⟨a, cap, hv⟩
theorem rd_some {hh : Heap} {n : Nat} {cs : List Value} (hr : Rd hh v n cs) (hn : 0 < n) : ∃ a cap, v = .slice (some a) n cap := by
  obtain ⟨a, cap, hv, _, h2, _⟩ := hr
  cases a with
  | none => have := h2 rfl; omega
  | some a => exact ⟨a, cap, hv⟩

/-- 'len' of a slice. -/
theorem lx_len {hh : Heap} (hw : Region.wanted ⟨some d, .call ⟨.builtin .len, #[x], #[ts]⟩, t, p, af, g⟩ (yieldE ops (ups L b)) = true) (hu : P.underlying ts = some (.slice el)) (hr : RdE E hh v xs) (hx : ev (ups L b) x = v)
    (hn : Lx P S kd ops rest K (ups ((d, .int .i64 (xs.length : Int)) :: L) b) h) : Lx P S kd ops (⟨some d, .call ⟨.builtin .len, #[x], #[ts]⟩, t, p, af, g⟩ :: rest) K (ups L b) h :=
  lx_free _ hw (fun w _ => by
    obtain ⟨a, cap, rfl⟩ := rd_shape hr
    simp only [execOp, resolve, invoke, builtin, Sem.run_bind, Sem.run_pure, Result.andThen_ok, List.map_toArray, List.map_cons, List.map_nil, hx]
    simp [Builtin.len_, run_underlying hu, goInt]) hn

/-- The address of an element. -/
theorem lx_ix {hh : Heap} {kk : IntKind} {i : Nat} (hw : Region.wanted ⟨some d, .indexAddr ts x y, t, p, af, g⟩ (yieldE ops (ups L b)) = true) (hT : ElemT P ts el E.k bytes) (hr : RdE E hh v xs) (hx : ev (ups L b) x = v) (hy : ev (ups L b) y = .int kk ((i : Nat) : Int)) (hi : i < xs.length)
    (hn : Lx P S kd ops rest K (ups ((d, ptrAt v (i * E.k)) :: L) b) h) : Lx P S kd ops (⟨some d, .indexAddr ts x y, t, p, af, g⟩ :: rest) K (ups L b) h :=
  lx_free _ hw (fun w _ => by
    obtain ⟨a, cap, rfl⟩ := rd_some hr (by omega)
    have h1 : ¬ xs.length ≤ i := by omega
    simp [execOp, hx, hy, Instr.indexAt, asIntOf, run_underlying hT.und, hT.size, h1, ptrAt]) hn

/-- The address of a cell of an element that is an array. -/
theorem lx_ixP {hh : Heap} {kk : IntKind} {i j c len e1 : Nat} (hw : Region.wanted ⟨some d, .indexAddr tx x y, t, p, af, g⟩ (yieldE ops (ups L b)) = true) (hu : P.underlying tx = some (.array len e1)) (hs : ∀ w, (sizeOf e1).run P w = .ok 1 w) (hr : RdE E hh v xs) (hi : i < xs.length)
    (hx : ev (ups L b) x = ptrAt v j) (hy : ev (ups L b) y = .int kk ((c : Nat) : Int)) (hc : c < len)
    (hn : Lx P S kd ops rest K (ups ((d, ptrAt v (j + c)) :: L) b) h) : Lx P S kd ops (⟨some d, .indexAddr tx x y, t, p, af, g⟩ :: rest) K (ups L b) h :=
  lx_free _ hw (fun w _ => by
    obtain ⟨a, cap, rfl⟩ := rd_some hr (by omega)
    have h1 : ¬ len ≤ c := by omega
    simp [execOp, hx, hy, Instr.indexAt, asIntOf, run_underlying hu, hs, h1, ptrAt, Instr.sureAddr, add_add]) hn

theorem run_isAgg {tt : TypeId} {dd : TypeDesc} (hu : P.underlying tt = some dd) (w : World) : (isAgg tt).run P w = .ok (match dd with | .struct _ | .array _ _ => true | _ => false) w := by
  unfold isAgg
  rw [Sem.run_bind, run_underlying hu w]
  cases dd <;> simp

/-- A type whose values fill one cell. -/
def Flat (P : Program) (tt : TypeId) : Prop := ∀ w, (isAgg tt).run P w = .ok false w
/-- A struct or array type of 'n' cells. -/
def Wide (P : Program) (tt : TypeId) (n : Nat) : Prop := (∀ w, (isAgg tt).run P w = .ok true w) ∧ ∀ w, (sizeOf tt).run P w = .ok n w

theorem run_load_flat {tt : TypeId} (hf : Flat P tt) {w : World} {a : Addr} {u : Value} (hc : cellA w.heap a = some u) : (loadVar tt a).run P w = .ok u w := by
  have hc' : w.cell? a = some u := hc
  simp [loadVar, hf w, load, Sem.run, hc']
theorem run_load_wide {tt : TypeId} {n : Nat} (hf : Wide P tt n) {w : World} {a : Addr} {us : List Value} (hl : us.length = n) (hc : ∀ (j : Nat) (u : Value), us[j]? = some u → cellA w.heap (a.add j) = some u) : (loadVar tt a).run P w = .ok (.agg us.toArray) w := by
  have h1 := run_loadCells_list (P := P) w a us hc
  rw [hl] at h1
  simp [loadVar, hf.1 w, hf.2 w, h1]

/-- A cell of an element is read. -/
theorem lx_ld [Inhabited α] {i j : Nat} (u : Value) (hw : Region.wanted ⟨some d, .load t x, ty, p, af, g⟩ (yieldE ops (ups L b)) = true) (hk : kd ⟨some d, .load t x, ty, p, af, g⟩ = .read) (hf : Flat P t) (hr : RdE E h v xs) (hi : i < xs.length) (hj : (E.f (gt xs i))[j]? = some u) (hx : ev (ups L b) x = ptrAt v (i * E.k + j))
    (hn : Lx P S kd ops rest K (ups ((d, u) :: L) b) h) : Lx P S kd ops (⟨some d, .load t x, ty, p, af, g⟩ :: rest) K (ups L b) h :=
  lx_read u hw (.inl hk) (fun w _ hg => by
    have hr := hr.extS hg.ext
    have hjk : j < E.k := by have := (List.getElem?_eq_some_iff.1 hj).1; rwa [E.len] at this
    obtain ⟨a, cap, rfl, _, _, h3⟩ := hr
    obtain ⟨ad, rfl, hc⟩ := h3 (i * E.k + j) u (by rw [flat_get E xs i j hi hjk]; exact hj)
    simp [execOp, hx, Instr.loadAt, Instr.sureAddr, ptrAt, run_load_flat hf hc]) hn

/-- An element that is an array or a struct is read. -/
theorem lx_ldA [Inhabited α] {i : Nat} (us : List Value) (hw : Region.wanted ⟨some d, .load t x, ty, p, af, g⟩ (yieldE ops (ups L b)) = true) (hk : kd ⟨some d, .load t x, ty, p, af, g⟩ = .read) (hf : Wide P t E.k) (hr : RdE E h v xs) (hi : i < xs.length) (hj : E.f (gt xs i) = us) (hx : ev (ups L b) x = ptrAt v (i * E.k))
    (hn : Lx P S kd ops rest K (ups ((d, .agg us.toArray) :: L) b) h) : Lx P S kd ops (⟨some d, .load t x, ty, p, af, g⟩ :: rest) K (ups L b) h :=
  lx_read _ hw (.inl hk) (fun w _ hg => by
    have hr := hr.extS hg.ext
    subst hj
    have key : ∀ j u, (E.f (gt xs i))[j]? = some u → ∃ ad, (∃ cap, v = .slice (some ad) xs.length cap) ∧ cellA w.heap ((ad.add (i * E.k)).add j) = some u := by
      intro j u hju
      have hjk : j < E.k := by have := (List.getElem?_eq_some_iff.1 hju).1; rwa [E.len] at this
      obtain ⟨a, cap, rfl, _, _, h3⟩ := hr
      obtain ⟨ad, rfl, hc⟩ := h3 (i * E.k + j) u (by rw [flat_get E xs i j hi hjk]; exact hju)
      exact ⟨ad, ⟨cap, rfl⟩, by rw [add_add]; exact hc⟩
    obtain ⟨a, cap, rfl⟩ := rd_some hr (by omega)
    have h2 := run_load_wide (P := P) hf (w := w) (a := a.add (i * E.k)) (us := E.f (gt xs i)) (E.len _) (fun j u hju => by
      obtain ⟨ad, ⟨cap', hv⟩, hc⟩ := key j u hju
      cases hv
      exact hc)
    simp [execOp, hx, Instr.loadAt, Instr.sureAddr, ptrAt, h2]) hn

/-! ### Storing into a row of our own -/

theorem run_storeCells_own {g0 o : Nat} {e0 : TypeId} (us : List Value) (cur : Array Value) (w : World) (hg : w.heap[g0]? = some (.cells cur e0 (0, 0))) (hl : o + us.length ≤ cur.size) (h1 : ∀ u ∈ us, u.oneCell' = true) :
    (storeCells (⟨g0, o, none⟩ : Addr) us 0).run P w = .ok () (w.setRow g0 (cur.toList.take o ++ us ++ cur.toList.drop (o + us.length)).toArray) := by
  have := run_storeCells_at P g0 o e0 us 0 cur w hg (by simpa using hl) h1
  simpa using this

/-- An element of a slice of our own is written. -/
theorem lx_st [Inhabited α] {i : Nat} (a : α) (hw : Region.wanted ⟨none, .store t x y, ty, p, af, g⟩ (yieldE ops (ups L b)) = true) (hk : kd ⟨none, .store t x y, ty, p, af, g⟩ = .eff) (hs : ∀ w, (sizeOf t).run P w = .ok E.k w)
    (ho : OwE E h B el v xs) (hi : i < xs.length) (hx : ev (ups L b) x = ptrAt v (i * E.k)) (hy : (ev (ups L b) y).cells.toList = E.f a)
    (hS : S h → ∀ h', OwE E h' B el v (xs.set i a) → Chg v h h' → h'.size = h.size → S h')
    (hn : ∀ h', OwE E h' B el v (xs.set i a) → Chg v h h' → h'.size = h.size → Lx P S kd ops rest K (ups L b) h') : Lx P S kd ops (⟨none, .store t x y, ty, p, af, g⟩ :: rest) K (ups L b) h :=
  lx_eff hw hk fun hSh w hh => by
    subst hh
    obtain ⟨hl, hcase⟩ := ho
    have hpos := E.pos
    rcases hcase with ⟨_, h0⟩ | ⟨gb, cap, cur, rfl, hB, hg, hn', hm, hcs, ht⟩
    · omega
    have hlen := E.len a
    have hik : i * E.k + E.k ≤ xs.length * E.k := by
      have : (i + 1) * E.k ≤ xs.length * E.k := Nat.mul_le_mul_right _ hi
      rw [Nat.add_mul] at this; omega
    have hcap : xs.length * E.k ≤ cap * E.k := Nat.mul_le_mul_right _ hn'
    have hst := run_storeCells_own (P := P) (g0 := gb) (o := i * E.k) (E.f a) cur w hg (by rw [hlen, hcs]; omega) (E.one a)
    have hrun : (execOp (ev (ups L b)) ⟨none, .store t x y, ty, p, af, g⟩).run P w = .ok .skip (w.setRow gb (cur.toList.take (i * E.k) ++ E.f a ++ cur.toList.drop (i * E.k + (E.f a).length)).toArray) := by
      have e1 : (ev (ups L b) y).cells.size = E.k := by rw [← Array.length_toList, hy, hlen]
      simp [execOp, hx, ptrAt, add_lit, Instr.storeAt, Instr.sureAddr, storeVar, hs, e1, hy, hst]
    rw [hrun]
    have hch : Chg (.slice (some ⟨gb, 0, none⟩) xs.length cap) w.heap (w.setRow gb (cur.toList.take (i * E.k) ++ E.f a ++ cur.toList.drop (i * E.k + (E.f a).length)).toArray).heap :=
      ⟨by simp, fun k' _ hk' => setRow_other w gb k' _ (fun e => hk' (by simp [Value.ownBlock, e]))⟩
    have hown : OwE E (w.setRow gb (cur.toList.take (i * E.k) ++ E.f a ++ cur.toList.drop (i * E.k + (E.f a).length)).toArray).heap B el (.slice (some ⟨gb, 0, none⟩) xs.length cap) (xs.set i a) := by
      refine ⟨by rw [flat_length], .inr ⟨gb, cap, _, by simp, hB, setRow_heap w gb cur _ el _ hg, by simpa using hn', hm, ?_, ?_⟩⟩
      · simp only [List.size_toArray, List.length_append, List.length_take, List.length_drop, Array.length_toList]
        rw [hlen]
        omega
      · rw [flat_set E xs i a hi, ← ht, hlen]
        have hcl : cur.toList.length = cap * E.k := by rw [Array.length_toList]; exact hcs
        simp only [List.length_set]
        rw [List.take_append, List.take_append, List.take_take, List.take_take, List.length_append, List.length_take, hlen, hcl]
        rw [show min (i * E.k) (cap * E.k) = i * E.k from by omega, show min (xs.length * E.k) (i * E.k) = i * E.k from by omega, show min (i * E.k) (xs.length * E.k) = i * E.k from by omega]
        rw [List.take_of_length_le (l := E.f a) (by rw [hlen]; omega), List.drop_take]
    have hsz : (w.setRow gb (cur.toList.take (i * E.k) ++ E.f a ++ cur.toList.drop (i * E.k + (E.f a).length)).toArray).heap.size = w.heap.size := by simp
    exact ⟨⟨rfl, rfl, rfl⟩, hS hSh _ hown hch hsz, hn _ hown hch hsz⟩

/-- 'x[:n]', 'x[a:b]' of a slice that is read. -/
theorem lx_slice {hh : Heap} {el : TypeId} {n : Nat} {cs : List Value} {lo hi : Option Operand} (l u : Nat) (hw : Region.wanted ⟨some d, .slice ts x lo hi none, t, p, af, g⟩ (yieldE ops (ups L b)) = true) (hT : ElemT P ts el E.k bytes) (hx : ev (ups L b) x = v)
    (hlo : (match lo with | none => l = 0 | some o => ∃ k', ev (ups L b) o = .int k' ((l : Nat) : Int))) (hhi : (match hi with | none => u = n | some o => ∃ k', ev (ups L b) o = .int k' ((u : Nat) : Int)))
    (hr : Rd hh v n cs) (hlu : l ≤ u) (hun : u ≤ n)
    (hn : ∀ v', (∀ h' , Rd h' v n cs → cs.length = n * E.k → Rd h' v' (u - l) ((cs.drop (l * E.k)).take ((u - l) * E.k))) → (l = 0 → v'.ownBlock = v.ownBlock ∧ ∀ h' B e, Own h' B e E.k v n cs → Own h' B e E.k v' u (cs.take (u * E.k))) → Lx P S kd ops rest K (ups ((d, v') :: L) b) h) :
    Lx P S kd ops (⟨some d, .slice ts x lo hi none, t, p, af, g⟩ :: rest) K (ups L b) h := by
  obtain ⟨a, cap, rfl, hc, ha, _⟩ := hr
  refine lx_free (.slice (if cap = l then a else a.map (·.add (l * E.k))) (u - l) (cap - l)) hw (fun w _ => ?_) (hn _ ?_ ?_)
  · have h1 : ∀ w, (Instr.sliceBounds true n cap (lo.map (ev (ups L b))) (hi.map (ev (ups L b))) none).run P w = .ok (l, u, cap) w := by
      intro w
      cases lo with
      | none =>
        simp only at hlo
        subst hlo
        cases hi with
        | none => simp only at hhi; subst hhi; simp [Instr.sliceBounds]
        | some o =>
          obtain ⟨k', ho⟩ := hhi
          have h2 : u ≤ cap := by omega
          simp [Instr.sliceBounds, Instr.sliceBound, ho, asIntOf, h2]
      | some o1 =>
        obtain ⟨k1, ho1⟩ := hlo
        cases hi with
        | none => simp only at hhi; subst hhi; simp [Instr.sliceBounds, Instr.sliceBound, ho1, asIntOf, hlu]
        | some o =>
          obtain ⟨k', ho⟩ := hhi
          have h2 : u ≤ cap := by omega
          simp [Instr.sliceBounds, Instr.sliceBound, ho, ho1, asIntOf, h2, hlu]
    simp [execOp, hx, Instr.sliceAt, Instr.slice, run_underlying hT.und, h1, hT.size]
  · intro h' hr' hlen
    obtain ⟨a', cap', he, h1, h2, h3⟩ := hr'
    cases he
    refine ⟨_, _, rfl, by omega, ?_, ?_⟩
    · intro h0
      have : a = none := by
        split at h0
        · exact h0
        · cases a <;> simp_all
      have := h2 this
      omega
    · intro j w hj
      rw [List.getElem?_take] at hj
      split at hj
      · rename_i hjl
        rw [List.getElem?_drop] at hj
        obtain ⟨ad, rfl, hcell⟩ := h3 _ _ hj
        by_cases hcl : cap = l
        · have : (u - l) * E.k = 0 := by rw [show u - l = 0 from by omega]; simp
          omega
        · exact ⟨ad.add (l * E.k), by simp [hcl], by rw [add_add]; exact hcell⟩
      · cases hj
  · intro h0
    subst h0
    have e1 : (if cap = 0 then a else a.map (·.add (0 * E.k))) = a := by
      split
      · rfl
      · cases a <;> simp [add_zero]
    rw [e1]
    refine ⟨by cases a <;> rfl, fun h' B' e' ho => ?_⟩
    obtain ⟨hl, hcase⟩ := ho
    refine ⟨by rw [List.length_take, hl]; have := Nat.mul_le_mul_right E.k hun; omega, ?_⟩
    rcases hcase with ⟨h1, h2⟩ | ⟨g', cap', cur, h1, hB, hg, hn', hm, hcs, ht⟩
    · cases h1
      exact .inl ⟨by simp; omega, by omega⟩
    · cases h1
      refine .inr ⟨g', cap, cur, by simp, hB, hg, by omega, hm, hcs, ?_⟩
      rw [← ht, List.take_take]
      congr 1
      have := Nat.mul_le_mul_right E.k hun
      omega

end
end Go.X
