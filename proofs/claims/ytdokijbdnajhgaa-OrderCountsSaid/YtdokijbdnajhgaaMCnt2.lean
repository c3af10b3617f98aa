/-
  Texts in one: XOpsD, XOpsE, XCells, XDisj, XRange, XPlain, XTab, OTypes, XOrd.
-/
import Derived.Test.YtdokijbdnajhgaaMCnt1
import Derived.Laws.StructEq
import Derived.Laws.Rows
import Derived.Below
import Derived.Test.YtdokijbdnajhgaaRows
import Derived.KernelRfl
set_option linter.unusedSimpArgs false
set_option linter.unusedVariables false
namespace Go.X

section
variable {P : Program} {S : Heap → Prop} {kd : Oper → Kd} {ops : Array Oper} {rest : List Oper} {K : Env → Heap → Prop} {L : List (Nat × Value)} {b : Env} {h : Heap}
variable {d d2 : Nat} {t t2 tx ty : TypeId} {p p2 : String} {af af2 : Array Edge} {g g2 : Option (Nat × Bool)} {x y z : Operand}
variable {α : Type} {E : Enc α} {v : Value} {xs : List α} {B : Nat} {ts el : TypeId} {bytes : Nat}

/-! ### A slice literal -/

theorem foldl_set_cells (us : List Value) : ∀ (m o : Nat) (cs : Array Value), o + m + us.length ≤ cs.size →
    ((us.zipIdx m).foldl (fun cs (q : Value × Nat) => cs.setIfInBounds (o + q.2) q.1) cs).toList = cs.toList.take (o + m) ++ us ++ cs.toList.drop (o + m + us.length) := by
  induction us with
  | nil => intro m o cs _; simp
  | cons u us ih =>
    intro m o cs hl
    simp only [List.zipIdx_cons, List.foldl_cons]
    rw [ih (m + 1) o _ (by simp at hl ⊢; omega)]
    simp only [Array.toList_setIfInBounds, List.length_cons] at hl ⊢
    have hlt : o + m < cs.toList.length := by simp; omega
    rw [List.set_eq_take_append_cons_drop, if_pos hlt]
    have e1 : (cs.toList.take (o + m)).length = o + m := by simp; omega
    rw [show o + (m + 1) = (o + m) + 1 from by omega, List.take_append, e1]
    rw [List.take_of_length_le (by rw [e1]; omega), show o + m + 1 - (o + m) = 1 from by omega]
    simp only [List.take_succ_cons, List.take_zero]
    rw [List.drop_append, e1, List.drop_of_length_le (by rw [e1]; omega), show o + m + 1 + us.length - (o + m) = us.length + 1 from by omega]
    simp only [List.drop_succ_cons, List.nil_append, List.drop_drop]
    simp [List.append_assoc]
    congr 1
    omega

theorem fill_all (E : Enc α) (us : List Value) (hus : us.map (fun u => u.cells.toList) = xs.map E.f) : ∀ (i : Nat) (cs : Array Value), cs.size = (i + us.length) * E.k →
    (Instr.fill (fun i => some (i * E.k, E.k)) cs ((us.zipIdx i).map fun q => (q.2, q.1))).map Array.toList = some (cs.toList.take (i * E.k) ++ xs.flatMap E.f) := by
  induction us generalizing xs with
  | nil =>
    intro i cs hl
    have : xs = [] := by cases xs <;> simp_all
    subst this
    simp at hl
    simp only [List.zipIdx_nil, List.map_nil, Instr.fill, Option.map_some, List.flatMap_nil, List.append_nil]
    rw [List.take_of_length_le (by simp; omega)]
  | cons u us ih =>
    intro i cs hl
    cases xs with
    | nil => simp at hus
    | cons x xs =>
      simp only [List.map_cons, List.cons.injEq] at hus
      obtain ⟨h1, h2⟩ := hus
      have hus : u.cells.size = E.k := by rw [← Array.length_toList, h1, E.len]
      have hik : i * E.k + E.k ≤ cs.size := by
        rw [hl, List.length_cons, Nat.add_mul, Nat.add_mul]; omega
      simp only [List.zipIdx_cons, List.map_cons, Instr.fill]
      have hc : (u.cells.size ≠ E.k || decide (i * E.k + u.cells.size > cs.size)) = false := by
        simp [hus]; omega
      rw [hc]
      simp only [Bool.false_eq_true, if_false]
      have hzip : ∀ c0 : Array Value, u.cells.zipIdx.foldl (fun cs (q : Value × Nat) => match q with | (c, j) => cs.setIfInBounds (i * E.k + j) c) c0 = (u.cells.toList.zipIdx.foldl (fun cs (q : Value × Nat) => cs.setIfInBounds (i * E.k + q.2) q.1) c0) := by
        intro c0
        rw [← Array.foldl_toList, Array.toList_zipIdx]
      rw [hzip]
      have h3 := foldl_set_cells (E.f x) 0 (i * E.k) cs (by rw [E.len]; simpa using hik)
      rw [h1]
      have hsz : ((E.f x).zipIdx.foldl (fun cs (q : Value × Nat) => cs.setIfInBounds (i * E.k + q.2) q.1) cs).size = cs.size := by
        rw [← Array.length_toList, h3]
        simp [E.len]
        omega
      rw [ih h2 (i + 1) _ (by rw [hsz, hl, List.length_cons]; congr 1; omega), h3]
      congr 1
      simp only [Nat.add_zero, List.flatMap_cons]
      rw [show (i + 1) * E.k = i * E.k + E.k from by rw [Nat.add_mul]; omega, E.len, ← List.append_assoc]
      congr 1
      rw [List.take_append, List.take_append, List.length_append, List.length_take, E.len, Array.length_toList]
      rw [show min (i * E.k) cs.size = i * E.k from by omega, show i * E.k + E.k - (i * E.k + E.k) = 0 from by omega, show i * E.k + E.k - i * E.k = E.k from by omega]
      rw [List.take_take, show min (i * E.k + E.k) (i * E.k) = i * E.k from by omega, List.take_of_length_le (l := E.f x) (by rw [E.len]; omega)]
      simp

/-- 'make' at any length, and literals, lay a row at the heap's end. -/
theorem owE_push {w : World} {cs : Array Value} (hcs : cs.toList = xs.flatMap E.f) (hB : B ≤ w.heap.size) (hm : xs.length ≤ maxLen) :
    OwE E (w.heap.push (.cells cs el)) B el (.slice (some ⟨w.heap.size, 0, none⟩) xs.length xs.length) xs := by
  have hl : cs.size = xs.length * E.k := by rw [← Array.length_toList, hcs, flat_length]
  exact ⟨flat_length E xs, .inr ⟨w.heap.size, xs.length, cs, rfl, hB, by simp, Nat.le_refl _, hm, hl, by rw [hcs, List.take_of_length_le (by rw [flat_length]; omega)]⟩⟩

theorem run_buildSlice (hT : ElemT P ts el E.k bytes) (us : List Value) (hus : us.map (fun u => u.cells.toList) = xs.map E.f) (hlen : us.length * E.k ≤ 16777216) (w : World) :
    ∃ cs : Array Value, cs.toList = xs.flatMap E.f ∧
      (Instr.buildSlice ts us.length (us.zipIdx.map fun q => (q.2, q.1)).toArray).run P w = .ok (.slice (some ⟨w.heap.size, 0, none⟩) us.length us.length) { w with heap := w.heap.push (.cells cs el) } := by
  obtain ⟨hu, i, z0, h1, h2, h3, h4, h5⟩ := hT
  have hz : ∀ w, (zeroValue el).run P w = .ok z0 w := by intro w; simp [zeroValue, typeInfo, h1, h2]
  have hs : ∀ w, (sizeOf el).run P w = .ok E.k w := by intro w; simp [sizeOf, typeInfo, h1, h3]
  have key : ∀ zero : Array Value, ∃ cs : Array Value, cs.toList = xs.flatMap E.f ∧ Instr.fill (fun i => some (i * E.k, E.k)) ((Array.range (us.length * E.k)).map (fun j => zero[j % zero.size]!)) (us.zipIdx.map fun q => (q.2, q.1)) = some cs := by
    intro zero
    have h6 := fill_all E us hus 0 ((Array.range (us.length * E.k)).map (fun j => zero[j % zero.size]!)) (by simp)
    cases hf : Instr.fill (fun i => some (i * E.k, E.k)) ((Array.range (us.length * E.k)).map (fun j => zero[j % zero.size]!)) (us.zipIdx.map fun q => (q.2, q.1)) with
    | none => rw [hf] at h6; simp at h6
    | some cs =>
      rw [hf] at h6
      simp only [Option.map_some, Option.some.injEq, Nat.zero_mul, List.take_zero, List.nil_append] at h6
      exact ⟨cs, h6, rfl⟩
  have hne : ¬ us.length * E.k > 2 ^ 24 := by omega
  by_cases h0 : us.length * E.k = 0
  · obtain ⟨cs, hcs, hf⟩ := key #[]
    refine ⟨cs, hcs, ?_⟩
    simp only [Instr.buildSlice, Sem.run_bind, run_underlying hu, Result.andThen_ok, hs]
    rw [if_neg hne, if_pos h0]
    simp only [Sem.run_bind, Sem.run_pure, Result.andThen_ok]
    rw [hf]
    simp [newRow, newObj, Sem.run]
  · obtain ⟨cs, hcs, hf⟩ := key z0.cells
    refine ⟨cs, hcs, ?_⟩
    simp only [Instr.buildSlice, Sem.run_bind, run_underlying hu, Result.andThen_ok, hs]
    rw [if_neg hne, if_neg h0]
    simp only [Sem.run_bind, hz, Sem.run_pure, Result.andThen_ok]
    rw [hf]
    simp [newRow, newObj, Sem.run]

/-- A slice literal: 'xs' are its elements. -/
theorem lx_buildSlice {n : Nat} {parts : Array (Nat × Operand)} (B : Nat) (xs : List α) (us : List Value) (hw : Region.wanted ⟨some d, .buildSlice ts n parts, t, p, af, g⟩ (yieldE ops (ups L b)) = true) (hk : kd ⟨some d, .buildSlice ts n parts, t, p, af, g⟩ = .new)
    (hT : ElemT P ts el E.k bytes) (hp : parts.toList.map (fun q => (q.1, ev (ups L b) q.2)) = us.zipIdx.map (fun q => (q.2, q.1))) (hl : us.length = n) (hus : us.map (fun u => u.cells.toList) = xs.map E.f) (hlen : Nat.ble (n * E.k) 16777216 = true) (hB : B ≤ h.size)
    (hS : S h → ∀ h', Ext h.size h h' → S h')
    (hn : ∀ v h', OwE E h' B el v xs → Ext h.size h h' → v.ownBlock = some h.size → h'.size = h.size + 1 → Lx P S kd ops rest K (ups ((d, v) :: L) b) h') :
    Lx P S kd ops (⟨some d, .buildSlice ts n parts, t, p, af, g⟩ :: rest) K (ups L b) h :=
  lx_new hw hk fun hSh w hh => by
    subst hh; subst hl
    have hxl : us.length = xs.length := by have := congrArg List.length hus; simpa using this
    have hlen := Nat.le_of_ble_eq_true hlen
    obtain ⟨cs, hcs, hrun⟩ := run_buildSlice (P := P) hT us hus hlen w
    have e2 : (parts.map fun (q : Nat × Operand) => match q with | (i, x) => (i, ev (ups L b) x)) = (us.zipIdx.map fun q => (q.2, q.1)).toArray := by
      rw [← hp, ← Array.toList_map]
    have hrun2 : (execOp (ev (ups L b)) ⟨some d, .buildSlice ts us.length parts, t, p, af, g⟩).run P w = .ok (.value (.slice (some ⟨w.heap.size, 0, none⟩) us.length us.length)) { w with heap := w.heap.push (.cells cs el) } := by
      simp only [execOp, Sem.run_bind]
      rw [e2, hrun]
      simp
    rw [hrun2]
    have hE : 0 < E.k := E.pos
    refine ⟨⟨rfl, rfl, rfl⟩, (ext_push _ _).grow, hS hSh _ (ext_push _ _), hn _ _ ?_ (ext_push _ _) rfl (by simp)⟩
    rw [hxl]
    refine owE_push hcs hB ?_
    have : xs.length * 1 ≤ xs.length * E.k := Nat.mul_le_mul_left _ E.pos
    rw [hxl] at hlen
    unfold maxLen
    omega

/-! ### Appends -/

theorem run_append_any (hT : ElemT P ts el E.k bytes) {w : World} {vy : Value} {ys : List α} (ho : OwE E w.heap B el v xs) (hy : RdE E w.heap vy ys) (hm : xs.length + ys.length ≤ maxLen) (hb : (xs.length + ys.length) * bytes ≤ 140737488355328) (hB : B ≤ w.heap.size) (ty : TypeId) :
    ∃ v' w', (Builtin.append_ #[ts, ts] ty #[v, vy]).run P w = .ok v' w' ∧ Qt w w' ∧ OwE E w'.heap B el v' (xs ++ ys) ∧ Chg v w.heap w'.heap ∧ (∀ g, v'.ownBlock = some g → v.ownBlock = some g ∨ w.heap.size ≤ g) := by
  obtain ⟨hu, i, z0, h1, h2, h3, h4, h5⟩ := hT
  obtain ⟨a, cap, rfl, hc, ha, hcell⟩ := hy
  cases a with
  | none =>
    have hy0 : ys = [] := List.eq_nil_of_length_eq_zero (ha rfl)
    subst hy0
    have : (Builtin.append_ #[ts, ts] ty #[v, .slice none ([] : List α).length cap]).run P w = .ok v w := by
      rcases ho.2 with ⟨rfl, h0⟩ | ⟨g, cap, cur, rfl, _, _, hnc, _⟩
      · simp [Builtin.append_, run_underlying hu, sizeOf, typeInfo, h1, Builtin.lenOf, Builtin.firstCells]
      · simp [Builtin.append_, run_underlying hu, sizeOf, typeInfo, h1, Builtin.lenOf, Builtin.firstCells, hnc, storeCells]
    exact ⟨v, w, this, Qt.refl _, by simpa using ho, Chg.refl _ _, fun g hg => .inl hg⟩
  | some ad =>
    have hone : ∀ u ∈ ys.flatMap E.f, u.oneCell' = true := by
      intro u hu'
      obtain ⟨y, _, hy⟩ := List.mem_flatMap.1 hu'
      exact E.one y u hy
    obtain ⟨v', w', hr, r1, r2, _⟩ := run_append_own (P := P) w B ts ty el i z0 E.k bytes hu h1 h2 h3 h4 h5 E.pos v xs.length (xs.flatMap E.f) ho ad ys.length cap (ys.flatMap E.f) (flat_length E ys)
      (fun j u hj => by obtain ⟨ad', he, hc'⟩ := hcell j u hj; cases he; exact hc') hone hm hb hB
    refine ⟨v', w', hr, ⟨r2.os, r2.tape, r2.output⟩, ?_, ⟨r2.size, r2.block⟩, ?_⟩
    · unfold OwE
      rw [List.length_append, List.flatMap_append]
      exact r1
    · have hcell' : ∀ j u, (ys.flatMap E.f)[j]? = some u → w.cell? (ad.add j) = some u := fun j u hj => by obtain ⟨ad', he, hc'⟩ := hcell j u hj; cases he; exact hc'
      have hsmall : xs.length + ys.length ≤ 9223372036854775807 := by simp only [maxLen] at hm; omega
      have h3' : i.size = E.k := h3
      rcases ho.2 with ⟨rfl, h0⟩ | ⟨g, cap', cur, rfl, hbg, hg, hnc, hcm, hcs, htake⟩
      · by_cases hy0 : ys.length = 0
        · have hf : ys.flatMap E.f = [] := by rw [List.eq_nil_of_length_eq_zero hy0]; rfl
          have : (Builtin.append_ #[ts, ts] ty #[.slice none 0 0, .slice (some ad) ys.length cap]).run P w = .ok (.slice none 0 0) w := by
            rw [hy0]
            simp [Builtin.append_, run_underlying hu, sizeOf, typeInfo, h1, Builtin.lenOf, Builtin.firstCells, loadCells, loadCellsFrom]
          rw [this] at hr
          cases hr
          intro g hg; cases hg
        · have := run_append_nil (P := P) w ts ty el i z0 hu h1 h2 ad ys.length cap (ys.flatMap E.f) (by rw [flat_length, h3']) hcell' (by omega) (by omega) (by rw [h4]; have hb' := hb; rw [Nat.add_mul] at hb'; omega)
          rw [this] at hr
          cases hr
          intro g hg; simp [Value.ownBlock] at hg; omega
      · by_cases hroom : xs.length + ys.length ≤ cap'
        · have := run_append_room (P := P) w ts ty el i hu h1 g xs.length cap' cur hg ad ys.length cap (ys.flatMap E.f) (by rw [flat_length, h3']) hcell' hone hroom (by rw [flat_length, hcs, h3', ← Nat.add_mul]; exact Nat.mul_le_mul_right _ hroom)
          rw [this] at hr
          cases hr
          intro g' hg'; exact .inl hg'
        · have := run_append_grow (P := P) w ts ty el i z0 hu h1 h2 ⟨g, 0, none⟩ xs.length cap' (xs.flatMap E.f) (by rw [flat_length, h3']) (fun j u hj => by
              have hrd := Own.rd ho
              obtain ⟨_, _, he, _, _, h3c⟩ := hrd
              cases he
              obtain ⟨ad', he', hc'⟩ := h3c j u hj
              cases he'
              exact hc') ad ys.length cap (ys.flatMap E.f) (by rw [flat_length, h3']) hcell' (by omega) (by omega) (growslice_fits (by omega) (by rw [h4]; exact hb))
          rw [this] at hr
          cases hr
          intro g' hg'; simp [Value.ownBlock] at hg'; omega

/-- 'append(s, y...)': 's' our own, 'y' read. -/
theorem lx_append {vy : Value} {ys : List α} (hw : Region.wanted ⟨some d, .call ⟨.builtin .append, #[x, y], #[ts, ts]⟩, t, p, af, g⟩ (yieldE ops (ups L b)) = true) (hk : kd ⟨some d, .call ⟨.builtin .append, #[x, y], #[ts, ts]⟩, t, p, af, g⟩ = .eff)
    (hT : ElemT P ts el E.k bytes) (ho : OwE E h B el v xs) (hy : RdE E h vy ys) (hx' : ev (ups L b) x = v) (hy' : ev (ups L b) y = vy) (hm : xs.length + ys.length ≤ 4611686018427387904) (hb : (xs.length + ys.length) * bytes ≤ 140737488355328) (hB : B ≤ h.size)
    (hS : ∀ h', Chg v h h' → S h')
    (hn : ∀ v' h', OwE E h' B el v' (xs ++ ys) → Chg v h h' → (∀ g, v'.ownBlock = some g → v.ownBlock = some g ∨ h.size ≤ g) → Lx P S kd ops rest K (ups ((d, v') :: L) b) h') :
    Lx P S kd ops (⟨some d, .call ⟨.builtin .append, #[x, y], #[ts, ts]⟩, t, p, af, g⟩ :: rest) K (ups L b) h :=
  lx_eff hw hk fun _ w hh => by
    subst hh
    obtain ⟨v', w', hr, hq, ho', hc, hg⟩ := run_append_any (P := P) hT ho hy (by unfold maxLen; omega) hb hB t
    have hrun : (execOp (ev (ups L b)) ⟨some d, .call ⟨.builtin .append, #[x, y], #[ts, ts]⟩, t, p, af, g⟩).run P w = .ok (.value v') w' := by
      simp only [execOp, resolve, invoke, builtin, Sem.run_bind, Sem.run_pure, Result.andThen_ok, List.map_toArray, List.map_cons, List.map_nil, hx', hy', hr]
    rw [hrun]
    exact ⟨hq, hS _ hc, hn _ _ ho' hc hg⟩

/-- 'append(s, x1, .., xm)': the literal and the append behind it. -/
theorem lx_appendL {n : Nat} {parts : Array (Nat × Operand)} (ys : List α) (us : List Value)
    (hw : Region.wanted ⟨some d, .buildSlice ts n parts, t, p, af, g⟩ (yieldE ops (ups L b)) = true) (hk : kd ⟨some d, .buildSlice ts n parts, t, p, af, g⟩ = .new)
    (hw2 : ∀ u, Region.wanted ⟨some d2, .call ⟨.builtin .append, #[x, .tmp d], #[ts, ts]⟩, t2, p2, af2, g2⟩ (yieldE ops (ups ((d, u) :: L) b)) = true) (hk2 : kd ⟨some d2, .call ⟨.builtin .append, #[x, .tmp d], #[ts, ts]⟩, t2, p2, af2, g2⟩ = .eff)
    (hT : ElemT P ts el E.k bytes) (hp : parts.toList.map (fun q => (q.1, ev (ups L b) q.2)) = us.zipIdx.map (fun q => (q.2, q.1))) (hl : us.length = n) (hus : us.map (fun u => u.cells.toList) = ys.map E.f) (hlen : Nat.ble (n * E.k) 16777216 = true)
    (ho : OwE E h B el v xs) (hx' : ∀ u, ev (ups ((d, u) :: L) b) x = v) (hm : xs.length + ys.length ≤ 4611686018427387904) (hb : (xs.length + ys.length) * bytes ≤ 140737488355328) (hB : B ≤ h.size)
    (hS : ∀ h', Chg v h h' → S h')
    (hn : ∀ u v' h', OwE E h' B el v' (xs ++ ys) → Chg v h h' → (∀ g, v'.ownBlock = some g → v.ownBlock = some g ∨ h.size ≤ g) → Lx P S kd ops rest K (ups ((d2, v') :: (d, u) :: L) b) h') :
    Lx P S kd ops (⟨some d, .buildSlice ts n parts, t, p, af, g⟩ :: ⟨some d2, .call ⟨.builtin .append, #[x, .tmp d], #[ts, ts]⟩, t2, p2, af2, g2⟩ :: rest) K (ups L b) h := by
  refine lx_buildSlice B ys us hw hk hT hp hl hus hlen hB (fun _ h' hx => hS h' (Chg.of_ext hx)) ?_
  intro vy h1 hy1 hx1 hb1 hs1
  have tr : ∀ h2, Chg v h1 h2 → Chg v h h2 := fun h2 hc => ⟨Nat.le_trans hx1.size hc.size, fun k hk hne => (hc.block k (Nat.lt_of_lt_of_le hk hx1.size) hne).trans (hx1.block k hk)⟩
  refine lx_append (hw2 vy) hk2 hT (ho.extS hx1) hy1.rd (hx' vy) (by show upd _ _ _ _ = _; rw [upd_same]) hm hb (by have := hx1.size; omega) (fun h2 hc => hS h2 (tr h2 hc)) ?_
  intro v' h2 ho2 hc2 hg2
  exact hn vy v' h2 ho2 (tr h2 hc2) (fun g hg => (hg2 g hg).imp id (fun hle => by have := hx1.size; omega))

/-! ### 'make' -/

theorem rep_flat (E : Enc α) (a : α) (n : Nat) (z : Array Value) (hz : z.toList = E.f a) : (madeCells z (n * E.k)).toList = (List.replicate n a).flatMap E.f := by
  have hzs : z.size = E.k := by rw [← Array.length_toList, hz, E.len]
  apply List.ext_getElem?
  intro j
  by_cases hj : j < n * E.k
  · have hq : j / E.k < n := Nat.div_lt_of_lt_mul (by rw [Nat.mul_comm]; exact hj)
    have hm : j % E.k < E.k := Nat.mod_lt _ E.pos
    haveI : Inhabited α := ⟨a⟩
    have h1 := flat_get E (List.replicate n a) (j / E.k) (j % E.k) (by simpa using hq) hm
    have h2 : j / E.k * E.k + j % E.k = j := by rw [Nat.mul_comm]; exact Nat.div_add_mod j E.k
    rw [h2] at h1
    rw [h1]
    have h3 : gt (List.replicate n a) (j / E.k) = a := by rw [gt_eq (by simpa using hq)]; simp
    rw [h3, ← hz]
    simp [madeCells, hj, hzs]
    have : j % E.k < z.size := by omega
    simp [this]
  · rw [List.getElem?_eq_none (by simp [madeCells]; omega), List.getElem?_eq_none (by rw [flat_length]; simp; omega)]

/-- 'make([]T, n)'. -/
theorem lx_make {n : Nat} {kl kc : IntKind} (a : α) (hw : Region.wanted ⟨some d, .makeSlice ts x y, t, p, af, g⟩ (yieldE ops (ups L b)) = true) (hk : kd ⟨some d, .makeSlice ts x y, t, p, af, g⟩ = .new)
    (hu : P.underlying ts = some (.slice el)) (hi : ∃ i z, P.info? el = some i ∧ i.zero = some z ∧ i.size = E.k ∧ i.bytes = bytes ∧ z.cells.toList = E.f a) (hx : ev (ups L b) x = .int kl ((n : Nat) : Int)) (hy : ev (ups L b) y = .int kc ((n : Nat) : Int))
    (hb : bytes * n ≤ 281474976710656) (hm : n ≤ 4611686018427387904) (hB : B ≤ h.size)
    (hS : ∀ h', Ext h.size h h' → S h')
    (hn : ∀ v h', OwE E h' B el v (List.replicate n a) → Ext h.size h h' → v.ownBlock = some h.size → Lx P S kd ops rest K (ups ((d, v) :: L) b) h') :
    Lx P S kd ops (⟨some d, .makeSlice ts x y, t, p, af, g⟩ :: rest) K (ups L b) h :=
  lx_new hw hk fun _ w hh => by
    subst hh
    obtain ⟨i, z0, h1, h2, h3, h4, h5⟩ := hi
    obtain ⟨w', hr, ho, hgr⟩ := run_make_full (P := P) w B ts el i z0 E.k hu h1 h2 h3 kl kc n (by rw [h4]; exact hb) (by unfold maxLen; omega) hB
    have hrun : (execOp (ev (ups L b)) ⟨some d, .makeSlice ts x y, t, p, af, g⟩).run P w = .ok (.value (.slice (some ⟨w.heap.size, 0, none⟩) n n)) w' := by
      simp [execOp, hx, hy, hr]
    rw [hrun]
    have hx1 : Ext w.heap.size w.heap w'.heap := ⟨hgr.size, fun k hk' => hgr.block k hk' (by simp)⟩
    refine ⟨⟨hgr.os, hgr.tape, hgr.output⟩, hx1.grow, hS _ hx1, hn _ _ ?_ hx1 rfl⟩
    unfold OwE
    rw [← rep_flat E a n z0.cells h5, List.length_replicate]
    exact ho

/-! ### Calls -/

/-- A call of a function by its contract. -/
theorem lx_call {f : Nat} {xs : Array Operand} {tys : Array TypeId} {R : Value → Heap → Prop} (vs : List Value) (hw : Region.wanted ⟨some d, .call ⟨.value (.func f), xs, tys⟩, t, p, af, g⟩ (yieldE ops (ups L b)) = true) (hk : kd ⟨some d, .call ⟨.value (.func f), xs, tys⟩, t, p, af, g⟩ = .eff)
    (hc : ∀ (args : Array Value) (w : World), (callFunc f args).run P w = .ok (.enter f args) w) (ha : xs.toList.map (ev (ups L b)) = vs) (hF : Fx P f vs h R)
    (hS : ∀ v h', R v h' → S h')
    (hn : ∀ v h', R v h' → Lx P S kd ops rest K (ups ((d, v) :: L) b) h') : Lx P S kd ops (⟨some d, .call ⟨.value (.func f), xs, tys⟩, t, p, af, g⟩ :: rest) K (ups L b) h :=
  lx_eff hw hk fun _ w hh => by
    subst ha
    have e1 : xs.map (ev (ups L b)) = (xs.toList.map (ev (ups L b))).toArray := by rw [← Array.toList_map]
    have hrun : (execOp (ev (ups L b)) ⟨some d, .call ⟨.value (.func f), xs, tys⟩, t, p, af, g⟩).run P w = .ok (.enter f (xs.toList.map (ev (ups L b))).toArray) w := by
      simp only [execOp, resolve, ev, Deferred.ofValue, invoke, Sem.run_bind, Sem.run_pure, Result.andThen_ok, e1, Array.empty_append, Array.append_empty, hc]
    rw [hrun]
    exact ⟨Qt.refl _, (hF w hh).mono fun x w'' ⟨v, hx, hq, hr⟩ => ⟨v, hx, hq, hS _ _ hr, hn _ _ hr⟩⟩

/-- A call of a function value: a function literal with what it captured, or a function of the text. -/
theorem lx_callV {f : Nat} {xs : Array Operand} {tys : Array TypeId} {R : Value → Heap → Prop} (first cap vs : List Value) (hw : Region.wanted ⟨some d, .call ⟨.value x, xs, tys⟩, t, p, af, g⟩ (yieldE ops (ups L b)) = true) (hk : kd ⟨some d, .call ⟨.value x, xs, tys⟩, t, p, af, g⟩ = .eff)
    (hc : ∀ (args : Array Value) (w : World), (callFunc f args).run P w = .ok (.enter f args) w) (hx : ev (ups L b) x = .func (.func f) first.toArray cap.toArray) (ha : xs.toList.map (ev (ups L b)) = vs) (hF : Fx P f (first ++ vs ++ cap) h R)
    (hS : ∀ v h', R v h' → S h')
    (hn : ∀ v h', R v h' → Lx P S kd ops rest K (ups ((d, v) :: L) b) h') : Lx P S kd ops (⟨some d, .call ⟨.value x, xs, tys⟩, t, p, af, g⟩ :: rest) K (ups L b) h :=
  lx_eff hw hk fun _ w hh => by
    subst ha
    have e1 : xs.map (ev (ups L b)) = (xs.toList.map (ev (ups L b))).toArray := by rw [← Array.toList_map]
    have hrun : (execOp (ev (ups L b)) ⟨some d, .call ⟨.value x, xs, tys⟩, t, p, af, g⟩).run P w = .ok (.enter f (first ++ xs.toList.map (ev (ups L b)) ++ cap).toArray) w := by
      simp only [execOp, resolve, hx, Deferred.ofValue, invoke, Sem.run_bind, Sem.run_pure, Result.andThen_ok, e1, hc]
      simp
    rw [hrun]
    exact ⟨Qt.refl _, (hF w hh).mono fun x w'' ⟨v, hx, hq, hr⟩ => ⟨v, hx, hq, hS _ _ hr, hn _ _ hr⟩⟩

end
end Go.X
namespace Go.X

theorem agree_upsJ {W : Nat → Bool} {b : Env} : Agree W b b := fun _ _ => rfl
theorem Chg.trans {v : Value} {a b c : Heap} (h : Chg v a b) (k : Chg v b c) : Chg v a c :=
  ⟨Nat.le_trans h.size k.size, fun i hi hne => (k.block i (Nat.lt_of_lt_of_le hi h.size) hne).trans (h.block i hi hne)⟩

section
variable {α : Type} {E : Enc α} {h : Heap} {v v' : Value} {xs : List α} {B : Nat} {e : TypeId}
theorem flat_take (E : Enc α) (xs : List α) (n : Nat) : (xs.flatMap E.f).take (n * E.k) = (xs.take n).flatMap E.f := by
  induction xs generalizing n with
  | nil => simp
  | cons x xs ih =>
    cases n with
    | zero => simp
    | succ n =>
      have hl := E.len x
      simp only [List.flatMap_cons, List.take_succ_cons]
      rw [show (n + 1) * E.k = (E.f x).length + n * E.k from by rw [hl, Nat.add_mul]; omega, List.take_length_add_append, ih]

theorem sl_own {u : Nat} (ho : OwE E h B e v xs) (hs : ∀ h' B e, Own h' B e E.k v xs.length (xs.flatMap E.f) → Own h' B e E.k v' u ((xs.flatMap E.f).take (u * E.k))) (hu : u ≤ xs.length) : OwE E h B e v' (xs.take u) := by
  have h1 := hs h B e ho
  rw [flat_take] at h1
  unfold OwE
  rw [List.length_take, Nat.min_eq_left hu]
  exact h1

theorem sl_rd {u : Nat} (hr : RdE E h v xs) (hs : ∀ h', Rd h' v xs.length (xs.flatMap E.f) → (xs.flatMap E.f).length = xs.length * E.k → Rd h' v' (u - 0) (((xs.flatMap E.f).drop (0 * E.k)).take ((u - 0) * E.k))) (hu : u ≤ xs.length) : RdE E h v' (xs.take u) := by
  have h1 := hs h hr (flat_length E xs)
  rw [Nat.zero_mul, List.drop_zero, Nat.sub_zero, flat_take] at h1
  unfold RdE
  rw [List.length_take, Nat.min_eq_left hu]
  exact h1

theorem sl_cells {n : Nat} {cs : List Value} (hr : Rd h v n cs) : v.cells = #[v] := by
  obtain ⟨a, cap, rfl, _⟩ := hr; rfl
theorem sl_one {n : Nat} {cs : List Value} (hr : Rd h v n cs) : v.oneCell' = true := by
  obtain ⟨a, cap, rfl, _⟩ := hr; rfl
end

section
variable {P : Program}

structure Arr2 (P : Program) (tx el : TypeId) : Prop where
  und : P.underlying tx = some (.array 2 el)
  elu : P.underlying el = some (.int .i64)
  size : ∀ w, (sizeOf el).run P w = .ok 1 w
  flat : Flat P el
  guard : P.eqGuardType P.depth tx = false

theorem bld2 {tx el : TypeId} (hu : P.underlying tx = some (.array 2 el)) (hz : ∀ w, (zeroValue tx).run P w = .ok (.agg #[.int .i64 0, .int .i64 0]) w) (hs : ∀ w, (sizeOf el).run P w = .ok 1 w) (x y : Int) (w : World) :
    (Instr.build tx #[(0, .int .i64 x), (1, .int .i64 y)]).run P w = .ok (.agg #[.int .i64 x, .int .i64 y]) w := by
  simp [Instr.build, hz, run_underlying hu, hs, Instr.fill, Value.cells]

theorem run_eqA2 {tx el : TypeId} (hA : Arr2 P tx el) (D : Nat) (a0 a1 b0 b1 : Int) (w : World) :
    (Op.equalIn (D + 2) tx (.agg #[.int .i64 a0, .int .i64 a1]) (.agg #[.int .i64 b0, .int .i64 b1])).run P w = .ok (decide (a0 = b0 ∧ a1 = b1)) w := by
  have h0 : ∀ cs i v w, cs[i]? = some v → (part el cs i).run P w = .ok v w := by
    intro cs i v w hv
    simp [part, hA.flat w, hv]
  have hi : ∀ (m n : Int) w, (Op.equalIn (D + 1) el (.int .i64 m) (.int .i64 n)).run P w = .ok (m == n) w := fun m n w => run_equalIn_int w D el .i64 .i64 m n hA.elu
  rw [Op.equalIn]
  simp only [Sem.run_bind, run_underlying hA.und, Result.andThen_ok, hA.size]
  simp only [Std.Legacy.Range.forIn_eq_forIn_range', Std.Legacy.Range.size, List.range', List.forIn_cons, List.forIn_nil, Sem.run_bind, Sem.run_pure, Sem.run_ite]
  rw [h0 _ (0 * 1) (.int .i64 a0) w rfl, Result.andThen_ok, h0 _ (0 * 1) (.int .i64 b0) w rfl, Result.andThen_ok, hi, Result.andThen_ok]
  by_cases c0 : a0 = b0
  · have e0 : (a0 == b0) = true := by simp [c0]
    rw [e0]
    simp only [Bool.not_true, Bool.false_eq_true, if_false, Result.andThen_ok, Sem.run_bind]
    rw [h0 _ ((0 + 1) * 1) (.int .i64 a1) w rfl, Result.andThen_ok, h0 _ ((0 + 1) * 1) (.int .i64 b1) w rfl, Result.andThen_ok, hi, Result.andThen_ok]
    by_cases c1 : a1 = b1
    · simp [c0, c1]
    · have e1 : (a1 == b1) = false := by simp [c1]
      simp [e1, c0, c1]
  · have e0 : (a0 == b0) = false := by simp [c0]
    simp [e0, c0]

theorem run_neqA2 {tx el : TypeId} (hA : Arr2 P tx el) {x y : Operand} (a0 a1 b0 b1 : Int) (w : World) :
    (do eqGuard .neq tx x y (.agg #[.int .i64 a0, .int .i64 a1]) (.agg #[.int .i64 b0, .int .i64 b1]); binOp .neq tx (.agg #[.int .i64 a0, .int .i64 a1]) (.agg #[.int .i64 b0, .int .i64 b1]) : Sem Value).run P w = .ok (.bool (!decide (a0 = b0 ∧ a1 = b1))) w := by
  rw [Sem.run_bind, run_eqGuard_agg w _ _ _ _ _ _ hA.guard, Result.andThen_ok, run_neq_struct, run_eqA2 hA 9998, Result.andThen_ok]
end

section
variable {P : Program} {S : Heap → Prop} {kd : Oper → Kd} {ops : Array Oper} {rest : List Oper} {K : Env → Heap → Prop} {L : List (Nat × Value)} {b : Env} {h : Heap}
variable {d : Nat} {t tx ty el : TypeId} {p : String} {af : Array Edge} {g : Option (Nat × Bool)} {x y : Operand} {a0 a1 b0 b1 : Int}

theorem lx_neqA2 (hw : Region.wanted ⟨some d, .binOp .neq tx x y ty, t, p, af, g⟩ (yieldE ops (ups L b)) = true) (hA : Arr2 P tx el) (hx : ev (ups L b) x = .agg #[.int .i64 a0, .int .i64 a1]) (hy : ev (ups L b) y = .agg #[.int .i64 b0, .int .i64 b1])
    (hn : Lx P S kd ops rest K (ups ((d, .bool (!decide (a0 = b0 ∧ a1 = b1))) :: L) b) h) : Lx P S kd ops (⟨some d, .binOp .neq tx x y ty, t, p, af, g⟩ :: rest) K (ups L b) h :=
  lx_free _ hw (fun w _ => by
    have := run_neqA2 (P := P) hA (x := x) (y := y) a0 a1 b0 b1 w
    simp only [execOp, hx, hy]
    rw [Sem.run_bind, this]
    rfl) hn
theorem lx_neqA2F (hw : Region.wanted ⟨some d, .binOp .neq tx x y ty, t, p, af, g⟩ (yieldE ops (ups L b)) = true) (hA : Arr2 P tx el) (hx : ev (ups L b) x = .agg #[.int .i64 a0, .int .i64 a1]) (hy : ev (ups L b) y = .agg #[.int .i64 b0, .int .i64 b1]) (hc : ¬ ¬ (a0 = b0 ∧ a1 = b1))
    (hn : Lx P S kd ops rest K (ups ((d, .bool false) :: L) b) h) : Lx P S kd ops (⟨some d, .binOp .neq tx x y ty, t, p, af, g⟩ :: rest) K (ups L b) h :=
  lx_neqA2 hw hA hx hy (by rw [decide_eq_true (Classical.not_not.1 hc)]; exact hn)
end
end Go.X
namespace Go.X

def cof {α : Type} (f : α → Value) (xs : List α) : Array Value := (xs.map f).toArray
theorem cof_size {α : Type} (f : α → Value) (xs : List α) : (cof f xs).size = xs.length := by simp [cof]
def ic (xs : List Int) : Array Value := cof (fun x : Int => Value.int .i64 x) xs
theorem ic_size (ws : List Int) : (ic ws).size = ws.length := cof_size _ _
section
variable {M : Mo} {P : Program} {n : Nat} {k : List Item} {R : Option Code → Env → Heap → Prop} {e : Env} {h : Heap}
theorem stepR_scope {P : Program} {b : Frame} {a : Act} {k : List Item} {cs : List Frame} {w : World} {c : Code} : step P (lone (b.atR a (.code (.scope c) :: k)) cs w) = .next (lone (b.atR a (.code c :: .inScope c :: k)) cs w) :=
  step_lone_go (by simp [stepG, stepG.exec, Frame.atR])
theorem wi_scope {c : Code} (hw : WpI M P n (.code c :: .inScope c :: k) R e h) : WpI M P n (.code (.scope c) :: k) R e h := of_step (fun _ _ _ _ _ => stepR_scope) hw
theorem res_cell {fn : Func} {t ty m : Nat} (hr : fn.results = #[.cell t ty]) {bn te : Nat} {cs : Array Value} (hp : e t = .pointer (some ⟨bn, 0, none⟩)) (hb : Blk h bn cs te) (hW : Wide P ty m) (hl : cs.size = m) : ResOb P fn e h (.agg cs) := by
  intro a w ha hh
  subst hh
  have h2 := run_load_wide (P := P) hW (w := w) (a := ⟨bn, 0, none⟩) (us := cs.toList) (by simpa using hl) (fun j u hju => by
      rw [add_lit, hb.cell]; simpa using hju)
  have hp' : a.tmps[t]?.getD undef = .pointer (some ⟨bn, 0, none⟩) := by
    have := ha t
    rw [hp] at this
    simpa using this
  simp [results, hr, hp', asAddr, h2]
end
end Go.X
namespace Go.X
def Dj (v w : Value) : Prop := ∀ g, v.ownBlock = some g → w.ownBlock ≠ some g
section
variable {α β : Type} {E : Enc α} {E' : Enc β} {h h' : Heap} {B : Nat} {e e' : TypeId} {v w w' : Value} {xs : List α} {ys : List β} {bn : Nat} {cs : Array Value} {t : TypeId}
theorem Dj.symm (h : Dj v w) : Dj w v := fun g h1 h2 => h g h2 h1
theorem dj_nil_r (v : Value) : Dj v (.slice none 0 0) := fun g _ h2 => by cases h2
theorem dj_nil_l (v : Value) : Dj (.slice none 0 0) v := fun g h1 _ => by cases h1
theorem dj_new (ho : OwE E h B e v xs) (hn : OwE E' h' h.size e' w ys) : Dj v w := fun g h1 h2 => by
  have a := (ho.lt h1).2
  have b := (hn.lt h2).1
  omega
theorem dj_app (h0 : Dj v w) (ho : OwE E h B e v xs) (hg : ∀ g, w'.ownBlock = some g → w.ownBlock = some g ∨ h.size ≤ g) : Dj v w' := fun g h1 h2 => by
  rcases hg g h2 with h3 | h3
  · exact h0 g h1 h3
  · have a := (ho.lt h1).2; omega
theorem nb_new (hb : Blk h bn cs t) (hn : OwE E' h' h.size e' w ys) : w.ownBlock ≠ some bn := fun h2 => by
  have a := hb.lt
  have b := (hn.lt h2).1
  omega
theorem ChgB.owE (hx : ChgB bn h h') (ho : OwE E h B e v xs) (hne : v.ownBlock ≠ some bn) : OwE E h' B e v xs := hx.own ho hne
theorem nb_nil (bn : Nat) : (Value.slice none 0 0).ownBlock ≠ some bn := fun h => by cases h
end
section
variable {M : Mo} {P : Program} {n : Nat} {k : List Item} {R : Option Code → Env → Heap → Prop} {e : Env} {h : Heap}
/-- A cut behind one item; the item's own environment begins anew. -/
theorem wi_cutE {σ : Type} {it : Item} (W : Nat → Bool) (Ls : σ → List (Nat × Value)) (I : σ → Heap → Prop)
    (hw : (∀ (e' : Env) (h' : Heap) (s : σ), Agree W e e' → Has e' (Ls s) → I s h' → WpI M P n k R e' h') → WpI M P n (it :: k) R (ups [] e) h)
    (hk : ∀ (g : Env) (s : σ) (hh : Heap), I s hh → WpI M P n k R (ups (Ls s) (mixE W g e)) hh) : WpI M P n (it :: k) R e h :=
  wi_cut W Ls I hw hk
end
section
variable {P : Program} {S : Heap → Prop} {kd : Oper → Kd} {ops : Array Oper} {rest : List Oper} {K : Env → Heap → Prop} {L : List (Nat × Value)} {b : Env} {h : Heap}
variable {d : Nat} {t tx ty el : TypeId} {p : String} {af : Array Edge} {g : Option (Nat × Bool)} {x y : Operand} {a0 a1 b0 b1 : Int}
variable {α : Type} {E : Enc α} {v : Value} {xs : List α}
/-- A part of an element is read, in any heap of the class. -/
theorem lx_ldF [Inhabited α] {i j : Nat} (u : Value) (hw : Region.wanted ⟨some d, .load t x, ty, p, af, g⟩ (yieldE ops (ups L b)) = true) (hf : Flat P t) (hr : ∀ h', S h' → RdE E h' v xs) (hi : i < xs.length) (hj : (E.f (gt xs i))[j]? = some u) (hx : ev (ups L b) x = ptrAt v (i * E.k + j))
    (hn : Lx P S kd ops rest K (ups ((d, u) :: L) b) h) : Lx P S kd ops (⟨some d, .load t x, ty, p, af, g⟩ :: rest) K (ups L b) h :=
  lx_free u hw (fun w hh => by
    have hjk : j < E.k := by have := (List.getElem?_eq_some_iff.1 hj).1; rwa [E.len] at this
    obtain ⟨a, cap, rfl, _, _, h3⟩ := hr _ hh
    obtain ⟨ad, rfl, hc⟩ := h3 (i * E.k + j) u (by rw [flat_get E xs i j hi hjk]; exact hj)
    simp [execOp, hx, Instr.loadAt, Instr.sureAddr, ptrAt, run_load_flat hf hc]) hn
/-- A cell of a variable is read, in any heap of the class. -/
theorem lx_ldBF {bn o : Nat} {cs : Array Value} {te : TypeId} (u : Value) (hw : Region.wanted ⟨some d, .load t x, ty, p, af, g⟩ (yieldE ops (ups L b)) = true) (hf : Flat P t) (hb : ∀ h', S h' → Blk h' bn cs te) (hj : cs[o]? = some u) (hx : ev (ups L b) x = .pointer (some ⟨bn, o, none⟩))
    (hn : Lx P S kd ops rest K (ups ((d, u) :: L) b) h) : Lx P S kd ops (⟨some d, .load t x, ty, p, af, g⟩ :: rest) K (ups L b) h :=
  lx_free u hw (fun w hh => by
    have hc := (hb _ hh).cell o
    rw [hj] at hc
    simp [execOp, hx, Instr.loadAt, Instr.sureAddr, run_load_flat hf hc]) hn
end
end Go.X
namespace Go.X

/-- All that is no cells is as it was. -/
def Nc (h h' : Heap) : Prop := h.size ≤ h'.size ∧ ∀ (b : Nat) (o : Obj), h[b]? = some o → (∀ c t f, o ≠ .cells c t f) → h'[b]? = some o
/-- All cells are as they were. -/
def Cel (h h' : Heap) : Prop := h.size ≤ h'.size ∧ ∀ (b : Nat) (c : Array Value) (t : TypeId) (f : Nat × Nat), h[b]? = some (.cells c t f) → h'[b]? = some (.cells c t f)

theorem Nc.refl (h : Heap) : Nc h h := ⟨Nat.le_refl _, fun _ _ hb _ => hb⟩
theorem Nc.trans {a b c : Heap} (h : Nc a b) (k : Nc b c) : Nc a c := ⟨Nat.le_trans h.1 k.1, fun i o hi ho => k.2 i o (h.2 i o hi ho) ho⟩
theorem Nc.of_ext {h h' : Heap} (hx : Ext h.size h h') : Nc h h' := ⟨hx.size, fun b o hb _ => (hx.block b (Array.getElem?_eq_some_iff.1 hb).1).trans hb⟩
theorem Nc.of_chg {α : Type} {E : Enc α} {h h' : Heap} {v : Value} {B : Nat} {t : TypeId} {xs : List α} (hx : Chg v h h') (ho : OwE E h B t v xs) : Nc h h' :=
  ⟨hx.size, fun b o hb hn => (hx.block b (Array.getElem?_eq_some_iff.1 hb).1 fun e => by
    rcases ho.2 with ⟨rfl, _⟩ | ⟨g, cap, cur, rfl, _, hg, _⟩
    · cases e
    · simp only [Value.ownBlock, Option.some.injEq] at e
      subst e
      rw [hb] at hg
      exact hn _ _ _ (Option.some.inj hg)).trans hb⟩
theorem Nc.of_chgB {h h' : Heap} {bn : Nat} {cs : Array Value} {t : TypeId} (hx : ChgB bn h h') (hb : Blk h bn cs t) : Nc h h' :=
  ⟨Nat.le_of_eq hx.size.symm, fun b o ho hn => (hx.block b fun e => by
    subst e
    rw [show h[b]? = _ from hb] at ho
    exact hn _ _ _ (Option.some.inj ho).symm).trans ho⟩

theorem Cel.refl (h : Heap) : Cel h h := ⟨Nat.le_refl _, fun _ _ _ _ hb => hb⟩
theorem Cel.trans {a b c : Heap} (h : Cel a b) (k : Cel b c) : Cel a c := ⟨Nat.le_trans h.1 k.1, fun i c t f hi => k.2 i c t f (h.2 i c t f hi)⟩
theorem Cel.blk {h h' : Heap} (hx : Cel h h') {b : Nat} {cs : Array Value} {t : TypeId} (hb : Blk h b cs t) : Blk h' b cs t := hx.2 _ _ _ _ hb
theorem Cel.owE {α : Type} {E : Enc α} {h h' : Heap} (hx : Cel h h') {v : Value} {B : Nat} {t : TypeId} {xs : List α} (ho : OwE E h B t v xs) : OwE E h' B t v xs := by
  refine ⟨ho.1, ?_⟩
  rcases ho.2 with h1 | ⟨g, cap, cur, rfl, hB, hg, r⟩
  · exact .inl h1
  · exact .inr ⟨g, cap, cur, rfl, hB, hx.2 _ _ _ _ hg, r⟩
theorem Cel.cell {h h' : Heap} (hx : Cel h h') {a : Addr} {u : Value} (hc : cellA h a = some u) : cellA h' a = some u := by
  unfold cellA at *
  cases hb : h[a.block]? with
  | none => rw [hb] at hc; cases hc
  | some o =>
    rw [hb] at hc
    cases o with
    | cells c t f => rw [hx.2 _ _ _ _ hb]; exact hc
    | _ => cases hc
theorem Cel.rd {h h' : Heap} (hx : Cel h h') {v : Value} {n : Nat} {cs : List Value} (hr : Rd h v n cs) : Rd h' v n cs := by
  obtain ⟨a, cap, rfl, h1, h2, h3⟩ := hr
  refine ⟨a, cap, rfl, h1, h2, fun j u hj => ?_⟩
  obtain ⟨ad, rfl, hc⟩ := h3 j u hj
  exact ⟨ad, rfl, hx.cell hc⟩
theorem Cel.rdE {α : Type} {E : Enc α} {h h' : Heap} (hx : Cel h h') {v : Value} {xs : List α} (hr : RdE E h v xs) : RdE E h' v xs := hx.rd hr
theorem cel_of_chgB {h h' : Heap} {l : Nat} {o : Obj} (hx : ChgB l h h') (ho : h[l]? = some o) (hn : ∀ c t f, o ≠ .cells c t f) : Cel h h' :=
  ⟨Nat.le_of_eq hx.size.symm, fun b c t f hb => (hx.block b fun e => by
    subst e
    rw [hb] at ho
    exact hn _ _ _ (Option.some.inj ho).symm).trans hb⟩

/-- A mark among the deferred calls. -/
def markD (D : Nat) : Deferred := ⟨.collected D, #[]⟩
/-- The blocks of the marks: no call has been deferred in a round. -/
def DsOk (Ds : List Nat) (h : Heap) : Prop := ∀ D ∈ Ds, h[D]? = some (.deferred (some []))
theorem DsOk.nil (h : Heap) : DsOk [] h := fun D hD => by cases hD
theorem DsOk.nc {Ds : List Nat} {h h' : Heap} (hd : DsOk Ds h) (hx : Nc h h') : DsOk Ds h' := fun D hD => hx.2 D _ (hd D hD) (by intro c t f e; cases e)
theorem DsOk.cons {Ds : List Nat} {D : Nat} {h : Heap} (hD : h[D]? = some (.deferred (some []))) (hd : DsOk Ds h) : DsOk (D :: Ds) h := fun d hd' => by
  rw [List.mem_cons] at hd'
  rcases hd' with rfl | h1
  · exact hD
  · exact hd d h1

/-- What a loop's record says. -/
structure LoopOk (n : Nat) (e : Env) (ps : Array Tmp) (assign body : Code) (rc : Loop) : Prop where
  st : rc.state = .ready
  pe : rc.pending = none
  ps : rc.params = ps
  asg : rc.assign = assign
  bo : rc.body = body
  size : rc.tmps.size = n
  get : ∀ i, rc.tmps.getD i undef = e i

def updsA (e : Env) : List Tmp → List Value → Env
  | p :: ps, v :: vs => updsA (upd e p v) ps vs
  | _, _ => e

theorem fits_fold {n : Nat} : ∀ (ps : List Tmp) (vs : List Value) (e : Env) (t : Array Value), (∀ p ∈ ps, p < n) → t.size = n → (∀ i, t.getD i undef = e i) →
    ((ps.zip vs).foldl (fun t (p, v) => t.setIfInBounds p v) t).size = n ∧ ∀ i, ((ps.zip vs).foldl (fun t (p, v) => t.setIfInBounds p v) t).getD i undef = updsA e ps vs i
  | [], _, e, t, _, hs, hg => ⟨hs, hg⟩
  | p :: ps, [], e, t, _, hs, hg => ⟨hs, hg⟩
  | p :: ps, v :: vs, e, t, hp, hs, hg => by
    simp only [List.zip_cons_cons, List.foldl_cons, updsA]
    refine fits_fold ps vs (upd e p v) _ (fun q hq => hp q (List.mem_cons_of_mem _ hq)) (by simp [hs]) fun i => ?_
    have hlt : p < t.size := by rw [hs]; exact hp p (List.mem_cons_self ..)
    by_cases hi : i = p
    · subst hi
      rw [upd_same]
      simp [Array.getD_eq_getD_getElem?, hlt]
    · rw [upd_other _ _ hi, ← hg i]
      simp [Array.getD_eq_getD_getElem?, Array.getElem?_setIfInBounds_ne (Ne.symm hi)]

/-- A call of yield that answers true. -/
def YieldOk (P : Program) (l : Nat) (args : List Value) (h : Heap) (R : Heap → Prop) : Prop :=
  ∀ w : World, w.heap = h → ∃ fn tmps assign body, (Instr.yield l args.toArray).run P w = .ok (.round l fn tmps assign body) w ∧
    RoundIn Fence.wide 0 P l fn tmps assign body w (fun x w' => x = .returned (.bool true) ∧ Qt w w' ∧ R w'.heap)
theorem YieldOk.mono {P : Program} {l : Nat} {args : List Value} {h : Heap} {R R' : Heap → Prop} (hy : YieldOk P l args h R) (hm : ∀ h', R h' → R' h') : YieldOk P l args h R' := fun w hw => by
  obtain ⟨fn, tmps, assign, body, h1, h2⟩ := hy w hw
  exact ⟨fn, tmps, assign, body, h1, h2.mono fun x w' ⟨a, b, c⟩ => ⟨a, b, hm _ c⟩⟩

section
variable {P : Program} {n : Nat} {k : List Item} {R : Option Code → Env → Heap → Prop} {e : Env} {h : Heap}

theorem wi_begin {l : Nat} {rc : Loop} {ds : List Deferred} (hl : h[l]? = some (.loop rc)) (hr : rc.state = .ready) (hw : ∀ h2, ChgB l h h2 → h2[l]? = some (.loop { rc with state := .busy }) → WpI ⟨some l, ds⟩ P n k R e h2) :
    WpI ⟨some l, ds⟩ P n (.beginRound :: k) R e h := by
  intro b cs a w hro hf hh
  subst hh
  have hb := run_beginRound (P := P) hl hr
  have hlt : l < w.heap.size := (Array.getElem?_eq_some_iff.1 hl).1
  obtain ⟨j, e', a', w', fr, hf', hq, hR, hla, hs⟩ := hw _ ⟨World.putObj_size, fun i hi => World.putObj_heap_other hi⟩ (World.putObj_heap_same hlt) b cs a _ hro hf rfl
  exact ⟨j, e', a', w', fr, hf', ⟨hq.os, hq.tape, hq.output⟩, hR, hla, .head (stepR_beginRound hro hb) hs⟩

/-- A round. -/
theorem yield_ok {l : Nat} {rc : Loop} {ps : Array Tmp} {assign body : Code} {args : List Value} {Rh : Heap → Prop} (hL : LoopOk n e ps assign body rc) (hl : h[l]? = some (.loop rc)) (hs : args.length = ps.size) (hp : ∀ p ∈ ps.toList, p < n)
    (hw : WpI ⟨some l, []⟩ P n [.code assign, .beginRound, .code body] (fun j _ h' => j = none ∧ h'[l]? = some (.loop { rc with state := .busy }) ∧ ∀ h2, ChgB l h' h2 → h2[l]? = some (.loop rc) → Rh h2) (updsA e ps.toList args) h) : YieldOk P l args h Rh := by
  intro w hh
  subst hh
  obtain ⟨h1, h2, h3, h4, h5, h6, h7⟩ := hL
  subst h3; subst h4; subst h5
  refine ⟨_, _, _, _, run_yield hl (by simpa using hs), trivial, fun c cs _ => ?_⟩
  let b : Frame := { (default : Frame) with fn := rc.fn, kind := .normal, roundOf := some l }
  have hz : (rc.params.zip args.toArray).foldl (fun t (p, v) => t.setIfInBounds p v) rc.tmps = (rc.params.toList.zip args).foldl (fun t (p, v) => t.setIfInBounds p v) rc.tmps := by
    rw [← Array.foldl_toList]; simp
  obtain ⟨f1, f2⟩ := fits_fold rc.params.toList args e rc.tmps hp h6 h7
  have hb0 : Frame.round l rc.fn ((rc.params.zip args.toArray).foldl (fun tmps (t, a) => tmps.setIfInBounds t a) rc.tmps) rc.assign rc.body .normal =
      b.atR { tmps := (rc.params.toList.zip args).foldl (fun t (p, v) => t.setIfInBounds p v) rc.tmps, defers := [] } [.code rc.assign, .beginRound, .code rc.body] := by
    rw [hz]; simp [Frame.round, Frame.atR, b]
  obtain ⟨j, e', a', w', fr, hf', hq, ⟨rfl, hlb, hR⟩, hla, hst⟩ := hw b (c :: cs) { tmps := (rc.params.toList.zip args).foldl (fun t (p, v) => t.setIfInBounds p v) rc.tmps, defers := [] } w rfl ⟨rfl, f1, f2⟩ rfl
  obtain ⟨todo, rfl, rfl⟩ := hla
  rw [← hb0] at hst
  have hend := run_endRound (P := P) none hlb
  have hlt : l < w'.heap.size := (Array.getElem?_eq_some_iff.1 hlb).1
  have hrc : ({ ({ rc with state := .busy } : Loop) with state := (if (none : Option Code).isNone then .ready else .done), pending := none } : Loop) = rc := by
    cases rc; simp only at h1 h2; subst h1; subst h2; rfl
  rw [hrc] at hend
  refine ⟨.returned (.bool true), w'.putObj l (.loop rc), ⟨rfl, ⟨hq.os, hq.tape, hq.output⟩, hR _ ⟨World.putObj_size, fun i hi => World.putObj_heap_other hi⟩ (World.putObj_heap_same hlt)⟩, ?_⟩
  exact stepsIn_wide.2 (Steps.trans hst (.one (stepR_round_end rfl rfl hend)))

/-- The statement. -/
theorem wi_range {g : Operand} {ps : Array Tmp} {assign body : Code} {gf : Nat} {lb : List Value} {Ds : List Nat} (hcall : ∀ args w, (callFunc gf args).run P w = .ok (.enter gf args) w) (hg : ev e g = .func (.func gf) #[] lb.toArray)
    (hw : ∀ (l D : Nat) (h1 : Heap) (rc : Loop), h.size ≤ D → h.size ≤ l → D ≠ l → Ext h.size h h1 → h1[l]? = some (.loop rc) → h1[D]? = some (.deferred (some [])) → LoopOk n e ps assign body rc →
      Fx P gf (.func (.yield l) #[] #[] :: lb) h1 (fun _ h2 => h2[l]? = some (.loop rc) ∧ ∀ h3, ChgB l h2 h3 → WpI ⟨none, (D :: Ds).map markD⟩ P n k R e h3)) :
    WpI ⟨none, Ds.map markD⟩ P n (.code (.rangeFunc g ps assign body) :: k) R e h := by
  intro b cs a w hro hf hh
  subst hh
  obtain ⟨rc, hrc⟩ : ∃ rc : Loop, rc = { state := .ready, pending := none, fn := b.fn, tmps := a.tmps, params := ps, assign, body, defers := w.heap.size } := ⟨_, rfl⟩
  obtain ⟨W1, hW1⟩ : ∃ W1, (w.alloc (.deferred (some []))).alloc (.loop rc) = W1 := ⟨_, rfl⟩
  have hL1 : W1.heap[w.heap.size + 1]? = some (.loop rc) := by
    rw [← hW1]; have := World.alloc_heap_new (w.alloc (.deferred (some []))) (.loop rc); rwa [World.size_alloc] at this
  have hK1 : W1.heap[w.heap.size]? = some (.deferred (some [])) := by
    rw [← hW1]; show ((w.heap.push _).push _)[w.heap.size]? = _; rw [Array.getElem?_push, if_neg (by simp), Array.getElem?_push, if_pos rfl]
  have hX1 : Ext w.heap.size w.heap W1.heap := by
    rw [← hW1]
    exact (ext_push w.heap _).trans2 (ext_push _ _) (by simp)
  have hQ1 : Qt w W1 := by rw [← hW1]; exact ⟨rfl, rfl, rfl⟩
  have hF := hw (w.heap.size + 1) w.heap.size W1.heap rc (Nat.le_refl _) (by omega) (by omega) hX1 hL1 hK1 (by subst hrc; exact ⟨rfl, rfl, rfl, rfl, rfl, hf.size, hf.get⟩) W1 rfl
  have henter : (Instr.enterLoop b.fn a.tmps ps assign body b.roundOf).run P w = .ok (w.heap.size + 1, [markD w.heap.size]) W1 := by
    rw [hro, ← hW1, hrc]; exact run_enterLoop_outer _ _ _ _ _
  have hres : (resolve a.eval (rangeCall g (w.heap.size + 1)) 0).run P W1 = .ok { target := .fn (.func gf) lb.toArray, args := #[.func (.yield (w.heap.size + 1)) #[] #[]] } W1 := by
    have hg' : a.eval g = .func (.func gf) #[] lb.toArray := by rw [hf.ev]; exact hg
    simp only [resolve, hg']
    simp [go_sem]
  have hinv : (invoke (.fn (.func gf) lb.toArray) #[.func (.yield (w.heap.size + 1)) #[] #[]]).run P W1 = .ok (.enter gf (#[.func (.yield (w.heap.size + 1)) #[] #[]] ++ lb.toArray)) W1 := by
    simp [invoke, go_sem, hcall]
  have hst := stepR_rangeFunc (P := P) (b := b) (a := a) (k := k) (cs := cs) (w := w) henter hres hinv
  obtain ⟨x, w2, fr, ⟨v, rfl, hq2, hl2, hW⟩, hcomes, hfn, hleave⟩ := hF (b.atR { a with defers := [markD w.heap.size] ++ a.defers } (.inRangeFunc (w.heap.size + 1) :: k) :: cs)
  have hargs : (Value.func (.yield (w.heap.size + 1)) #[] #[] :: lb).toArray = #[.func (.yield (w.heap.size + 1)) #[] #[]] ++ lb.toArray := by simp
  rw [hargs] at hcomes
  have hend := run_endLoop (P := P) hl2 (by rw [hrc]; simp)
  have hpe : rc.pending = none := by rw [hrc]
  rw [hpe] at hend
  have hback := step_leave_returned (c := b.atR { a with defers := [markD w.heap.size] ++ a.defers } (.inRangeFunc (w.heap.size + 1) :: k)) (cs := cs) hleave
  rw [finish_atR_inRangeFunc] at hback
  have hst2 := stepR_endRangeFunc (b := b) (a := { a with defers := [markD w.heap.size] ++ a.defers }) (k := k) (cs := cs) hend
  obtain ⟨j, e', a', w', fr', hf', hq', hR', hla', hs'⟩ := hW _ ⟨World.putObj_size, fun i hi => World.putObj_heap_other hi⟩ b cs { a with defers := [markD w.heap.size] ++ a.defers } _ hro
    ⟨by simp [hf.defers], hf.size, hf.get⟩ rfl
  refine ⟨j, e', a', w', fr', hf', (hQ1.trans hq2).trans ⟨hq'.os, hq'.tape, hq'.output⟩, hR', hla', ?_⟩
  exact .head hst (Steps.trans hcomes (.head hback (.head hst2 hs')))

/-- The marks are come to at the return. -/
theorem steps_marks {b : Frame} {cs : List Frame} {tmps : Array Value} {todo : List Item} : ∀ (Ds : List Nat) (w : World), Ds.Nodup → DsOk Ds w.heap →
    ∃ w', Qt w w' ∧ Cel w.heap w'.heap ∧ w'.heap.size = w.heap.size ∧ (∀ i : Nat, i ∉ Ds → w'.heap[i]? = w.heap[i]?) ∧
      Steps P (lone { b.atR ⟨tmps, Ds.map markD⟩ todo with mode := .returning } cs w) (lone { b.atR ⟨tmps, []⟩ todo with mode := .returning } cs w')
  | [], w, _, _ => ⟨w, Qt.refl _, Cel.refl _, rfl, fun _ _ => rfl, .refl _ _⟩
  | D :: Ds, w, hnd, hd => by
    rw [List.nodup_cons] at hnd
    have hD := hd D (List.mem_cons_self ..)
    have hlt : D < w.heap.size := (Array.getElem?_eq_some_iff.1 hD).1
    have hk := run_takeDeferred (P := P) hD
    have hd2 : DsOk Ds (w.putObj D (.deferred none)).heap := fun d hd' => (World.putObj_heap_other (fun e => hnd.1 (by rw [← e]; exact hd'))).trans (hd d (List.mem_cons_of_mem _ hd'))
    obtain ⟨w', hq, hc, hsz, hb, hs⟩ := steps_marks Ds (w.putObj D (.deferred none)) hnd.2 hd2
    have h1 := step_collected (P := P) (fr := { b.atR ⟨tmps, (D :: Ds).map markD⟩ todo with mode := .returning }) (cs := cs) (w := w) (d := markD D) (r := D) (ds := Ds.map markD) (by simp) rfl rfl hk
    have hcb : ChgB D w.heap (w.putObj D (.deferred none)).heap := ⟨World.putObj_size, fun i hi => World.putObj_heap_other hi⟩
    refine ⟨w', ⟨hq.os, hq.tape, hq.output⟩, (cel_of_chgB hcb hD (by intro c t f e; cases e)).trans hc, hsz.trans World.putObj_size, fun i hi => ?_, .head h1 hs⟩
    rw [List.mem_cons, not_or] at hi
    rw [hb i hi.2]
    exact World.putObj_heap_other hi.1

/-- The return of a function that has ranged over functions. -/
theorem wi_retD {Ds : List Nat} (hnd : Ds.Nodup) (hd : DsOk Ds h) (hR : ∀ h2, Cel h h2 → h2.size = h.size → (∀ i : Nat, i ∉ Ds → h2[i]? = h[i]?) → R (some .ret) e h2) : WpI ⟨none, Ds.map markD⟩ P n (.code .ret :: k) R e h := by
  intro b cs a w hro hf hh
  subst hh
  obtain ⟨tmps, ds⟩ := a
  have hdf : ds = Ds.map markD := hf.defers
  subst hdf
  obtain ⟨w', hq, hc, hsz, hb, hs⟩ := steps_marks (P := P) (b := b) (cs := cs) (tmps := tmps) (todo := .code .ret :: k) Ds w hnd hd
  exact ⟨some .ret, e, ⟨tmps, []⟩, w', _, ⟨rfl, hf.size, hf.get⟩, hq, hR _ hc hsz hb, ⟨_, rfl⟩, .head (stepR_ret hro) hs⟩
theorem ext_marks2 {B : Nat} {Ds : List Nat} {h0 h h2 : Heap} (hx : Ext B h0 h) (hd : DsOk Ds h) (hD : ∀ D ∈ Ds, B ≤ D) (hsz : h2.size = h.size) (hb : ∀ i : Nat, i ∉ Ds → h2[i]? = h[i]?) : Ext B h0 h2 :=
  ⟨by have := hx.size; omega, fun i hi => (hb i fun hm => by have := hD i hm; omega).trans (hx.block i hi)⟩
/-- A loop whose rounds may leave marks: the marks go with the state. -/
theorem wi_loopD {σ : Type} {body : Code} (W : Nat → Bool) (Ls : σ → List (Nat × Value)) (Dl : σ → List Nat) (I : σ → Heap → Prop) (μ : σ → Nat) (s0 : σ) (hL : Has e (Ls s0)) (h0 : I s0 h)
    (round : ∀ (g : Env) (s : σ) (hh : Heap), I s hh →
      (∀ (e' : Env) (h' : Heap) (s' : σ), Agree W e e' → Has e' (Ls s') → I s' h' → μ s' < μ s → WpI ⟨none, (Dl s').map markD⟩ P n (.inLoop body :: k) R e' h') →
      WpI ⟨none, (Dl s).map markD⟩ P n (.code body :: .inLoop body :: k) R (ups (Ls s) (mixE W g e)) hh) :
    WpI ⟨none, (Dl s0).map markD⟩ P n (.code (.loop body) :: k) R e h := by
  have key : ∀ (m : Nat) (s : σ) (e1 : Env) (hh : Heap), μ s = m → Agree W e e1 → Has e1 (Ls s) → I s hh → WpI ⟨none, (Dl s).map markD⟩ P n (.code body :: .inLoop body :: k) R e1 hh := by
    intro m
    induction m using Nat.strongRecOn with
    | _ m ih =>
      intro s e1 hh hm ha hL1 hI
      have hr := round e1 s hh hI (fun e' h' s' ha' hL' hI' hlt => of_step (fun _ _ _ _ _ => stepR_inLoop) (ih (μ s') (hm ▸ hlt) s' e' h' rfl ha' hL' hI'))
      rwa [mix_agree ha, ups_has hL1] at hr
  exact of_step (fun _ _ _ _ _ => stepR_loop) (key _ s0 e h rfl (fun _ _ => rfl) hL h0)
end

/-! ### Contracts of functions that are ranged over -/

/-- What an iterator leaves alone: all but cells of its type, loops and marks. -/
def Keep (T : Nat) (o : Obj) : Prop := (∀ c f, o ≠ .cells c T f) ∧ (∀ d, o ≠ .deferred d) ∧ ∀ r, o ≠ .loop r
/-- All but cells of the type 'T', loops and marks below block 'N' is as it was. -/
def Qk (T N : Nat) (h h' : Heap) : Prop := h.size ≤ h'.size ∧ ∀ (b : Nat) (o : Obj), b < N → h[b]? = some o → Keep T o → h'[b]? = some o
theorem Qk.refl (T N : Nat) (h : Heap) : Qk T N h h := ⟨Nat.le_refl _, fun _ _ _ hb _ => hb⟩
theorem Qk.trans {T N : Nat} {a b c : Heap} (h : Qk T N a b) (k : Qk T N b c) : Qk T N a c := ⟨Nat.le_trans h.1 k.1, fun i o hi hb ho => k.2 i o hi (h.2 i o hi hb ho) ho⟩
theorem Qk.of_ext {T N : Nat} {h h' : Heap} (hx : Ext h.size h h') : Qk T N h h' := ⟨hx.size, fun b o _ hb _ => (hx.block b (Array.getElem?_eq_some_iff.1 hb).1).trans hb⟩
theorem Qk.of_loop {T N : Nat} {h h' : Heap} {l : Nat} {rc : Loop} (hx : ChgB l h h') (hl : h[l]? = some (.loop rc)) : Qk T N h h' :=
  ⟨Nat.le_of_eq hx.size.symm, fun b o _ ho hn => (hx.block b fun e => by
    subst e
    rw [hl] at ho
    exact hn.2.2 _ (Option.some.inj ho).symm).trans ho⟩
/-- All cells of the type 'T', and all marks, are as they were. -/
def Tk (T : Nat) (h h' : Heap) : Prop := h.size ≤ h'.size ∧ (∀ (b : Nat) (c : Array Value) (f : Nat × Nat), h[b]? = some (.cells c T f) → h'[b]? = some (.cells c T f)) ∧ ∀ (b : Nat) (d : Option (List Deferred)), h[b]? = some (.deferred d) → h'[b]? = some (.deferred d)
theorem Tk.refl (T : Nat) (h : Heap) : Tk T h h := ⟨Nat.le_refl _, fun _ _ _ hb => hb, fun _ _ hb => hb⟩
theorem Tk.trans {T : Nat} {a b c : Heap} (h : Tk T a b) (k : Tk T b c) : Tk T a c := ⟨Nat.le_trans h.1 k.1, fun i c f hb => k.2.1 i c f (h.2.1 i c f hb), fun i d hb => k.2.2 i d (h.2.2 i d hb)⟩
theorem Tk.of_ext {T : Nat} {h h' : Heap} (hx : Ext h.size h h') : Tk T h h' := ⟨hx.size, fun b c f hb => (hx.block b (Array.getElem?_eq_some_iff.1 hb).1).trans hb, fun b d hb => (hx.block b (Array.getElem?_eq_some_iff.1 hb).1).trans hb⟩
theorem Tk.of_chg {α : Type} {E : Enc α} {T : Nat} {h h' : Heap} {v : Value} {B : Nat} {t : TypeId} {xs : List α} (hx : Chg v h h') (ho : OwE E h B t v xs) (hne : t ≠ T) : Tk T h h' := by
  refine ⟨hx.size, fun b c f hb => (hx.block b (Array.getElem?_eq_some_iff.1 hb).1 fun e => ?_).trans hb, fun b d hb => (hx.block b (Array.getElem?_eq_some_iff.1 hb).1 fun e => ?_).trans hb⟩
  · rcases ho.2 with ⟨rfl, _⟩ | ⟨g, cap, cur, rfl, _, hg, _⟩
    · cases e
    · simp only [Value.ownBlock, Option.some.injEq] at e
      subst e
      rw [hb] at hg
      simp only [Option.some.injEq, Obj.cells.injEq] at hg
      exact hne hg.2.1.symm
  · rcases ho.2 with ⟨rfl, _⟩ | ⟨g, cap, cur, rfl, _, hg, _⟩
    · cases e
    · simp only [Value.ownBlock, Option.some.injEq] at e
      subst e
      rw [hb] at hg
      cases hg
theorem Tk.of_chgB {T : Nat} {h h' : Heap} {bn : Nat} {cs : Array Value} {t : TypeId} (hx : ChgB bn h h') (hb : Blk h bn cs t) (hne : t ≠ T) : Tk T h h' :=
  ⟨Nat.le_of_eq hx.size.symm, fun b c f ho => (hx.block b fun e => by
    subst e
    rw [show h[b]? = _ from hb] at ho
    simp only [Option.some.injEq, Obj.cells.injEq] at ho
    exact hne ho.2.1).trans ho, fun b d ho => (hx.block b fun e => by
    subst e
    rw [show h[b]? = _ from hb] at ho
    cases ho).trans ho⟩
theorem Tk.of_loop {T : Nat} {h h' : Heap} {l : Nat} {rc : Loop} (hx : ChgB l h h') (hl : h[l]? = some (.loop rc)) : Tk T h h' :=
  ⟨Nat.le_of_eq hx.size.symm, fun b c f ho => (hx.block b fun e => by subst e; rw [hl] at ho; cases ho).trans ho, fun b d ho => (hx.block b fun e => by subst e; rw [hl] at ho; cases ho).trans ho⟩
theorem Tk.blk {T : Nat} {h h' : Heap} {bn : Nat} {cs : Array Value} (hx : Tk T h h') (hb : Blk h bn cs T) : Blk h' bn cs T := hx.2.1 _ _ _ hb
theorem Tk.dso {T : Nat} {h h' : Heap} {Ds : List Nat} (hx : Tk T h h') (hd : DsOk Ds h) : DsOk Ds h' := fun D hD => hx.2.2 D _ (hd D hD)

/-- What the iterator leaves as it was, between two rounds. -/
def Quiet (T B0 : Nat) (h h' : Heap) : Prop := Ext B0 h h' ∧ Qk T h.size h h'
section
variable {T B0 : Nat} {h h' : Heap}
theorem Quiet.obj (hq : Quiet T B0 h h') {b : Nat} {o : Obj} (ho : h[b]? = some o) (hb : b < B0) : h'[b]? = some o := (hq.1.block b hb).trans ho
theorem Quiet.blk (hq : Quiet T B0 h h') {b : Nat} {cs : Array Value} {t : TypeId} (hb : Blk h b cs t) (hne : t ≠ T) : Blk h' b cs t :=
  hq.2.2 b _ hb.lt hb ⟨fun c f e => by simp only [Obj.cells.injEq] at e; exact hne e.2.1, ⟨fun d e => (by cases e), fun r e => (by cases e)⟩⟩
theorem Quiet.owE {α : Type} {E : Enc α} (hq : Quiet T B0 h h') {v : Value} {B : Nat} {t : TypeId} {xs : List α} (ho : OwE E h B t v xs) (hne : t ≠ T) : OwE E h' B t v xs := by
  refine ⟨ho.1, ?_⟩
  rcases ho.2 with h1 | ⟨g, cap, cur, rfl, hB, hg, r⟩
  · exact .inl h1
  · exact .inr ⟨g, cap, cur, rfl, hB, hq.2.2 g _ (Array.getElem?_eq_some_iff.1 hg).1 hg ⟨fun c f e => by simp only [Obj.cells.injEq] at e; exact hne e.2.1, ⟨fun d e => (by cases e), fun r e => (by cases e)⟩⟩, r⟩
theorem Quiet.dso (hq : Quiet T B0 h h') {Ds : List Nat} (hd : DsOk Ds h) (hb : ∀ d ∈ Ds, d < B0) : DsOk Ds h' := fun D hD => hq.obj (hd D hD) (hb D hD)
theorem Quiet.ext (hq : Quiet T B0 h h') {B : Nat} {h0 : Heap} (hx : Ext B h0 h) (hB : B ≤ B0) : Ext B h0 h' := hx.trans (hq.1.mono hB)
end

/-- What is known between rounds, 'k' of which have been. -/
def JS (T B0 : Nat) (J : Nat → Heap → Prop) : Prop := ∀ k h1 h2, J k h1 → Quiet T B0 h1 h2 → J k h2
/-- The rounds' word. -/
def Yields (P : Program) (l T : Nat) (args : Nat → List Value) (N : Nat) (J : Nat → Heap → Prop) : Prop :=
  ∀ k h1, k < N → J k h1 → YieldOk P l (args k) h1 fun h2 => Tk T h1 h2 ∧ J (k + 1) h2
/-- A function that is ranged over: it yields 'args 0', 'args 1', .. as long as 'Cap' holds of what it has captured; it keeps its own state in cells of the type 'T'. -/
def SeqC (P : Program) (gf : Nat) (lb : List Value) (T : Nat) (Cap : Heap → Prop) (N : Nat) (args : Nat → List Value) : Prop :=
  ∀ (l : Nat) (h : Heap) (J : Nat → Heap → Prop), JS T h.size J → (∀ k h1, J k h1 → Cap h1) → Yields P l T args N J → J 0 h →
    Fx P gf (.func (.yield l) #[] #[] :: lb) h fun _ h' => h.size ≤ h'.size ∧ J N h'
theorem DsOk.chgL {Ds : List Nat} {h h' : Heap} {l : Nat} {rc : Loop} (hd : DsOk Ds h) (hl : h[l]? = some (.loop rc)) (hc : ChgB l h h') : DsOk Ds h' := fun D hD => (hc.block D fun e => by
  subst e
  have := hd D hD
  rw [hl] at this; cases this).trans (hd D hD)
theorem cel_loop {h h' : Heap} {l : Nat} {rc : Loop} (hc : ChgB l h h') (hl : h[l]? = some (.loop rc)) : Cel h h' := cel_of_chgB hc hl (by intro c t f e; cases e)
theorem nc_loop {h h' : Heap} {l : Nat} {rc : Loop} (hn : Nc h h') (hl : h[l]? = some (.loop rc)) : h'[l]? = some (.loop rc) := hn.2 l _ hl (by intro c t f e; cases e)

section
variable {P : Program} {S : Heap → Prop} {kd : Oper → Kd} {ops : Array Oper} {rest : List Oper} {K : Env → Heap → Prop} {L : List (Nat × Value)} {b : Env} {h : Heap}
variable {d : Nat} {t : TypeId} {p : String} {af : Array Edge} {g : Option (Nat × Bool)} {x : Operand}
/-- yield is called. -/
theorem lx_yield {args : Array Operand} {tys : Array TypeId} {l : Nat} {Ry : Heap → Prop} (vs : List Value) (hw : Region.wanted ⟨some d, .call { callee := .value x, args, argTypes := tys }, t, p, af, g⟩ (yieldE ops (ups L b)) = true) (hk : kd ⟨some d, .call { callee := .value x, args, argTypes := tys }, t, p, af, g⟩ = .eff)
    (hx : ev (ups L b) x = .func (.yield l) #[] #[]) (hv : args.toList.map (ev (ups L b)) = vs) (hy : YieldOk P l vs h Ry) (hS : ∀ h', S h → S h')
    (hn : ∀ h', Ry h' → Lx P S kd ops rest K (ups ((d, .bool true) :: L) b) h') : Lx P S kd ops (⟨some d, .call { callee := .value x, args, argTypes := tys }, t, p, af, g⟩ :: rest) K (ups L b) h :=
  lx_eff hw hk fun hSh w hh => by
    subst hh; subst hv
    obtain ⟨fn, tmps, assign, body, h1, h2⟩ := hy w rfl
    have e1 : args.map (ev (ups L b)) = (args.toList.map (ev (ups L b))).toArray := by rw [← Array.toList_map]
    have hrun : (execOp (ev (ups L b)) ⟨some d, .call { callee := .value x, args, argTypes := tys }, t, p, af, g⟩).run P w = .ok (.round l fn tmps assign body) w := by
      simp only [execOp, resolve, hx, Deferred.ofValue, invoke, Sem.run_bind, Sem.run_pure, Result.andThen_ok, e1, Array.append_empty, Array.empty_append, h1]
    rw [hrun]
    exact ⟨Qt.refl _, h2.mono fun x' w' ⟨a, b', c⟩ => ⟨_, a, b', hS _ hSh, hn _ c⟩⟩
end
end Go.X
namespace Go.X
theorem gt_ext {α : Type} [Inhabited α] {xs ys : List α} (hl : xs.length = ys.length) (h : ∀ j, j < xs.length → gt xs j = gt ys j) : xs = ys := by
  apply List.ext_getElem hl
  intro i h1 h2
  have := h i h1
  rwa [gt_eq h1, gt_eq h2] at this
theorem gt_set {α : Type} [Inhabited α] {xs : List α} {i j : Nat} {x : α} (hi : i < xs.length) : gt (xs.set i x) j = if j = i then x else gt xs j := by
  unfold gt
  simp only [List.getD_eq_getElem?_getD, List.getElem?_set]
  by_cases h : i = j
  · subst h; simp [hi]
  · rw [if_neg h, if_neg (fun e => h e.symm)]
theorem gt_append_left {α : Type} [Inhabited α] {xs ys : List α} {i : Nat} (hi : i < xs.length) : gt (xs ++ ys) i = gt xs i := by
  simp [gt, List.getElem?_append_left hi]
theorem gt_append_right {α : Type} [Inhabited α] {xs : List α} {y : α} : gt (xs ++ [y]) xs.length = y := by
  simp [gt]
theorem gt_replicate {α : Type} [Inhabited α] {n i : Nat} {a : α} (hi : i < n) : gt (List.replicate n a) i = a := by
  rw [gt_eq (by simpa using hi)]; simp
theorem gt_mem {α : Type} [Inhabited α] {xs : List α} {i : Nat} (hi : i < xs.length) : gt xs i ∈ xs := by rw [gt_eq hi]; exact List.getElem_mem hi
theorem mem_gt {α : Type} [Inhabited α] {xs : List α} {x : α} (h : x ∈ xs) : ∃ i, i < xs.length ∧ gt xs i = x := by
  obtain ⟨i, hi, he⟩ := List.getElem_of_mem h
  exact ⟨i, hi, by rw [gt_eq hi, he]⟩

/-- The elements 'i' and 'j' exchanged. -/
def swp (xs : List Int) (i j : Nat) : List Int := (xs.set i (gt xs j)).set j (gt xs i)
theorem swp_length (xs : List Int) (i j : Nat) : (swp xs i j).length = xs.length := by simp [swp]
theorem gt_swp {xs : List Int} {i j : Nat} (hi : i < xs.length) (hj : j < xs.length) (k : Nat) : gt (swp xs i j) k = if k = j then gt xs i else if k = i then gt xs j else gt xs k := by
  unfold swp
  rw [gt_set (by simpa using hj), gt_set hi]
/-- The elements 'i' and 'j' put in order. -/
def exch (xs : List Int) (i j : Nat) : List Int := if gt xs j < gt xs i then swp xs i j else xs
theorem exch_length (xs : List Int) (i j : Nat) : (exch xs i j).length = xs.length := by unfold exch; split <;> simp [swp_length]

end Go.X
namespace Go.X
/-- A slice's header. -/
structure Hdr where
  a : Option Addr
  n : Nat
  c : Nat
def Hdr.v (x : Hdr) : Value := .slice x.a x.n x.c
instance : Inhabited Hdr := ⟨⟨none, 0, 0⟩⟩
def hdrOf : Value → Hdr
  | .slice a n c => ⟨a, n, c⟩
  | _ => default
def encHd : Enc Hdr := ⟨1, fun x => [.slice x.a x.n x.c], fun _ => rfl, fun _ _ hu => by simp at hu; subst hu; rfl, Nat.one_pos⟩
theorem hdr_rd {h : Heap} {v : Value} {n : Nat} {cs : List Value} (hr : Rd h v n cs) : (hdrOf v).v = v := by
  obtain ⟨a, cap, rfl, _⟩ := hr; rfl
theorem hdr_cells {h : Heap} {v : Value} {n : Nat} {cs : List Value} (hr : Rd h v n cs) : v.cells.toList = encHd.f (hdrOf v) := by
  obtain ⟨a, cap, rfl, _⟩ := hr; rfl
theorem hdr_cells1 {h : Heap} {v : Value} {n : Nat} {cs : List Value} (hr : Rd h v n cs) : [v].map (fun u => u.cells.toList) = [hdrOf v].map encHd.f := by
  obtain ⟨a, cap, rfl, _⟩ := hr; rfl
section
variable {α β : Type} {E : Enc α} {E' : Enc β} {h h' : Heap} {B B' : Nat} {e e' e2 : TypeId} {v w w' : Value} {xs ws : List α} {ys : List β} {bn : Nat} {cs : Array Value} {t : TypeId} {hs : List Hdr} {rows : List (List α)} {i : Nat}

/-- Things of our own whose cells are of different types lie apart. -/
theorem dj_ty (ho : OwE E h B e v xs) (ho' : OwE E' h B' e' w ys) (hne : e ≠ e') : Dj v w := by
  rcases ho.2 with ⟨rfl, _⟩ | ⟨g, cap, cur, rfl, _, hg, _⟩
  · exact dj_nil_l _
  · rcases ho'.2 with ⟨rfl, _⟩ | ⟨g', cap', cur', rfl, _, hg', _⟩
    · exact dj_nil_r _
    · intro k h1 h2
      simp only [Value.ownBlock, Option.some.injEq] at h1 h2
      subst h1; subst h2
      rw [hg] at hg'
      simp only [Option.some.injEq, Obj.cells.injEq] at hg'
      exact hne hg'.2.1
theorem nb_ty (ho : OwE E h B e v xs) (hb : Blk h bn cs t) (hne : e ≠ t) : v.ownBlock ≠ some bn := by
  rcases ho.2 with ⟨rfl, _⟩ | ⟨g, cap, cur, rfl, _, hg, _⟩
  · exact nb_nil _
  · intro h1
    simp only [Value.ownBlock, Option.some.injEq] at h1
    subst h1
    rw [show h[g]? = _ from hb] at hg
    simp only [Option.some.injEq, Obj.cells.injEq] at hg
    exact hne hg.2.1.symm

/-- A table that reads as rows. -/
def RT (E : Enc α) (h : Heap) (hs : List Hdr) (rows : List (List α)) : Prop := hs.length = rows.length ∧ ∀ i, i < rows.length → RdE E h (gt hs i).v (gt rows i)
theorem RT.ext (hr : RT E h hs rows) {B : Nat} (hx : Ext B h h') (hB : h.size ≤ B) : RT E h' hs rows := ⟨hr.1, fun i hi => (hr.2 i hi).ext hx hB⟩
theorem RT.extS (hr : RT E h hs rows) (hx : Ext h.size h h') : RT E h' hs rows := hr.ext hx (Nat.le_refl _)
theorem RT.cel (hr : RT E h hs rows) (hx : Cel h h') : RT E h' hs rows := ⟨hr.1, fun i hi => hx.rdE (hr.2 i hi)⟩

/-- A table whose rows are our own, each apart from the others. -/
def OT (E : Enc α) (h : Heap) (B : Nat) (e2 : TypeId) (hs : List Hdr) (rows : List (List α)) : Prop :=
  hs.length = rows.length ∧ (∀ i, i < rows.length → OwE E h B e2 (gt hs i).v (gt rows i)) ∧ (∀ i j, i < j → j < rows.length → Dj (gt hs i).v (gt hs j).v)
theorem OT.rt (ho : OT E h B e2 hs rows) : RT E h hs rows := ⟨ho.1, fun i hi => (ho.2.1 i hi).rd⟩
theorem OT.extS (ho : OT E h B e2 hs rows) (hx : Ext h.size h h') : OT E h' B e2 hs rows := ⟨ho.1, fun i hi => (ho.2.1 i hi).extS hx, ho.2.2⟩
theorem OT.cel (ho : OT E h B e2 hs rows) (hx : Cel h h') : OT E h' B e2 hs rows := ⟨ho.1, fun i hi => hx.owE (ho.2.1 i hi), ho.2.2⟩
theorem OT.base (ho : OT E h B e2 hs rows) (hB : B' ≤ B) : OT E h B' e2 hs rows := ⟨ho.1, fun i hi => (ho.2.1 i hi).base hB, ho.2.2⟩
theorem Quiet.ot {T B0 : Nat} (hq : Quiet T B0 h h') (ho : OT E h B e2 hs rows) (hne : e2 ≠ T) : OT E h' B e2 hs rows := ⟨ho.1, fun i hi => hq.owE (ho.2.1 i hi) hne, ho.2.2⟩
/-- All rows lie apart from a slice. -/
def Djt (hs : List Hdr) (w : Value) : Prop := ∀ i, i < hs.length → Dj (gt hs i).v w
def Nbt (hs : List Hdr) (bn : Nat) : Prop := ∀ i, i < hs.length → (gt hs i).v.ownBlock ≠ some bn
theorem OT.chg (ho : OT E h B e2 hs rows) (hx : Chg w h h') (hd : Djt hs w) : OT E h' B e2 hs rows := ⟨ho.1, fun i hi => (ho.2.1 i hi).chg hx (hd i (by rw [ho.1]; exact hi)), ho.2.2⟩
theorem OT.chgB (ho : OT E h B e2 hs rows) (hx : ChgB bn h h') (hd : Nbt hs bn) : OT E h' B e2 hs rows := ⟨ho.1, fun i hi => hx.owE (ho.2.1 i hi) (hd i (by rw [ho.1]; exact hi)), ho.2.2⟩
theorem OT.nil (E : Enc α) (h : Heap) (B : Nat) (e2 : TypeId) : OT E h B e2 [] [] := ⟨rfl, fun i hi => by simp at hi, fun i j _ hj => by simp at hj⟩
theorem OT.rep (E : Enc α) (h : Heap) (B : Nat) (e2 : TypeId) (n : Nat) : OT E h B e2 (List.replicate n default) (List.replicate n []) :=
  ⟨by simp, fun i hi => by
    simp only [List.length_replicate] at hi
    rw [gt_replicate hi, gt_replicate hi]; exact owE_nil E h B e2, fun i j hij hj => by
    simp only [List.length_replicate] at hj
    rw [gt_replicate hj]; exact dj_nil_r _⟩
theorem djt_ty (ho : OT E h B e2 hs rows) (ho' : OwE E' h B' e' w ys) (hne : e2 ≠ e') : Djt hs w := fun i hi => dj_ty (ho.2.1 i (by rw [← ho.1]; exact hi)) ho' hne
theorem nbt_ty (ho : OT E h B e2 hs rows) (hb : Blk h bn cs t) (hne : e2 ≠ t) : Nbt hs bn := fun i hi => nb_ty (ho.2.1 i (by rw [← ho.1]; exact hi)) hb hne
theorem nbt_new (ho : OT E h B e2 hs rows) (hb : h.size ≤ bn) : Nbt hs bn := fun i hi h1 => by
  have := ((ho.2.1 i (by rw [← ho.1]; exact hi)).lt h1).2
  omega
theorem djt_new (ho : OT E h B e2 hs rows) (hn : OwE E' h' h.size e' w ys) : Djt hs w := fun i hi => dj_new (ho.2.1 i (by rw [← ho.1]; exact hi)) hn
theorem djt_newT (ho : OwE E' h B' e' w ys) (hn : OT E h' h.size e2 hs rows) : Djt hs w := fun i hi => (dj_new ho (hn.2.1 i (by rw [← hn.1]; exact hi))).symm
theorem djt_app (h0 : Djt hs w) (ho : OT E h B e2 hs rows) (hg : ∀ g, w'.ownBlock = some g → w.ownBlock = some g ∨ h.size ≤ g) : Djt hs w' := fun i hi => dj_app (h0 i hi) (ho.2.1 i (by rw [← ho.1]; exact hi)) hg
theorem djt_nil (hs : List Hdr) : Djt hs (.slice none 0 0) := fun i hi => dj_nil_r _
theorem djt_nil_l (w : Value) : Djt [] w := fun i hi => by simp at hi
theorem djt_snoc (h0 : Djt hs w) (hr : (hdrOf w').v = w') (hd : Dj w' w) : Djt (hs ++ [hdrOf w']) w := fun i hi => by
  simp only [List.length_append, List.length_cons, List.length_nil] at hi
  by_cases c : i < hs.length
  · rw [gt_append_left c]; exact h0 i c
  · have : i = hs.length := by omega
    subst this
    rw [gt_append_right, hr]; exact hd
theorem nbt_set (h0 : Nbt hs bn) (hr : (hdrOf w').v = w') (hd : w'.ownBlock ≠ some bn) : Nbt (hs.set i (hdrOf w')) bn := fun j hj => by
  simp only [List.length_set] at hj
  by_cases c : i < hs.length
  · rw [gt_set c]
    split
    · rw [hr]; exact hd
    · exact h0 j hj
  · rw [List.set_eq_of_length_le (by omega)]; exact h0 j hj
/-- One more row. -/
theorem OT.snoc (ho : OT E h B e2 hs rows) (hw : OwE E h B e2 w ws) (hd : Djt hs w) : OT E h B e2 (hs ++ [hdrOf w]) (rows ++ [ws]) := by
  obtain ⟨h1, h2, h3⟩ := ho
  have hr := hdr_rd hw.rd
  refine ⟨by simp [h1], fun i hi => ?_, fun i j hij hj => ?_⟩
  · simp only [List.length_append, List.length_cons, List.length_nil] at hi
    by_cases c : i < rows.length
    · rw [gt_append_left c, gt_append_left (by omega)]; exact h2 i c
    · have e1 : i = rows.length := by omega
      subst e1
      rw [gt_append_right, ← h1, gt_append_right, hr]; exact hw
  · simp only [List.length_append, List.length_cons, List.length_nil] at hj
    rw [gt_append_left (by omega : i < hs.length)]
    by_cases c : j < rows.length
    · rw [gt_append_left (by omega)]; exact h3 i j hij c
    · have e1 : j = hs.length := by omega
      subst e1
      rw [gt_append_right, hr]; exact hd i (by omega)
/-- A row is put into its place. -/
theorem OT.set (ho : OT E h B e2 hs rows) (hi : i < rows.length) (hw : OwE E h B e2 w ws) (hd : ∀ j, j < hs.length → j ≠ i → Dj (gt hs j).v w) : OT E h B e2 (hs.set i (hdrOf w)) (rows.set i ws) := by
  obtain ⟨h1, h2, h3⟩ := ho
  have hr := hdr_rd hw.rd
  refine ⟨by simp [h1], fun j hj => ?_, fun j k hjk hk => ?_⟩
  · simp only [List.length_set] at hj
    rw [gt_set (by omega), gt_set hi]
    split
    · rw [hr]; exact hw
    · exact h2 j hj
  · simp only [List.length_set] at hk
    rw [gt_set (by omega), gt_set (by omega)]
    by_cases c1 : j = i
    · rw [if_pos c1, if_neg (by omega), hr]; exact (hd k (by omega) (by omega)).symm
    · rw [if_neg c1]
      by_cases c2 : k = i
      · rw [if_pos c2, hr]; exact hd j (by omega) c1
      · rw [if_neg c2]; exact h3 j k hjk hk
/-- A row's cells have turned. -/
theorem OT.cell (ho : OT E h B e2 hs rows) (hi : i < rows.length) (hc : Chg (gt hs i).v h h') (hw : OwE E h' B e2 (gt hs i).v ws) : OT E h' B e2 hs (rows.set i ws) := by
  obtain ⟨h1, h2, h3⟩ := ho
  refine ⟨by simp [h1], fun j hj => ?_, fun j k hjk hk => h3 j k hjk (by simpa using hk)⟩
  simp only [List.length_set] at hj
  rw [gt_set hi]
  split
  · rename_i e1; subst e1; exact hw
  · rename_i e1
    refine (h2 j hj).chg hc ?_
    rcases Nat.lt_or_gt_of_ne e1 with c | c
    · exact h3 j i c hi
    · exact (h3 i j c hj).symm
theorem djt_ne (h0 : Djt hs w) : ∀ j, j < hs.length → j ≠ i → Dj (gt hs j).v w := fun j hj _ => h0 j hj
end
end Go.X
namespace Go.Proofs.Ytdokijbdnajhgaa
open Go Go.X

theorem mo : Try.prog.follows .mixedOrders = true := by decide +kernel

theorem fl2 : Flat Try.prog 2 := Try.isAgg2

theorem fl3 : Flat Try.prog 3 := Try.isAgg3

theorem fl4 : Flat Try.prog 4 := Try.isAgg4

theorem eI22 : (Try.prog.info? 85).map (fun i => (i.zero, i.size, i.bytes)) = some (some (.agg #[.int .i64 0, .int .i64 0]), 2, 16) := by kernel_rfl

theorem eT22 : ElemT Try.prog 22 85 2 16 := elemT Try.underlying22 eI22 rfl

theorem eI23 : (Try.prog.info? 70).map (fun i => (i.zero, i.size, i.bytes)) = some (some (.slice none 0 0), 1, 24) := by kernel_rfl

theorem eT23 : ElemT Try.prog 23 70 1 24 := elemT Try.underlying23 eI23 rfl

theorem eI25 : (Try.prog.info? 3).map (fun i => (i.zero, i.size, i.bytes)) = some (some (.int .i64 0), 1, 8) := by kernel_rfl

theorem eT25 : ElemT Try.prog 25 3 1 8 := elemT Try.underlying25 eI25 rfl

theorem eZ25 : ∃ i z, Try.prog.info? 3 = some i ∧ i.zero = some z ∧ i.size = 1 ∧ i.bytes = 8 ∧ z.cells.toList = [.int .i64 0] := by obtain ⟨i, h1, h2, h3, h4⟩ := info_parts eI25; exact ⟨i, _, h1, h2, h3, h4, rfl⟩

theorem fl25 : Flat Try.prog 25 := Try.isAgg25

theorem eI29 : (Try.prog.info? 70).map (fun i => (i.zero, i.size, i.bytes)) = some (some (.slice none 0 0), 1, 24) := by kernel_rfl

theorem eT29 : ElemT Try.prog 29 70 1 24 := elemT Try.underlying29 eI29 rfl

theorem eZ29 : ∃ i z, Try.prog.info? 70 = some i ∧ i.zero = some z ∧ i.size = 1 ∧ i.bytes = 24 ∧ z.cells.toList = [.slice none 0 0] := by obtain ⟨i, h1, h2, h3, h4⟩ := info_parts eI29; exact ⟨i, _, h1, h2, h3, h4, rfl⟩

theorem fl29 : Flat Try.prog 29 := Try.isAgg29

theorem wd48 : Wide Try.prog 48 5 := ⟨Try.isAgg48, Try.sizeOf48⟩

theorem eI49 : (Try.prog.info? 25).map (fun i => (i.zero, i.size, i.bytes)) = some (some (.slice none 0 0), 1, 24) := by kernel_rfl

theorem eT49 : ElemT Try.prog 49 25 1 24 := elemT Try.underlying49 eI49 rfl

theorem eZ49 : ∃ i z, Try.prog.info? 25 = some i ∧ i.zero = some z ∧ i.size = 1 ∧ i.bytes = 24 ∧ z.cells.toList = [.slice none 0 0] := by obtain ⟨i, h1, h2, h3, h4⟩ := info_parts eI49; exact ⟨i, _, h1, h2, h3, h4, rfl⟩

theorem fl49 : Flat Try.prog 49 := Try.isAgg49

theorem eI58 : (Try.prog.info? 2).map (fun i => (i.zero, i.size, i.bytes)) = some (some (.int .i64 0), 1, 8) := by kernel_rfl

theorem eT58 : ElemT Try.prog 58 2 1 8 := elemT Try.underlying58 eI58 rfl

theorem eZ58 : ∃ i z, Try.prog.info? 2 = some i ∧ i.zero = some z ∧ i.size = 1 ∧ i.bytes = 8 ∧ z.cells.toList = [.int .i64 0] := by obtain ⟨i, h1, h2, h3, h4⟩ := info_parts eI58; exact ⟨i, _, h1, h2, h3, h4, rfl⟩

theorem fl58 : Flat Try.prog 58 := Try.isAgg58

theorem eI70 : (Try.prog.info? 4).map (fun i => (i.zero, i.size, i.bytes)) = some (some (.bool false), 1, 1) := by kernel_rfl

theorem eT70 : ElemT Try.prog 70 4 1 1 := elemT Try.underlying70 eI70 rfl

theorem eZ70 : ∃ i z, Try.prog.info? 4 = some i ∧ i.zero = some z ∧ i.size = 1 ∧ i.bytes = 1 ∧ z.cells.toList = [.bool false] := by obtain ⟨i, h1, h2, h3, h4⟩ := info_parts eI70; exact ⟨i, _, h1, h2, h3, h4, rfl⟩

theorem fl70 : Flat Try.prog 70 := Try.isAgg70

theorem wd85 : Wide Try.prog 85 2 := ⟨Try.isAgg85, Try.sizeOf85⟩

theorem bld85_2 (x y : Int) (w : World) : (Instr.build 85 #[(0, .int .i64 x), (1, .int .i64 y)]).run Try.prog w = .ok (.agg #[.int .i64 x, .int .i64 y]) w := bld2 Try.underlying85 Try.zeroValue85 Try.sizeOf3 x y w

theorem ar85 : Arr2 Try.prog 85 3 := ⟨Try.underlying85, Try.underlying3, Try.sizeOf3, fl3, Try.eqGuardType85⟩

theorem fl111 : Flat Try.prog 111 := Try.isAgg111

theorem wd119 : Wide Try.prog 119 2 := ⟨Try.isAgg119, Try.sizeOf119⟩

end Go.Proofs.Ytdokijbdnajhgaa
namespace Go.X
abbrev pb (p : List (List Bool)) (x y : Nat) : Bool := gt (gt p x) y
def Sq (p : List (List Bool)) (n : Nat) : Prop := p.length = n ∧ ∀ i, i < n → (gt p i).length = n
def rowF (n : Nat) (g : Nat → Bool) : List Bool := (List.range n).map g
def tabF (n : Nat) (f : Nat → Nat → Bool) : List (List Bool) := (List.range n).map fun x => rowF n (f x)
theorem rowF_length (n : Nat) (g : Nat → Bool) : (rowF n g).length = n := by simp [rowF]
theorem gt_rowF {n j : Nat} {g : Nat → Bool} (h : j < n) : gt (rowF n g) j = g j := by rw [gt_eq (by rw [rowF_length]; exact h)]; simp [rowF]
theorem tabF_length (n : Nat) (f : Nat → Nat → Bool) : (tabF n f).length = n := by simp [tabF]
theorem gt_tabF {n x : Nat} {f : Nat → Nat → Bool} (h : x < n) : gt (tabF n f) x = rowF n (f x) := by rw [gt_eq (by rw [tabF_length]; exact h)]; simp [tabF]
theorem tabF_sq (n : Nat) (f : Nat → Nat → Bool) : Sq (tabF n f) n := ⟨tabF_length n f, fun i hi => by rw [gt_tabF hi, rowF_length]⟩
theorem pb_tabF {n x y : Nat} {f : Nat → Nat → Bool} (hx : x < n) (hy : y < n) : pb (tabF n f) x y = f x y := by
  show gt (gt (tabF n f) x) y = _
  rw [gt_tabF hx, gt_rowF hy]
theorem row_ext {n : Nat} {g : Nat → Bool} {r : List Bool} (hl : r.length = n) (h : ∀ j, j < n → gt r j = g j) : r = rowF n g :=
  gt_ext (by rw [hl, rowF_length]) fun j hj => by rw [gt_rowF (by omega)]; exact h j (by omega)
theorem tab_ext {n : Nat} {f : Nat → Nat → Bool} {p : List (List Bool)} (hs : Sq p n) (h : ∀ x y, x < n → y < n → pb p x y = f x y) : p = tabF n f :=
  gt_ext (by rw [hs.1, tabF_length]) fun x hx => by
    rw [hs.1] at hx
    rw [gt_tabF hx]
    exact row_ext (hs.2 x hx) fun y hy => h x y hx hy
theorem tab_rows {n : Nat} {f : Nat → Nat → Bool} {p : List (List Bool)} (hl : p.length = n) (h : ∀ i, i < n → gt p i = rowF n (f i)) : p = tabF n f :=
  gt_ext (by rw [hl, tabF_length]) fun x hx => by rw [gt_tabF (by omega)]; exact h x (by omega)
theorem tabF_congr {n : Nat} {f g : Nat → Nat → Bool} (h : ∀ x y, x < n → y < n → f x y = g x y) : tabF n f = tabF n g :=
  tab_ext (tabF_sq n f) fun x y hx hy => by rw [pb_tabF hx hy]; exact h x y hx hy
theorem sq_self {p : List (List Bool)} {n : Nat} (hs : Sq p n) : p = tabF n (pb p) := tab_ext hs fun _ _ _ _ => rfl
theorem sq_set {p : List (List Bool)} {n x z : Nat} {b : Bool} (hs : Sq p n) (hx : x < n) : Sq (p.set x ((gt p x).set z b)) n := ⟨by rw [List.length_set]; exact hs.1, fun i hi => by
  rw [gt_set (by rw [hs.1]; exact hx)]
  split
  · rw [List.length_set]; exact hs.2 x hx
  · exact hs.2 i hi⟩
theorem pb_set {p : List (List Bool)} {n x z a c : Nat} {b : Bool} (hs : Sq p n) (hx : x < n) (hz : z < n) : pb (p.set x ((gt p x).set z b)) a c = if a = x ∧ c = z then b else pb p a c := by
  show gt (gt _ a) c = _
  rw [gt_set (by rw [hs.1]; exact hx)]
  by_cases h1 : a = x
  · subst h1
    rw [if_pos rfl, gt_set (by rw [hs.2 a hx]; exact hz)]
    by_cases h2 : c = z
    · rw [if_pos h2, if_pos ⟨rfl, h2⟩]
    · rw [if_neg h2, if_neg (fun h => h2 h.2)]
  · rw [if_neg h1, if_neg (fun h => h1 h.1)]
theorem id_row {n x : Nat} (hx : x < n) : (List.replicate n false).set x true = rowF n fun j => decide (x = j) :=
  row_ext (by simp) fun j hj => by
    rw [gt_set (by simpa using hx), gt_replicate hj]
    by_cases h : j = x
    · subst h; simp
    · rw [if_neg h]; symm; simp; omega

/-! ### What an order is -/
def okP (n : Nat) (f : Nat → Nat → Bool) (x y : Nat) : Prop := (x = y → f x y = true) ∧ (x ≠ y → f x y = true → f y x = false) ∧ ∀ z, z < n → f x y = true → f y z = true → f x z = true
def IsO (n : Nat) (f : Nat → Nat → Bool) : Prop := ∀ x y, x < n → y < n → okP n f x y
theorem IsO.refl {n : Nat} {f : Nat → Nat → Bool} (h : IsO n f) {x : Nat} (hx : x < n) : f x x = true := (h x x hx hx).1 rfl
theorem IsO.anti {n : Nat} {f : Nat → Nat → Bool} (h : IsO n f) {x y : Nat} (hx : x < n) (hy : y < n) (h1 : f x y = true) (h2 : f y x = true) : x = y :=
  Classical.byContradiction fun hne => by have := (h x y hx hy).2.1 hne h1; rw [h2] at this; cases this
theorem IsO.trans {n : Nat} {f : Nat → Nat → Bool} (h : IsO n f) {x y z : Nat} (hx : x < n) (hy : y < n) (hz : z < n) (h1 : f x y = true) (h2 : f y z = true) : f x z = true := (h x y hx hy).2.2 z hz h1 h2
theorem isO_mk {n : Nat} {f : Nat → Nat → Bool} (h1 : ∀ x, x < n → f x x = true) (h2 : ∀ x y, x < n → y < n → f x y = true → f y x = true → x = y) (h3 : ∀ x y z, x < n → y < n → z < n → f x y = true → f y z = true → f x z = true) : IsO n f := fun x y hx hy =>
  ⟨fun e => by subst e; exact h1 x hx, fun hne h => by
    cases hf : f y x
    · rfl
    · exact absurd (h2 x y hx hy h hf) hne, fun z hz a b => h3 x y z hx hy hz a b⟩
theorem IsO.congr {n : Nat} {f g : Nat → Nat → Bool} (h : IsO n f) (he : ∀ x y, x < n → y < n → f x y = g x y) : IsO n g :=
  isO_mk (fun x hx => by rw [← he x x hx hx]; exact h.refl hx) (fun x y hx hy a b => h.anti hx hy (by rw [he x y hx hy]; exact a) (by rw [he y x hy hx]; exact b))
    (fun x y z hx hy hz a b => by rw [← he x z hx hz]; exact h.trans hx hy hz (by rw [he x y hx hy]; exact a) (by rw [he y z hy hz]; exact b))
def ordB (n : Nat) (f : Nat → Nat → Bool) : Bool := (List.range n).all fun x => (List.range n).all fun y =>
  (!decide (x = y) || f x y) && (decide (x = y) || !f x y || !f y x) && (List.range n).all fun z => !f x y || !f y z || f x z
theorem ordB_iff {n : Nat} {f : Nat → Nat → Bool} : ordB n f = true ↔ IsO n f := by
  unfold ordB IsO
  constructor
  · intro h x y hx hy
    have h1 := List.all_eq_true.1 (List.all_eq_true.1 h x (List.mem_range.2 hx)) y (List.mem_range.2 hy)
    simp only [Bool.and_eq_true, List.all_eq_true, List.mem_range] at h1
    obtain ⟨⟨h2, h3⟩, h4⟩ := h1
    refine ⟨fun e => by simpa [e] using h2, fun hne a => ?_, fun z hz a b => ?_⟩
    · have : decide (x = y) = false := decide_eq_false hne
      rw [this, a] at h3; simpa using h3
    · have := h4 z hz
      rw [a, b] at this; simpa using this
  · intro h
    rw [List.all_eq_true]
    intro x hx
    rw [List.all_eq_true]
    intro y hy
    rw [List.mem_range] at hx hy
    obtain ⟨h1, h2, h3⟩ := h x y hx hy
    simp only [Bool.and_eq_true, List.all_eq_true, List.mem_range]
    refine ⟨⟨?_, ?_⟩, fun z hz => ?_⟩
    · by_cases e : x = y
      · rw [h1 e]; simp
      · simp [e]
    · by_cases e : x = y
      · simp [e]
      · cases a : f x y
        · simp
        · rw [h2 e a]; simp
    · cases a : f x y
      · simp
      · cases b : f y z
        · simp
        · rw [h3 z hz a b]; simp
def sqB (p : List (List Bool)) : Bool := (List.range p.length).all fun i => decide ((gt p i).length = p.length)
theorem sqB_iff {p : List (List Bool)} : sqB p = true ↔ Sq p p.length := by
  unfold sqB Sq
  rw [List.all_eq_true]
  exact ⟨fun h => ⟨rfl, fun i hi => by simpa using h i (List.mem_range.2 hi)⟩, fun h i hi => by simpa using h.2 i (List.mem_range.1 hi)⟩
def isT (p : List (List Bool)) : Bool := sqB p && ordB p.length (pb p)
theorem isT_iff {p : List (List Bool)} : isT p = true ↔ Sq p p.length ∧ IsO p.length (pb p) := by
  unfold isT
  rw [Bool.and_eq_true, sqB_iff, ordB_iff]
theorem isT_sq {p : List (List Bool)} (h : isT p = true) : Sq p p.length := (isT_iff.1 h).1
theorem isT_o {p : List (List Bool)} (h : isT p = true) : IsO p.length (pb p) := (isT_iff.1 h).2
theorem isT_tabF {n : Nat} {f : Nat → Nat → Bool} (h : IsO n f) : isT (tabF n f) = true := by
  rw [isT_iff, tabF_length]
  exact ⟨tabF_sq n f, h.congr fun x y hx hy => (pb_tabF hx hy).symm⟩
theorem ntb {b : Bool} (h : b = false) : ¬ (b = true) := by rw [h]; simp
theorem nbf {b : Bool} (h : (!b) = false) : b = true := by simpa using h
theorem nbt {b : Bool} (h : (!b) = true) : b = false := by simpa using h
theorem bad_tri {n x y z : Nat} {f : Nat → Nat → Bool} (hz : z < n) (h1 : f x y = true) (h2 : f y z = true) (h3 : f x z = false) : ¬ okP n f x y := fun o => ntb h3 (o.2.2 z hz h1 h2)
theorem bad_refl {n x y : Nat} {f : Nat → Nat → Bool} (e : x = y) (h : f x y = false) : ¬ okP n f x y := fun o => ntb h (o.1 e)
theorem bad_anti {n x y : Nat} {f : Nat → Nat → Bool} (e : x ≠ y) (h1 : f x y = true) (h2 : f y x = true) : ¬ okP n f x y := fun o => ntb (o.2.1 e h1) h2
/-- What Check answers. -/
def chkT (p : List (List Bool)) : Int := if p.length < 1 ∨ 12 < p.length then 90 else if isT p then 0 else 90
theorem chkT_ok {p : List (List Bool)} (h : chkT p = 0) : 1 ≤ p.length ∧ p.length ≤ 12 ∧ isT p = true := by
  unfold chkT at h
  split at h
  · cases h
  · split at h
    · rename_i h1 h2; exact ⟨by omega, by omega, h2⟩
    · cases h
theorem ok_chkT {p : List (List Bool)} (h1 : 1 ≤ p.length) (h2 : p.length ≤ 12) (h : isT p = true) : chkT p = 0 := by
  unfold chkT; rw [if_neg (by omega), if_pos h]
theorem chkT_size {p : List (List Bool)} (h : p.length < 1 ∨ 12 < p.length) : chkT p = 90 := if_pos h
theorem chkT_bad {p : List (List Bool)} (h : isT p = false) : chkT p = 90 := by
  unfold chkT
  split
  · rfl
  · rw [h]; rfl
theorem not_isT {p : List (List Bool)} (h : ¬ (Sq p p.length ∧ IsO p.length (pb p))) : isT p = false := by
  rw [Bool.eq_false_iff]; exact fun h' => h (isT_iff.1 h')
theorem bad_sq {p : List (List Bool)} {i : Nat} (hi : i < p.length) (h : (gt p i).length ≠ p.length) : isT p = false := not_isT fun h' => h (h'.1.2 i hi)
theorem bad_ok {p : List (List Bool)} {x y : Nat} (hx : x < p.length) (hy : y < p.length) (h : ¬ okP p.length (pb p) x y) : isT p = false := not_isT fun h' => h (h'.2 x y hx hy)
theorem chkT_cases (p : List (List Bool)) : chkT p = 0 ∨ chkT p = 90 := by
  unfold chkT; split
  · exact .inr rfl
  · split
    · exact .inl rfl
    · exact .inr rfl

/-! ### The closure of pairs -/
def warY (W : Nat → Nat → Bool) (y x z : Nat) : Bool := W x z || (W x y && W y z)
def warN (W : Nat → Nat → Bool) : Nat → Nat → Nat → Bool
  | 0 => W
  | k + 1 => warY (warN W k) k
theorem warY_col (W : Nat → Nat → Bool) (y x : Nat) : warY W y x y = W x y := by unfold warY; cases W x y <;> simp
theorem warY_row (W : Nat → Nat → Bool) (y z : Nat) : warY W y y z = W y z := by unfold warY; cases W y z <;> simp
/-- Within the pass of 'y', as far as the row 'x' and the place 'z'. -/
def warS (W : Nat → Nat → Bool) (y x z a c : Nat) : Bool := if a < x ∨ (a = x ∧ c < z) then warY W y a c else W a c
theorem warS_zero (W : Nat → Nat → Bool) (y a c : Nat) : warS W y 0 0 a c = W a c := by unfold warS; rw [if_neg (by omega)]
theorem warS_next (W : Nat → Nat → Bool) {y n x a c : Nat} (hc : c < n) : warS W y x n a c = warS W y (x + 1) 0 a c := by
  unfold warS
  by_cases h : a < x ∨ (a = x ∧ c < n)
  · rw [if_pos h, if_pos (by omega)]
  · rw [if_neg h, if_neg (by omega)]
theorem warS_end (W : Nat → Nat → Bool) {y n a c : Nat} (ha : a < n) : warS W y n 0 a c = warY W y a c := by unfold warS; rw [if_pos (.inl ha)]
theorem warS_xz (W : Nat → Nat → Bool) (y x z : Nat) : warS W y x z x z = W x z := by unfold warS; rw [if_neg (by omega)]
theorem warS_xy (W : Nat → Nat → Bool) (y x z a : Nat) : warS W y x z a y = W a y := by unfold warS; split; exact warY_col W y a; rfl
theorem warS_yz (W : Nat → Nat → Bool) (y x z c : Nat) : warS W y x z y c = W y c := by unfold warS; split; exact warY_row W y c; rfl
theorem warS_step {W : Nat → Nat → Bool} {y n x z : Nat} {r : List (List Bool)} {b : Bool} (hs : Sq r n) (hx : x < n) (hz : z < n) (hr : ∀ a c, a < n → c < n → pb r a c = warS W y x z a c) (hb : b = warY W y x z) :
    ∀ a c, a < n → c < n → pb (r.set x ((gt r x).set z b)) a c = warS W y x (z + 1) a c := fun a c ha hc => by
  rw [pb_set hs hx hz, hr a c ha hc]
  unfold warS
  by_cases h : a = x ∧ c = z
  · rw [if_pos h, if_pos (by omega), hb, h.1, h.2]
  · rw [if_neg h]
    by_cases h2 : a < x ∨ (a = x ∧ c < z)
    · rw [if_pos h2, if_pos (by omega)]
    · rw [if_neg h2, if_neg (by omega)]
/-- The value that is stored. -/
theorem warS_val {W : Nat → Nat → Bool} {y n x z : Nat} {r : List (List Bool)} (hx : x < n) (hy : y < n) (hz : z < n) (hr : ∀ a c, a < n → c < n → pb r a c = warS W y x z a c) :
    warY W y x z = (pb r x z || (pb r x y && pb r y z)) := by
  rw [hr x z hx hz, hr x y hx hy, hr y z hy hz, warS_xz, warS_xy, warS_yz]; rfl
theorem or_t {a b c : Bool} (h : a = true) : true = (a || (b && c)) := by rw [h]; rfl
theorem or_f {a b c : Bool} (h : a = false) (hb : b = false) : false = (a || (b && c)) := by rw [h, hb]; rfl
theorem or_v {a b c : Bool} (h : a = false) (hb : b = true) : c = (a || (b && c)) := by rw [h, hb]; rfl
theorem warN_trans (W : Nat → Nat → Bool) : ∀ k y, y < k → ∀ x z, warN W k x y = true → warN W k y z = true → warN W k x z = true
  | 0, y, h => absurd h (by omega)
  | k + 1, y, h => fun x z h1 h2 => by
    have ih := warN_trans W k
    show warY (warN W k) k x z = true
    have h1 : warY (warN W k) k x y = true := h1
    have h2 : warY (warN W k) k y z = true := h2
    by_cases e : y = k
    · subst e
      rw [warY_col] at h1; rw [warY_row] at h2
      unfold warY; rw [h1, h2]; simp
    · have hy : y < k := by omega
      unfold warY at h1 h2 ⊢
      rw [Bool.or_eq_true, Bool.and_eq_true] at h1 h2 ⊢
      rcases h1 with h1 | ⟨h1, h1'⟩ <;> rcases h2 with h2 | ⟨h2, h2'⟩
      · exact .inl (ih y hy x z h1 h2)
      · exact .inr ⟨ih y hy x k h1 h2, h2'⟩
      · exact .inr ⟨h1, ih y hy k z h1' h2⟩
      · exact .inr ⟨h1, h2'⟩
theorem warN_le (W : Nat → Nat → Bool) : ∀ k x z, W x z = true → warN W k x z = true
  | 0, _, _, h => h
  | k + 1, x, z, h => by show warY _ _ _ _ = true; unfold warY; rw [warN_le W k x z h]; rfl
theorem warN_in {W : Nat → Nat → Bool} {R : Nat → Nat → Prop} (ht : ∀ x y z, R x y → R y z → R x z) (h0 : ∀ x z, W x z = true → R x z) : ∀ k x z, warN W k x z = true → R x z
  | 0, x, z, h => h0 x z h
  | k + 1, x, z, h => by
    have h : warY (warN W k) k x z = true := h
    unfold warY at h
    rw [Bool.or_eq_true, Bool.and_eq_true] at h
    rcases h with h | ⟨h1, h2⟩
    · exact warN_in ht h0 k x z h
    · exact ht x k z (warN_in ht h0 k x k h1) (warN_in ht h0 k k z h2)
/-- The pairs, with all elements at most themselves. -/
def pairW (ls : List (Int × Int)) (k : Nat) (x y : Nat) : Bool := decide (x = y) || (ls.take k).any fun c => decide (c.1 = (x : Int) ∧ c.2 = (y : Int))
theorem pairW_zero (ls : List (Int × Int)) (x y : Nat) : pairW ls 0 x y = decide (x = y) := by simp [pairW]
theorem pairW_succ {ls : List (Int × Int)} {k : Nat} (hk : k < ls.length) (x y : Nat) : pairW ls (k + 1) x y = (pairW ls k x y || decide ((gt ls k).1 = (x : Int) ∧ (gt ls k).2 = (y : Int))) := by
  unfold pairW
  rw [show ls.take (k + 1) = ls.take k ++ [gt ls k] from by rw [List.take_add_one, gt_some hk]; rfl, List.any_append, Bool.or_assoc]
  simp
def closW (n : Nat) (ls : List (Int × Int)) : Nat → Nat → Bool := warN (pairW ls ls.length) n
theorem pairW_iff {ls : List (Int × Int)} {x y : Nat} : pairW ls ls.length x y = true ↔ x = y ∨ ((x : Int), (y : Int)) ∈ ls := by
  unfold pairW
  rw [List.take_length, Bool.or_eq_true, List.any_eq_true, decide_eq_true_iff]
  constructor
  · rintro (h | ⟨c, hc, h⟩)
    · exact .inl h
    · have := of_decide_eq_true h
      exact .inr (by rw [← this.1, ← this.2]; exact hc)
  · rintro (h | h)
    · exact .inl h
    · exact .inr ⟨_, h, by simp⟩
/-- A closure of pairs along which a rank rises is an order. -/
theorem clos_order {n : Nat} {ls : List (Int × Int)} (rk : Nat → Nat) (hi : ∀ x y, x < n → y < n → rk x = rk y → x = y) (hr : ∀ x y : Nat, ((x : Int), (y : Int)) ∈ ls → rk x ≤ rk y) : IsO n (closW n ls) := by
  have hle : ∀ x y, closW n ls x y = true → rk x ≤ rk y := warN_in (R := fun x y => rk x ≤ rk y) (fun _ _ _ => Nat.le_trans) (fun x z h => by
    rcases pairW_iff.1 h with h | h
    · rw [h]; exact Nat.le_refl _
    · exact hr x z h) n
  exact isO_mk (fun x hx => warN_le _ _ _ _ (pairW_iff.2 (.inl rfl))) (fun x y hx hy a b => hi x y hx hy (Nat.le_antisymm (hle x y a) (hle y x b)))
    (fun x y z hx hy hz a b => warN_trans _ n y hy x z a b)
def inR (n : Int) (c : Int × Int) : Bool := decide (0 ≤ c.1 ∧ 0 ≤ c.2 ∧ c.1 < n ∧ c.2 < n)
theorem inR_iff {n : Int} {c : Int × Int} : inR n c = true ↔ 0 ≤ c.1 ∧ 0 ≤ c.2 ∧ c.1 < n ∧ c.2 < n := by simp [inR]
/-- What Closure answers. -/
def closE (n : Int) (ls : List (Int × Int)) : Int := if n < 1 ∨ 12 < n then 1 else if ls.all (inR n) then (if ordB n.toNat (closW n.toNat ls) then 0 else 90) else 1
theorem closE_size {n : Int} {ls : List (Int × Int)} (h : n < 1 ∨ 12 < n) : closE n ls = 1 := if_pos h
theorem closE_out {n : Int} {ls : List (Int × Int)} {i : Nat} (hi : i < ls.length) (h : ¬ (0 ≤ (gt ls i).1 ∧ 0 ≤ (gt ls i).2 ∧ (gt ls i).1 < n ∧ (gt ls i).2 < n)) : closE n ls = 1 := by
  unfold closE
  split
  · rfl
  · rw [if_neg]
    intro h9
    exact h (inR_iff.1 (List.all_eq_true.1 h9 _ (gt_mem hi)))
theorem all_inR {n : Int} {ls : List (Int × Int)} (h : ∀ i, i < ls.length → inR n (gt ls i) = true) : ls.all (inR n) = true := by
  rw [List.all_eq_true]
  intro c hc
  obtain ⟨i, hi, rfl⟩ := mem_gt hc
  exact h i hi
theorem closE_ok {m : Nat} {ls : List (Int × Int)} (h1 : 1 ≤ m) (h2 : m ≤ 12) (h : ∀ i, i < ls.length → inR m (gt ls i) = true) : closE m ls = if ordB m (closW m ls) then 0 else 90 := by
  unfold closE
  rw [if_neg (by omega), if_pos (all_inR h), Int.toNat_natCast]
theorem chkT_tabF {m : Nat} {f : Nat → Nat → Bool} (h1 : 1 ≤ m) (h2 : m ≤ 12) : chkT (tabF m f) = if ordB m f then 0 else 90 := by
  have hs : sqB (tabF m f) = true := sqB_iff.2 (by rw [tabF_length]; exact tabF_sq m f)
  have ho : ordB m (pb (tabF m f)) = ordB m f := by
    rw [Bool.eq_iff_iff, ordB_iff, ordB_iff]
    exact ⟨fun h => h.congr fun x y hx hy => pb_tabF hx hy, fun h => h.congr fun x y hx hy => (pb_tabF hx hy).symm⟩
  unfold chkT isT
  rw [tabF_length, if_neg (by omega), hs, ho]
  rfl
theorem pairW_step {ls : List (Int × Int)} {p : List (List Bool)} {m k a b : Nat} (hk : k < ls.length) (hs : Sq p m) (ha : a < m) (hb : b < m) (hg : gt ls k = ((a : Int), (b : Int))) (hp : ∀ x y, x < m → y < m → pb p x y = pairW ls k x y) :
    ∀ x y, x < m → y < m → pb (p.set a ((gt p a).set b true)) x y = pairW ls (k + 1) x y := fun x y hx hy => by
  rw [pb_set hs ha hb, pairW_succ hk, hg, hp x y hx hy]
  by_cases h : x = a ∧ y = b
  · rw [if_pos h, h.1, h.2]; simp
  · rw [if_neg h, decide_eq_false (by dsimp only; omega)]; simp
theorem warN_congr {V W : Nat → Nat → Bool} {n : Nat} (h : ∀ x y, x < n → y < n → V x y = W x y) : ∀ k, k ≤ n → ∀ x y, x < n → y < n → warN V k x y = warN W k x y
  | 0, _, x, y, hx, hy => h x y hx hy
  | k + 1, hk, x, y, hx, hy => by
    have ih := warN_congr h k (by omega)
    show warY _ _ _ _ = warY _ _ _ _
    unfold warY
    rw [ih x y hx hy, ih x k hx (by omega), ih k y (by omega) hy]
theorem clos_tab {ls : List (Int × Int)} {p : List (List Bool)} {m k : Nat} (hs : Sq p m) (hk : k = ls.length) (hp : ∀ x y, x < m → y < m → pb p x y = pairW ls k x y) : tabF p.length (warN (pb p) p.length) = tabF m (closW m ls) := by
  rw [hs.1]
  subst hk
  exact tabF_congr (warN_congr hp m (Nat.le_refl m))
theorem isT_tab {m : Nat} {f : Nat → Nat → Bool} {r : List (List Bool)} (h : r = tabF m f) : isT r = ordB m f := by
  subst h
  have hs : sqB (tabF m f) = true := sqB_iff.2 (by rw [tabF_length]; exact tabF_sq m f)
  have ho : ordB m (pb (tabF m f)) = ordB m f := by
    rw [Bool.eq_iff_iff, ordB_iff, ordB_iff]
    exact ⟨fun h => h.congr fun x y hx hy => pb_tabF hx hy, fun h => h.congr fun x y hx hy => (pb_tabF hx hy).symm⟩
  unfold isT
  rw [hs, tabF_length, ho]; rfl
end Go.X
