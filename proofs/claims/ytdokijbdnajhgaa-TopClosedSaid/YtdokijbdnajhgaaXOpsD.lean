/-
  The rules for slice literals, appends, 'make', calls, and the comparison of arrays and structs of two integers.
-/
import Derived.Test.YtdokijbdnajhgaaXOpsC
set_option linter.unusedSimpArgs false
set_option linter.unusedVariables false
namespace Go.X

section
variable {P : Program} {S : Heap → Prop} {kd : Oper → Kd} {ops : Array Oper} {rest : List Oper} {K : Env → Heap → Prop} {L : List (Nat × Value)} {b : Env} {h : Heap}
variable {d d2 : Nat} {t t2 tx ty : TypeId} {p p2 : String} {af af2 : Array Edge} {g g2 : Option (Nat × Bool)} {x y z : Operand}
variable {α : Type} {E : Enc α} {v : Value} {xs : List α} {B : Nat} {ts el : TypeId} {bytes : Nat}

/-! ### A slice literal -/

theorem foldl_set_cells (us : List Value) : ∀ (m o : Nat) (cs : Array Value), o + m + us.length ≤ cs.size →
    ((us.zipIdx m).foldl (fun cs (q : Value × Nat) => cs.setIfInBounds (o + q.2) q.1) cs).toList = cs.toList.take (o + m) ++ us ++ cs.toList.drop (o + m + us.length) := by
  induction us with
  | nil => intro m o cs _; simp
  | cons u us ih =>
    intro m o cs hl
    simp only [List.zipIdx_cons, List.foldl_cons]
    rw [ih (m + 1) o _ (by simp at hl ⊢; omega)]
    simp only [Array.toList_setIfInBounds, List.length_cons] at hl ⊢
    have hlt : o + m < cs.toList.length := by simp; omega
    rw [List.set_eq_take_append_cons_drop, if_pos hlt]
    have e1 : (cs.toList.take (o + m)).length = o + m := by simp; omega
    rw [show o + (m + 1) = (o + m) + 1 from by omega, List.take_append, e1]
    rw [List.take_of_length_le (by rw [e1]; omega), show o + m + 1 - (o + m) = 1 from by omega]
    simp only [List.take_succ_cons, List.take_zero]
    rw [List.drop_append, e1, List.drop_of_length_le (by rw [e1]; omega), show o + m + 1 + us.length - (o + m) = us.length + 1 from by omega]
    simp only [List.drop_succ_cons, List.nil_append, List.drop_drop]
    simp [List.append_assoc]
    congr 1
    omega

theorem fill_all (E : Enc α) (us : List Value) (hus : us.map (fun u => u.cells.toList) = xs.map E.f) : ∀ (i : Nat) (cs : Array Value), cs.size = (i + us.length) * E.k →
    (Instr.fill (fun i => some (i * E.k, E.k)) cs ((us.zipIdx i).map fun q => (q.2, q.1))).map Array.toList = some (cs.toList.take (i * E.k) ++ xs.flatMap E.f) := by
  induction us generalizing xs with
  | nil =>
    intro i cs hl
    have : xs = [] := by cases xs <;> simp_all
    subst this
    simp at hl
    simp only [List.zipIdx_nil, List.map_nil, Instr.fill, Option.map_some, List.flatMap_nil, List.append_nil]
    rw [List.take_of_length_le (by simp; omega)]
  | cons u us ih =>
    intro i cs hl
    cases xs with
    | nil => simp at hus
    | cons x xs =>
      simp only [List.map_cons, List.cons.injEq] at hus
      obtain ⟨h1, h2⟩ := hus
      have hus : u.cells.size = E.k := by rw [← Array.length_toList, h1, E.len]
      have hik : i * E.k + E.k ≤ cs.size := by
        rw [hl, List.length_cons, Nat.add_mul, Nat.add_mul]; omega
      simp only [List.zipIdx_cons, List.map_cons, Instr.fill]
      have hc : (u.cells.size ≠ E.k || decide (i * E.k + u.cells.size > cs.size)) = false := by
        simp [hus]; omega
      rw [hc]
      simp only [Bool.false_eq_true, if_false]
      have hzip : ∀ c0 : Array Value, u.cells.zipIdx.foldl (fun cs (q : Value × Nat) => match q with | (c, j) => cs.setIfInBounds (i * E.k + j) c) c0 = (u.cells.toList.zipIdx.foldl (fun cs (q : Value × Nat) => cs.setIfInBounds (i * E.k + q.2) q.1) c0) := by
        intro c0
        rw [← Array.foldl_toList, Array.toList_zipIdx]
      rw [hzip]
      have h3 := foldl_set_cells (E.f x) 0 (i * E.k) cs (by rw [E.len]; simpa using hik)
      rw [h1]
      have hsz : ((E.f x).zipIdx.foldl (fun cs (q : Value × Nat) => cs.setIfInBounds (i * E.k + q.2) q.1) cs).size = cs.size := by
        rw [← Array.length_toList, h3]
        simp [E.len]
        omega
      rw [ih h2 (i + 1) _ (by rw [hsz, hl, List.length_cons]; congr 1; omega), h3]
      congr 1
      simp only [Nat.add_zero, List.flatMap_cons]
      rw [show (i + 1) * E.k = i * E.k + E.k from by rw [Nat.add_mul]; omega, E.len, ← List.append_assoc]
      congr 1
      rw [List.take_append, List.take_append, List.length_append, List.length_take, E.len, Array.length_toList]
      rw [show min (i * E.k) cs.size = i * E.k from by omega, show i * E.k + E.k - (i * E.k + E.k) = 0 from by omega, show i * E.k + E.k - i * E.k = E.k from by omega]
      rw [List.take_take, show min (i * E.k + E.k) (i * E.k) = i * E.k from by omega, List.take_of_length_le (l := E.f x) (by rw [E.len]; omega)]
      simp

/-- 'make' at any length, and literals, lay a row at the heap's end. -/
theorem owE_push {w : World} {cs : Array Value} (hcs : cs.toList = xs.flatMap E.f) (hB : B ≤ w.heap.size) (hm : xs.length ≤ maxLen) :
    OwE E (w.heap.push (.cells cs el)) B el (.slice (some ⟨w.heap.size, 0, none⟩) xs.length xs.length) xs := by
  have hl : cs.size = xs.length * E.k := by rw [← Array.length_toList, hcs, flat_length]
  exact ⟨flat_length E xs, .inr ⟨w.heap.size, xs.length, cs, rfl, hB, by simp, Nat.le_refl _, hm, hl, by rw [hcs, List.take_of_length_le (by rw [flat_length]; omega)]⟩⟩

theorem run_buildSlice (hT : ElemT P ts el E.k bytes) (us : List Value) (hus : us.map (fun u => u.cells.toList) = xs.map E.f) (hlen : us.length * E.k ≤ 16777216) (w : World) :
    ∃ cs : Array Value, cs.toList = xs.flatMap E.f ∧
      (Instr.buildSlice ts us.length (us.zipIdx.map fun q => (q.2, q.1)).toArray).run P w = .ok (.slice (some ⟨w.heap.size, 0, none⟩) us.length us.length) { w with heap := w.heap.push (.cells cs el) } := by
  obtain ⟨hu, i, z0, h1, h2, h3, h4, h5⟩ := hT
  have hz : ∀ w, (zeroValue el).run P w = .ok z0 w := by intro w; simp [zeroValue, typeInfo, h1, h2]
  have hs : ∀ w, (sizeOf el).run P w = .ok E.k w := by intro w; simp [sizeOf, typeInfo, h1, h3]
  have key : ∀ zero : Array Value, ∃ cs : Array Value, cs.toList = xs.flatMap E.f ∧ Instr.fill (fun i => some (i * E.k, E.k)) ((Array.range (us.length * E.k)).map (fun j => zero[j % zero.size]!)) (us.zipIdx.map fun q => (q.2, q.1)) = some cs := by
    intro zero
    have h6 := fill_all E us hus 0 ((Array.range (us.length * E.k)).map (fun j => zero[j % zero.size]!)) (by simp)
    cases hf : Instr.fill (fun i => some (i * E.k, E.k)) ((Array.range (us.length * E.k)).map (fun j => zero[j % zero.size]!)) (us.zipIdx.map fun q => (q.2, q.1)) with
    | none => rw [hf] at h6; simp at h6
    | some cs =>
      rw [hf] at h6
      simp only [Option.map_some, Option.some.injEq, Nat.zero_mul, List.take_zero, List.nil_append] at h6
      exact ⟨cs, h6, rfl⟩
  have hne : ¬ us.length * E.k > 2 ^ 24 := by omega
  by_cases h0 : us.length * E.k = 0
  · obtain ⟨cs, hcs, hf⟩ := key #[]
    refine ⟨cs, hcs, ?_⟩
    simp only [Instr.buildSlice, Sem.run_bind, run_underlying hu, Result.andThen_ok, hs]
    rw [if_neg hne, if_pos h0]
    simp only [Sem.run_bind, Sem.run_pure, Result.andThen_ok]
    rw [hf]
    simp [newRow, newObj, Sem.run]
  · obtain ⟨cs, hcs, hf⟩ := key z0.cells
    refine ⟨cs, hcs, ?_⟩
    simp only [Instr.buildSlice, Sem.run_bind, run_underlying hu, Result.andThen_ok, hs]
    rw [if_neg hne, if_neg h0]
    simp only [Sem.run_bind, hz, Sem.run_pure, Result.andThen_ok]
    rw [hf]
    simp [newRow, newObj, Sem.run]

/-- A slice literal: 'xs' are its elements. -/
theorem lx_buildSlice {n : Nat} {parts : Array (Nat × Operand)} (B : Nat) (xs : List α) (us : List Value) (hw : Region.wanted ⟨some d, .buildSlice ts n parts, t, p, af, g⟩ (yieldE ops (ups L b)) = true) (hk : kd ⟨some d, .buildSlice ts n parts, t, p, af, g⟩ = .new)
    (hT : ElemT P ts el E.k bytes) (hp : parts.toList.map (fun q => (q.1, ev (ups L b) q.2)) = us.zipIdx.map (fun q => (q.2, q.1))) (hl : us.length = n) (hus : us.map (fun u => u.cells.toList) = xs.map E.f) (hlen : Nat.ble (n * E.k) 16777216 = true) (hB : B ≤ h.size)
    (hS : S h → ∀ h', Ext h.size h h' → S h')
    (hn : ∀ v h', OwE E h' B el v xs → Ext h.size h h' → v.ownBlock = some h.size → h'.size = h.size + 1 → Lx P S kd ops rest K (ups ((d, v) :: L) b) h') :
    Lx P S kd ops (⟨some d, .buildSlice ts n parts, t, p, af, g⟩ :: rest) K (ups L b) h :=
  lx_new hw hk fun hSh w hh => by
    subst hh; subst hl
    have hxl : us.length = xs.length := by have := congrArg List.length hus; simpa using this
    have hlen := Nat.le_of_ble_eq_true hlen
    obtain ⟨cs, hcs, hrun⟩ := run_buildSlice (P := P) hT us hus hlen w
    have e2 : (parts.map fun (q : Nat × Operand) => match q with | (i, x) => (i, ev (ups L b) x)) = (us.zipIdx.map fun q => (q.2, q.1)).toArray := by
      rw [← hp, ← Array.toList_map]
    have hrun2 : (execOp (ev (ups L b)) ⟨some d, .buildSlice ts us.length parts, t, p, af, g⟩).run P w = .ok (.value (.slice (some ⟨w.heap.size, 0, none⟩) us.length us.length)) { w with heap := w.heap.push (.cells cs el) } := by
      simp only [execOp, Sem.run_bind]
      rw [e2, hrun]
      simp
    rw [hrun2]
    have hE : 0 < E.k := E.pos
    refine ⟨⟨rfl, rfl, rfl⟩, (ext_push _ _).grow, hS hSh _ (ext_push _ _), hn _ _ ?_ (ext_push _ _) rfl (by simp)⟩
    rw [hxl]
    refine owE_push hcs hB ?_
    have : xs.length * 1 ≤ xs.length * E.k := Nat.mul_le_mul_left _ E.pos
    rw [hxl] at hlen
    unfold maxLen
    omega

/-! ### Appends -/

theorem run_append_any (hT : ElemT P ts el E.k bytes) {w : World} {vy : Value} {ys : List α} (ho : OwE E w.heap B el v xs) (hy : RdE E w.heap vy ys) (hm : xs.length + ys.length ≤ maxLen) (hb : (xs.length + ys.length) * bytes ≤ 140737488355328) (hB : B ≤ w.heap.size) (ty : TypeId) :
    ∃ v' w', (Builtin.append_ #[ts, ts] ty #[v, vy]).run P w = .ok v' w' ∧ Qt w w' ∧ OwE E w'.heap B el v' (xs ++ ys) ∧ Chg v w.heap w'.heap ∧ (∀ g, v'.ownBlock = some g → v.ownBlock = some g ∨ w.heap.size ≤ g) := by
  obtain ⟨hu, i, z0, h1, h2, h3, h4, h5⟩ := hT
  obtain ⟨a, cap, rfl, hc, ha, hcell⟩ := hy
  cases a with
  | none =>
    have hy0 : ys = [] := List.eq_nil_of_length_eq_zero (ha rfl)
    subst hy0
    have : (Builtin.append_ #[ts, ts] ty #[v, .slice none ([] : List α).length cap]).run P w = .ok v w := by
      rcases ho.2 with ⟨rfl, h0⟩ | ⟨g, cap, cur, rfl, _, _, hnc, _⟩
      · simp [Builtin.append_, run_underlying hu, sizeOf, typeInfo, h1, Builtin.lenOf, Builtin.firstCells]
      · simp [Builtin.append_, run_underlying hu, sizeOf, typeInfo, h1, Builtin.lenOf, Builtin.firstCells, hnc, storeCells]
    exact ⟨v, w, this, Qt.refl _, by simpa using ho, Chg.refl _ _, fun g hg => .inl hg⟩
  | some ad =>
    have hone : ∀ u ∈ ys.flatMap E.f, u.oneCell' = true := by
      intro u hu'
      obtain ⟨y, _, hy⟩ := List.mem_flatMap.1 hu'
      exact E.one y u hy
    obtain ⟨v', w', hr, r1, r2, _⟩ := run_append_own (P := P) w B ts ty el i z0 E.k bytes hu h1 h2 h3 h4 h5 E.pos v xs.length (xs.flatMap E.f) ho ad ys.length cap (ys.flatMap E.f) (flat_length E ys)
      (fun j u hj => by obtain ⟨ad', he, hc'⟩ := hcell j u hj; cases he; exact hc') hone hm hb hB
    refine ⟨v', w', hr, ⟨r2.os, r2.tape, r2.output⟩, ?_, ⟨r2.size, r2.block⟩, ?_⟩
    · unfold OwE
      rw [List.length_append, List.flatMap_append]
      exact r1
    · have hcell' : ∀ j u, (ys.flatMap E.f)[j]? = some u → w.cell? (ad.add j) = some u := fun j u hj => by obtain ⟨ad', he, hc'⟩ := hcell j u hj; cases he; exact hc'
      have hsmall : xs.length + ys.length ≤ 9223372036854775807 := by simp only [maxLen] at hm; omega
      have h3' : i.size = E.k := h3
      rcases ho.2 with ⟨rfl, h0⟩ | ⟨g, cap', cur, rfl, hbg, hg, hnc, hcm, hcs, htake⟩
      · by_cases hy0 : ys.length = 0
        · have hf : ys.flatMap E.f = [] := by rw [List.eq_nil_of_length_eq_zero hy0]; rfl
          have : (Builtin.append_ #[ts, ts] ty #[.slice none 0 0, .slice (some ad) ys.length cap]).run P w = .ok (.slice none 0 0) w := by
            rw [hy0]
            simp [Builtin.append_, run_underlying hu, sizeOf, typeInfo, h1, Builtin.lenOf, Builtin.firstCells, loadCells, loadCellsFrom]
          rw [this] at hr
          cases hr
          intro g hg; cases hg
        · have := run_append_nil (P := P) w ts ty el i z0 hu h1 h2 ad ys.length cap (ys.flatMap E.f) (by rw [flat_length, h3']) hcell' (by omega) (by omega) (by rw [h4]; have hb' := hb; rw [Nat.add_mul] at hb'; omega)
          rw [this] at hr
          cases hr
          intro g hg; simp [Value.ownBlock] at hg; omega
      · by_cases hroom : xs.length + ys.length ≤ cap'
        · have := run_append_room (P := P) w ts ty el i hu h1 g xs.length cap' cur hg ad ys.length cap (ys.flatMap E.f) (by rw [flat_length, h3']) hcell' hone hroom (by rw [flat_length, hcs, h3', ← Nat.add_mul]; exact Nat.mul_le_mul_right _ hroom)
          rw [this] at hr
          cases hr
          intro g' hg'; exact .inl hg'
        · have := run_append_grow (P := P) w ts ty el i z0 hu h1 h2 ⟨g, 0, none⟩ xs.length cap' (xs.flatMap E.f) (by rw [flat_length, h3']) (fun j u hj => by
              have hrd := Own.rd ho
              obtain ⟨_, _, he, _, _, h3c⟩ := hrd
              cases he
              obtain ⟨ad', he', hc'⟩ := h3c j u hj
              cases he'
              exact hc') ad ys.length cap (ys.flatMap E.f) (by rw [flat_length, h3']) hcell' (by omega) (by omega) (growslice_fits (by omega) (by rw [h4]; exact hb))
          rw [this] at hr
          cases hr
          intro g' hg'; simp [Value.ownBlock] at hg'; omega

/-- 'append(s, y...)': 's' our own, 'y' read. -/
theorem lx_append {vy : Value} {ys : List α} (hw : Region.wanted ⟨some d, .call ⟨.builtin .append, #[x, y], #[ts, ts]⟩, t, p, af, g⟩ (yieldE ops (ups L b)) = true) (hk : kd ⟨some d, .call ⟨.builtin .append, #[x, y], #[ts, ts]⟩, t, p, af, g⟩ = .eff)
    (hT : ElemT P ts el E.k bytes) (ho : OwE E h B el v xs) (hy : RdE E h vy ys) (hx' : ev (ups L b) x = v) (hy' : ev (ups L b) y = vy) (hm : xs.length + ys.length ≤ 4611686018427387904) (hb : (xs.length + ys.length) * bytes ≤ 140737488355328) (hB : B ≤ h.size)
    (hS : ∀ h', Chg v h h' → S h')
    (hn : ∀ v' h', OwE E h' B el v' (xs ++ ys) → Chg v h h' → (∀ g, v'.ownBlock = some g → v.ownBlock = some g ∨ h.size ≤ g) → Lx P S kd ops rest K (ups ((d, v') :: L) b) h') :
    Lx P S kd ops (⟨some d, .call ⟨.builtin .append, #[x, y], #[ts, ts]⟩, t, p, af, g⟩ :: rest) K (ups L b) h :=
  lx_eff hw hk fun _ w hh => by
    subst hh
    obtain ⟨v', w', hr, hq, ho', hc, hg⟩ := run_append_any (P := P) hT ho hy (by unfold maxLen; omega) hb hB t
    have hrun : (execOp (ev (ups L b)) ⟨some d, .call ⟨.builtin .append, #[x, y], #[ts, ts]⟩, t, p, af, g⟩).run P w = .ok (.value v') w' := by
      simp only [execOp, resolve, invoke, builtin, Sem.run_bind, Sem.run_pure, Result.andThen_ok, List.map_toArray, List.map_cons, List.map_nil, hx', hy', hr]
    rw [hrun]
    exact ⟨hq, hS _ hc, hn _ _ ho' hc hg⟩

/-- 'append(s, x1, .., xm)': the literal and the append behind it. -/
theorem lx_appendL {n : Nat} {parts : Array (Nat × Operand)} (ys : List α) (us : List Value)
    (hw : Region.wanted ⟨some d, .buildSlice ts n parts, t, p, af, g⟩ (yieldE ops (ups L b)) = true) (hk : kd ⟨some d, .buildSlice ts n parts, t, p, af, g⟩ = .new)
    (hw2 : ∀ u, Region.wanted ⟨some d2, .call ⟨.builtin .append, #[x, .tmp d], #[ts, ts]⟩, t2, p2, af2, g2⟩ (yieldE ops (ups ((d, u) :: L) b)) = true) (hk2 : kd ⟨some d2, .call ⟨.builtin .append, #[x, .tmp d], #[ts, ts]⟩, t2, p2, af2, g2⟩ = .eff)
    (hT : ElemT P ts el E.k bytes) (hp : parts.toList.map (fun q => (q.1, ev (ups L b) q.2)) = us.zipIdx.map (fun q => (q.2, q.1))) (hl : us.length = n) (hus : us.map (fun u => u.cells.toList) = ys.map E.f) (hlen : Nat.ble (n * E.k) 16777216 = true)
    (ho : OwE E h B el v xs) (hx' : ∀ u, ev (ups ((d, u) :: L) b) x = v) (hm : xs.length + ys.length ≤ 4611686018427387904) (hb : (xs.length + ys.length) * bytes ≤ 140737488355328) (hB : B ≤ h.size)
    (hS : ∀ h', Chg v h h' → S h')
    (hn : ∀ u v' h', OwE E h' B el v' (xs ++ ys) → Chg v h h' → (∀ g, v'.ownBlock = some g → v.ownBlock = some g ∨ h.size ≤ g) → Lx P S kd ops rest K (ups ((d2, v') :: (d, u) :: L) b) h') :
    Lx P S kd ops (⟨some d, .buildSlice ts n parts, t, p, af, g⟩ :: ⟨some d2, .call ⟨.builtin .append, #[x, .tmp d], #[ts, ts]⟩, t2, p2, af2, g2⟩ :: rest) K (ups L b) h := by
  refine lx_buildSlice B ys us hw hk hT hp hl hus hlen hB (fun _ h' hx => hS h' (Chg.of_ext hx)) ?_
  intro vy h1 hy1 hx1 hb1 hs1
  have tr : ∀ h2, Chg v h1 h2 → Chg v h h2 := fun h2 hc => ⟨Nat.le_trans hx1.size hc.size, fun k hk hne => (hc.block k (Nat.lt_of_lt_of_le hk hx1.size) hne).trans (hx1.block k hk)⟩
  refine lx_append (hw2 vy) hk2 hT (ho.extS hx1) hy1.rd (hx' vy) (by show upd _ _ _ _ = _; rw [upd_same]) hm hb (by have := hx1.size; omega) (fun h2 hc => hS h2 (tr h2 hc)) ?_
  intro v' h2 ho2 hc2 hg2
  exact hn vy v' h2 ho2 (tr h2 hc2) (fun g hg => (hg2 g hg).imp id (fun hle => by have := hx1.size; omega))

/-! ### 'make' -/

theorem rep_flat (E : Enc α) (a : α) (n : Nat) (z : Array Value) (hz : z.toList = E.f a) : (madeCells z (n * E.k)).toList = (List.replicate n a).flatMap E.f := by
  have hzs : z.size = E.k := by rw [← Array.length_toList, hz, E.len]
  apply List.ext_getElem?
  intro j
  by_cases hj : j < n * E.k
  · have hq : j / E.k < n := Nat.div_lt_of_lt_mul (by rw [Nat.mul_comm]; exact hj)
    have hm : j % E.k < E.k := Nat.mod_lt _ E.pos
    haveI : Inhabited α := ⟨a⟩
    have h1 := flat_get E (List.replicate n a) (j / E.k) (j % E.k) (by simpa using hq) hm
    have h2 : j / E.k * E.k + j % E.k = j := by rw [Nat.mul_comm]; exact Nat.div_add_mod j E.k
    rw [h2] at h1
    rw [h1]
    have h3 : gt (List.replicate n a) (j / E.k) = a := by rw [gt_eq (by simpa using hq)]; simp
    rw [h3, ← hz]
    simp [madeCells, hj, hzs]
    have : j % E.k < z.size := by omega
    simp [this]
  · rw [List.getElem?_eq_none (by simp [madeCells]; omega), List.getElem?_eq_none (by rw [flat_length]; simp; omega)]

/-- 'make([]T, n)'. -/
theorem lx_make {n : Nat} {kl kc : IntKind} (a : α) (hw : Region.wanted ⟨some d, .makeSlice ts x y, t, p, af, g⟩ (yieldE ops (ups L b)) = true) (hk : kd ⟨some d, .makeSlice ts x y, t, p, af, g⟩ = .new)
    (hu : P.underlying ts = some (.slice el)) (hi : ∃ i z, P.info? el = some i ∧ i.zero = some z ∧ i.size = E.k ∧ i.bytes = bytes ∧ z.cells.toList = E.f a) (hx : ev (ups L b) x = .int kl ((n : Nat) : Int)) (hy : ev (ups L b) y = .int kc ((n : Nat) : Int))
    (hb : bytes * n ≤ 281474976710656) (hm : n ≤ 4611686018427387904) (hB : B ≤ h.size)
    (hS : ∀ h', Ext h.size h h' → S h')
    (hn : ∀ v h', OwE E h' B el v (List.replicate n a) → Ext h.size h h' → v.ownBlock = some h.size → Lx P S kd ops rest K (ups ((d, v) :: L) b) h') :
    Lx P S kd ops (⟨some d, .makeSlice ts x y, t, p, af, g⟩ :: rest) K (ups L b) h :=
  lx_new hw hk fun _ w hh => by
    subst hh
    obtain ⟨i, z0, h1, h2, h3, h4, h5⟩ := hi
    obtain ⟨w', hr, ho, hgr⟩ := run_make_full (P := P) w B ts el i z0 E.k hu h1 h2 h3 kl kc n (by rw [h4]; exact hb) (by unfold maxLen; omega) hB
    have hrun : (execOp (ev (ups L b)) ⟨some d, .makeSlice ts x y, t, p, af, g⟩).run P w = .ok (.value (.slice (some ⟨w.heap.size, 0, none⟩) n n)) w' := by
      simp [execOp, hx, hy, hr]
    rw [hrun]
    have hx1 : Ext w.heap.size w.heap w'.heap := ⟨hgr.size, fun k hk' => hgr.block k hk' (by simp)⟩
    refine ⟨⟨hgr.os, hgr.tape, hgr.output⟩, hx1.grow, hS _ hx1, hn _ _ ?_ hx1 rfl⟩
    unfold OwE
    rw [← rep_flat E a n z0.cells h5, List.length_replicate]
    exact ho

/-! ### Calls -/

/-- A call of a function by its contract. -/
theorem lx_call {f : Nat} {xs : Array Operand} {tys : Array TypeId} {R : Value → Heap → Prop} (vs : List Value) (hw : Region.wanted ⟨some d, .call ⟨.value (.func f), xs, tys⟩, t, p, af, g⟩ (yieldE ops (ups L b)) = true) (hk : kd ⟨some d, .call ⟨.value (.func f), xs, tys⟩, t, p, af, g⟩ = .eff)
    (hc : ∀ (args : Array Value) (w : World), (callFunc f args).run P w = .ok (.enter f args) w) (ha : xs.toList.map (ev (ups L b)) = vs) (hF : Fx P f vs h R)
    (hS : ∀ v h', R v h' → S h')
    (hn : ∀ v h', R v h' → Lx P S kd ops rest K (ups ((d, v) :: L) b) h') : Lx P S kd ops (⟨some d, .call ⟨.value (.func f), xs, tys⟩, t, p, af, g⟩ :: rest) K (ups L b) h :=
  lx_eff hw hk fun _ w hh => by
    subst ha
    have e1 : xs.map (ev (ups L b)) = (xs.toList.map (ev (ups L b))).toArray := by rw [← Array.toList_map]
    have hrun : (execOp (ev (ups L b)) ⟨some d, .call ⟨.value (.func f), xs, tys⟩, t, p, af, g⟩).run P w = .ok (.enter f (xs.toList.map (ev (ups L b))).toArray) w := by
      simp only [execOp, resolve, ev, Deferred.ofValue, invoke, Sem.run_bind, Sem.run_pure, Result.andThen_ok, e1, Array.empty_append, Array.append_empty, hc]
    rw [hrun]
    exact ⟨Qt.refl _, (hF w hh).mono fun x w'' ⟨v, hx, hq, hr⟩ => ⟨v, hx, hq, hS _ _ hr, hn _ _ hr⟩⟩

/-- A call of a function value: a function literal with what it captured, or a function of the text. -/
theorem lx_callV {f : Nat} {xs : Array Operand} {tys : Array TypeId} {R : Value → Heap → Prop} (first cap vs : List Value) (hw : Region.wanted ⟨some d, .call ⟨.value x, xs, tys⟩, t, p, af, g⟩ (yieldE ops (ups L b)) = true) (hk : kd ⟨some d, .call ⟨.value x, xs, tys⟩, t, p, af, g⟩ = .eff)
    (hc : ∀ (args : Array Value) (w : World), (callFunc f args).run P w = .ok (.enter f args) w) (hx : ev (ups L b) x = .func (.func f) first.toArray cap.toArray) (ha : xs.toList.map (ev (ups L b)) = vs) (hF : Fx P f (first ++ vs ++ cap) h R)
    (hS : ∀ v h', R v h' → S h')
    (hn : ∀ v h', R v h' → Lx P S kd ops rest K (ups ((d, v) :: L) b) h') : Lx P S kd ops (⟨some d, .call ⟨.value x, xs, tys⟩, t, p, af, g⟩ :: rest) K (ups L b) h :=
  lx_eff hw hk fun _ w hh => by
    subst ha
    have e1 : xs.map (ev (ups L b)) = (xs.toList.map (ev (ups L b))).toArray := by rw [← Array.toList_map]
    have hrun : (execOp (ev (ups L b)) ⟨some d, .call ⟨.value x, xs, tys⟩, t, p, af, g⟩).run P w = .ok (.enter f (first ++ xs.toList.map (ev (ups L b)) ++ cap).toArray) w := by
      simp only [execOp, resolve, hx, Deferred.ofValue, invoke, Sem.run_bind, Sem.run_pure, Result.andThen_ok, e1, hc]
      simp
    rw [hrun]
    exact ⟨Qt.refl _, (hF w hh).mono fun x w'' ⟨v, hx, hq, hr⟩ => ⟨v, hx, hq, hS _ _ hr, hn _ _ hr⟩⟩

end
end Go.X
