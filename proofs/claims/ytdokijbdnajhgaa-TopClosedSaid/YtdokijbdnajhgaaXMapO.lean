/-
  Maps from integers: as they lie, and the operations on them.
-/
import Derived.Test.YtdokijbdnajhgaaXTab
import Derived.Maps.RangeRun
import Derived.MapKept
set_option linter.unusedSimpArgs false
set_option linter.unusedVariables false
namespace Go.X
open Go.MapKept
def mapEs (ms : List (Int × Value)) : Array MapEntry := (ms.zipIdx.map fun q => ({ key := .int .i64 q.1.1, val := q.1.2, born := q.2 } : MapEntry)).toArray
def mapObj (ms : List (Int × Value)) : Obj := .map (mapEs ms) ms.length
/-- Block 'l' is a map with these entries, in the order in which they came. -/
def MpO (h : Heap) (l : Nat) (ms : List (Int × Value)) : Prop := h[l]? = some (mapObj ms)
theorem MpO.lt {h : Heap} {l : Nat} {ms : List (Int × Value)} (hm : MpO h l ms) : l < h.size := (Array.getElem?_eq_some_iff.1 hm).1
theorem MpO.extS {h h' : Heap} {l : Nat} {ms : List (Int × Value)} (hm : MpO h l ms) (hx : Ext h.size h h') : MpO h' l ms := (hx.block l hm.lt).trans hm
theorem MpO.nc {h h' : Heap} {l : Nat} {ms : List (Int × Value)} (hm : MpO h l ms) (hx : Nc h h') : MpO h' l ms := hx.2 l _ hm (by intro c t f e; cases e)
theorem MpO.other {h h' : Heap} {l r : Nat} {ms : List (Int × Value)} (hm : MpO h l ms) (hx : ChgB r h h') (hne : l ≠ r) : MpO h' l ms := (hx.block l hne).trans hm
/-- Block 'r' is an iterator over the map in block 'l', of 'N' entries, some of which have come. -/
def ItO (h : Heap) (r l N : Nat) (seen : List Nat) : Prop := h[r]? = some (.mapIter (some l) N seen.toArray N)
theorem ItO.lt {h : Heap} {r l N : Nat} {seen : List Nat} (hm : ItO h r l N seen) : r < h.size := (Array.getElem?_eq_some_iff.1 hm).1
theorem ItO.extS {h h' : Heap} {r l N : Nat} {seen : List Nat} (hm : ItO h r l N seen) (hx : Ext h.size h h') : ItO h' r l N seen := (hx.block r hm.lt).trans hm
theorem ItO.nc {h h' : Heap} {r l N : Nat} {seen : List Nat} (hm : ItO h r l N seen) (hx : Nc h h') : ItO h' r l N seen := hx.2 r _ hm (by intro c t f e; cases e)

theorem nb_obj {α : Type} {E : Enc α} {h : Heap} {B : Nat} {e : TypeId} {v : Value} {xs : List α} {l : Nat} {o : Obj} (ho : OwE E h B e v xs) (hm : h[l]? = some o) (hn : ∀ c t f, o ≠ .cells c t f) : v.ownBlock ≠ some l := fun h1 => by
  rcases ho.2 with ⟨rfl, _⟩ | ⟨g, cap, cur, rfl, _, hg, _⟩
  · cases h1
  · simp only [Value.ownBlock, Option.some.injEq] at h1
    subst h1
    rw [hm] at hg
    exact hn _ _ _ (Option.some.inj hg)
theorem nb_map {α : Type} {E : Enc α} {h : Heap} {B : Nat} {e : TypeId} {v : Value} {xs : List α} {l : Nat} {ms : List (Int × Value)} (ho : OwE E h B e v xs) (hm : MpO h l ms) : v.ownBlock ≠ some l := nb_obj ho hm (by intro c t f e; cases e)
theorem nb_it {α : Type} {E : Enc α} {h : Heap} {B : Nat} {e : TypeId} {v : Value} {xs : List α} {r l N : Nat} {seen : List Nat} (ho : OwE E h B e v xs) (hm : ItO h r l N seen) : v.ownBlock ≠ some r := nb_obj ho hm (by intro c t f e; cases e)
theorem mapEs_size (ms : List (Int × Value)) : (mapEs ms).size = ms.length := by simp [mapEs]
theorem mapEs_get {ms : List (Int × Value)} {i : Nat} (hi : i < ms.length) : (mapEs ms)[i]? = some { key := .int .i64 (ms[i]).1, val := (ms[i]).2, born := i } := by
  simp [mapEs, List.getElem?_eq_getElem, hi]
theorem mapEs_push (ms : List (Int × Value)) (k : Int) (v : Value) : (mapEs ms).push { key := .int .i64 k, val := v, born := ms.length } = mapEs (ms ++ [(k, v)]) := by
  apply Array.toList_inj.1
  simp [mapEs, List.zipIdx_append]
theorem mapEs_modify {ms : List (Int × Value)} {i : Nat} (hi : i < ms.length) (k : Int) (v : Value) : (mapEs ms).modify i (fun e => { e with key := .int .i64 k, val := v }) = mapEs (ms.set i (k, v)) := by
  apply Array.ext (by simp [mapEs])
  intro j h1 h2
  have hj : j < ms.length := by simpa [mapEs] using h2
  simp only [Array.getElem_modify, mapEs, List.getElem_toArray, List.getElem_map, List.getElem_zipIdx, List.getElem_set]
  by_cases e : i = j
  · subst e; simp
  · simp [e]
theorem mapEs_keys (ms : List (Int × Value)) (d : TypeDesc) (hd : d = .int .i64) : ∀ x ∈ (mapEs ms).toList, IsKey d x.key := by
  subst hd
  intro x hx
  simp only [mapEs, List.mem_map] at hx
  obtain ⟨q, _, rfl⟩ := hx
  simp [IsKey]
/-- Where a key stands. -/
def idxM (ms : List (Int × Value)) (k : Int) : Option Nat := ms.findIdx? fun m => m.1 == k
def putM (ms : List (Int × Value)) (k : Int) (v : Value) : List (Int × Value) := match idxM ms k with
  | some i => ms.set i (k, v)
  | none => ms ++ [(k, v)]
def getM (ms : List (Int × Value)) (k : Int) (d : Value) : Value := match idxM ms k with
  | some i => ((ms[i]?).map (·.2)).getD d
  | none => d
theorem findNow_map (k : Int) : ∀ (ms : List (Int × Value)) (i : Nat), Instr.findNow (.int .i64) (.int .i64 k) ((ms.zipIdx i).map fun q => ({ key := .int .i64 q.1.1, val := q.1.2, born := q.2 } : MapEntry)) i = some ((ms.findIdx? fun m => m.1 == k).map fun j => (i + j, ((ms[j]?).map (·.2)).getD undef))
  | [], i => rfl
  | m :: ms, i => by
    simp only [List.zipIdx_cons, List.map_cons, Instr.findNow, Instr.sameNow, if_pos]
    by_cases e : m.1 = k
    · have e2 : (m.1 == k) = true := by simp [e]
      rw [List.findIdx?_cons, e2]; simp [e]
    · have e' : (k == m.1) = false := by simp [Ne.symm e]
      have e2 : (m.1 == k) = false := by simp [e]
      rw [e', List.findIdx?_cons, e2]
      simp only [findNow_map k ms (i + 1)]
      cases ms.findIdx? (fun m => m.1 == k) with
      | none => rfl
      | some j => simp; omega
theorem idxM_some {ms : List (Int × Value)} {k : Int} {i : Nat} (h : idxM ms k = some i) : i < ms.length ∧ ∃ v, ms[i]? = some (k, v) := by
  unfold idxM at h
  rw [List.findIdx?_eq_some_iff_getElem] at h
  obtain ⟨hi, h1, _⟩ := h
  refine ⟨hi, (ms[i]).2, ?_⟩
  rw [List.getElem?_eq_getElem hi]
  have : (ms[i]).1 = k := by simpa using h1
  rw [← this]
theorem idxM_none {ms : List (Int × Value)} {k : Int} (h : idxM ms k = none) : ∀ m ∈ ms, m.1 ≠ k := by
  unfold idxM at h
  rw [List.findIdx?_eq_none_iff] at h
  intro m hm e
  have := h m hm
  simp [e] at this
section
variable {P : Program} {S : Heap → Prop} {kd : Oper → Kd} {ops : Array Oper} {rest : List Oper} {K : Env → Heap → Prop} {L : List (Nat × Value)} {b : Env} {h : Heap}
variable {d : Nat} {t ty kt et : TypeId} {p : String} {af : Array Edge} {g : Option (Nat × Bool)} {x y z : Operand} {l : Nat} {ms : List (Int × Value)}
theorem lx_makeMap (hw : Region.wanted ⟨some d, .makeMap t none, ty, p, af, g⟩ (yieldE ops (ups L b)) = true) (hk : kd ⟨some d, .makeMap t none, ty, p, af, g⟩ = .eff)
    (hS : S h → ∀ h', Ext h.size h h' → S h')
    (hn : ∀ (l : Nat) (h' : Heap), l = h.size → MpO h' l [] → Ext h.size h h' → Lx P S kd ops rest K (ups ((d, .map (some l)) :: L) b) h') :
    Lx P S kd ops (⟨some d, .makeMap t none, ty, p, af, g⟩ :: rest) K (ups L b) h :=
  lx_eff hw hk fun hSh w hh => by
    subst hh
    have hrun : (execOp (ev (ups L b)) ⟨some d, .makeMap t none, ty, p, af, g⟩).run P w = .ok (.value (.map (some w.heap.size))) { w with heap := w.heap.push (.map #[] 0) } := by
      simp [execOp, Instr.makeMap, newObj, Sem.run]
    rw [hrun]
    have hx : Ext w.heap.size w.heap (w.heap.push (.map #[] 0)) := ext_push _ _
    exact ⟨⟨rfl, rfl, rfl⟩, hS hSh _ hx, hn _ _ rfl (by show (w.heap.push _)[w.heap.size]? = _; simp [mapObj, mapEs]) hx⟩
theorem lx_mapUpdate (k : Int) (u : Value) (hw : Region.wanted ⟨none, .mapUpdate t x y z, ty, p, af, g⟩ (yieldE ops (ups L b)) = true) (hk : kd ⟨none, .mapUpdate t x y z, ty, p, af, g⟩ = .eff)
    (ht : P.underlying t = some (.map kt et)) (hkt : P.underlying kt = some (.int .i64)) (hm : MpO h l ms) (hx : ev (ups L b) x = .map (some l)) (hy : ev (ups L b) y = .int .i64 k) (hz : ev (ups L b) z = u)
    (hS : ∀ h', ChgB l h h' → S h')
    (hn : ∀ h', MpO h' l (putM ms k u) → ChgB l h h' → Lx P S kd ops rest K (ups L b) h') : Lx P S kd ops (⟨none, .mapUpdate t x y z, ty, p, af, g⟩ :: rest) K (ups L b) h :=
  lx_eff hw hk fun hSh w hh => by
    subst hh; subst hz
    have hm' : w.heap[l]? = some (.map (mapEs ms) ms.length) := hm
    have hf := findNow_map k ms 0
    have hkey : IsKey (.int .i64) (.int .i64 k) := by simp [IsKey]
    have hgo : ∀ o : Obj, ChgB l w.heap (w.heap.setIfInBounds l o) := fun o => ⟨by simp, fun i hi => by rw [Array.getElem?_setIfInBounds_ne (Ne.symm hi)]⟩
    have hrun : ∃ o, o = mapObj (putM ms k (ev (ups L b) z)) ∧ (execOp (ev (ups L b)) ⟨none, .mapUpdate t x y z, ty, p, af, g⟩).run P w = .ok .skip { w with heap := w.heap.setIfInBounds l o } := by
      cases hi : ms.findIdx? (fun m => m.1 == k) with
      | none =>
        rw [hi] at hf
        have hf' : Instr.findNow (.int .i64) (.int .i64 k) (mapEs ms).toList 0 = some none := hf
        have hput : putM ms k (ev (ups L b) z) = ms ++ [(k, ev (ups L b) z)] := by unfold putM idxM; rw [hi]
        refine ⟨_, by rw [hput], ?_⟩
        simp [execOp, Instr.mapUpdate, hx, hy, run_underlying ht, MapKept.run_getObj_map hm', run_checkKey hkt hkey, run_findKey hkt hf', MapKept.run_setObj_map _ hm', Result.andThen, mapEs_push, mapObj]
      | some i =>
        obtain ⟨hil, v0, hv0⟩ := idxM_some (ms := ms) (k := k) (show idxM ms k = some i from hi)
        rw [hi] at hf
        have hf' : Instr.findNow (.int .i64) (.int .i64 k) (mapEs ms).toList 0 = some (some (i, ((ms[i]?).map (·.2)).getD undef)) := by rw [show (mapEs ms).toList = (ms.zipIdx.map fun q => ({ key := .int .i64 q.1.1, val := q.1.2, born := q.2 } : MapEntry)) from rfl, hf]; simp
        have hput : putM ms k (ev (ups L b) z) = ms.set i (k, ev (ups L b) z) := by unfold putM idxM; rw [hi]
        have hg : (mapEs ms)[i]? = some { key := .int .i64 k, val := v0, born := i } := by
          rw [mapEs_get hil]
          rw [List.getElem?_eq_getElem hil] at hv0
          rw [Option.some.inj hv0]
        refine ⟨_, by rw [hput], ?_⟩
        simp [execOp, Instr.mapUpdate, hx, hy, run_underlying ht, MapKept.run_getObj_map hm', run_checkKey hkt hkey, run_findKey hkt hf', MapKept.run_setObj_map _ hm', Result.andThen, hg, run_keyThatStays hkey, mapEs_modify hil, mapObj]
    obtain ⟨o, ho, hrun⟩ := hrun
    rw [hrun]
    have hlt := hm.lt
    exact ⟨⟨rfl, rfl, rfl⟩, hS _ (hgo o), hn _ (by subst ho; show (w.heap.setIfInBounds l _)[l]? = _; simp [hlt]) (hgo o)⟩
theorem lx_mapRange {m : Operand} (hw : Region.wanted ⟨some d, .range t m, ty, p, af, g⟩ (yieldE ops (ups L b)) = true) (hk : kd ⟨some d, .range t m, ty, p, af, g⟩ = .eff)
    (ht : P.underlying t = some (.map kt et)) (hm : MpO h l ms) (hx : ev (ups L b) m = .map (some l)) (hS : S h → ∀ h', Ext h.size h h' → S h')
    (hn : ∀ (r : Nat) (h' : Heap), r = h.size → ItO h' r l ms.length [] → Ext h.size h h' → Lx P S kd ops rest K (ups ((d, .pointer (some ⟨r, 0, none⟩)) :: L) b) h') :
    Lx P S kd ops (⟨some d, .range t m, ty, p, af, g⟩ :: rest) K (ups L b) h :=
  lx_eff hw hk fun hSh w hh => by
    subst hh
    have hm' : w.heap[l]? = some (.map (mapEs ms) ms.length) := hm
    have hrun : (execOp (ev (ups L b)) ⟨some d, .range t m, ty, p, af, g⟩).run P w = .ok (.value (.pointer (some ⟨w.heap.size, 0, none⟩))) { w with heap := w.heap.push (.mapIter (some l) ms.length #[] ms.length) } := by
      simp [execOp, Instr.range, hx, run_underlying ht, MapKept.run_getObj_map hm', Result.andThen, newObj, Sem.run]
    rw [hrun]
    have hxx : Ext w.heap.size w.heap (w.heap.push (.mapIter (some l) ms.length #[] ms.length)) := ext_push _ _
    exact ⟨⟨rfl, rfl, rfl⟩, hS hSh _ hxx, hn _ _ rfl (by show (w.heap.push _)[w.heap.size]? = _; simp) hxx⟩
/-- The next entry, whichever it is, or none. -/
theorem lx_mapNext {m : Operand} {r : Nat} {seen : List Nat} (hw : Region.wanted ⟨some d, .next m false, ty, p, af, g⟩ (yieldE ops (ups L b)) = true) (hk : kd ⟨some d, .next m false, ty, p, af, g⟩ = .eff)
    (hm : MpO h l ms) (hi : ItO h r l ms.length seen) (hx : ev (ups L b) m = .pointer (some ⟨r, 0, none⟩)) (hS : ∀ h', S h')
    (hn0 : (∀ i, i < ms.length → i ∈ seen) → Lx P S kd ops rest K (ups ((d, .tuple #[.bool false]) :: L) b) h)
    (hn1 : ∀ (i : Nat) (h' : Heap) (k : Int) (v : Value), i < ms.length → i ∉ seen → ms[i]? = some (k, v) → ItO h' r l ms.length (seen ++ [i]) → ChgB r h h' → Lx P S kd ops rest K (ups ((d, .tuple #[.bool true, .int .i64 k, v]) :: L) b) h') :
    Lx P S kd ops (⟨some d, .next m false, ty, p, af, g⟩ :: rest) K (ups L b) h :=
  lx_eff hw hk fun hSh w hh => by
    subst hh
    have hm' : w.heap[l]? = some (.map (mapEs ms) ms.length) := hm
    have hmem : ∀ e, e ∈ (mapEs ms).toList ↔ ∃ i, i < ms.length ∧ (mapEs ms)[i]? = some e := fun e => by
      rw [List.mem_iff_getElem?]
      constructor
      · rintro ⟨i, hi'⟩
        rw [Array.getElem?_toList] at hi'
        exact ⟨i, by have := (Array.getElem?_eq_some_iff.1 hi').1; rwa [mapEs_size] at this, hi'⟩
      · rintro ⟨i, _, hi'⟩; exact ⟨i, by rw [Array.getElem?_toList]; exact hi'⟩
    have hborn : ∀ e ∈ (mapEs ms).toList, e.born < ms.length := fun e he => by
      obtain ⟨i, hi', h1⟩ := (hmem e).1 he
      rw [mapEs_get hi'] at h1
      rw [← Option.some.inj h1]; exact hi'
    rcases run_next_at (P := P) w ty r l ms.length ms.length seen.toArray (mapEs ms) ms.length hi hm' hborn (Nat.le_refl _) with ⟨h0, hr⟩ | ⟨e, he, w1, hw1, hr⟩
    · have hrun : (execOp (ev (ups L b)) ⟨some d, .next m false, ty, p, af, g⟩).run P w = .ok (.value (.tuple #[.bool false])) w := by
        simp [execOp, hx, hr, Result.andThen]
      rw [hrun]
      refine ⟨Qt.refl _, hS _, hn0 fun i hil => ?_⟩
      refine Classical.byContradiction fun hns => ?_
      have : (leftOf (mapEs ms) seen.toArray).size ≠ 0 := by
        unfold leftOf
        intro h9
        rw [Array.size_eq_zero_iff, Array.filter_eq_empty_iff] at h9
        have := h9 _ (Array.mem_of_getElem? (mapEs_get hil))
        simp at this
        exact hns this
      exact this h0
    · have hew : e ∈ (mapEs ms).toList ∧ e.born ∉ seen := by
        unfold leftOf at he
        simp at he
        exact ⟨by simpa using he.1, he.2⟩
      obtain ⟨i, hil, h1⟩ := (hmem e).1 hew.1
      rw [mapEs_get hil] at h1
      have h2 := (Option.some.inj h1).symm
      subst h2
      have hrun : (execOp (ev (ups L b)) ⟨some d, .next m false, ty, p, af, g⟩).run P w = .ok (.value (.tuple #[.bool true, .int .i64 (ms[i]).1, (ms[i]).2])) (ChangeMaps.setBlock w1 r (.mapIter (some l) ms.length (seen.toArray.push i) ms.length)) := by
        simp [execOp, hx, hr, Result.andThen]
      rw [hrun]
      have hh1 : w1.heap = w.heap := by rcases hw1 with rfl | rfl <;> rfl
      have hq : Qt w (ChangeMaps.setBlock w1 r (.mapIter (some l) ms.length (seen.toArray.push i) ms.length)) := by rcases hw1 with rfl | rfl <;> exact ⟨rfl, rfl, rfl⟩
      have hlt := hi.lt
      have hc : ChgB r w.heap (ChangeMaps.setBlock w1 r (.mapIter (some l) ms.length (seen.toArray.push i) ms.length)).heap := by
        show ChgB r w.heap (w1.heap.setIfInBounds r _)
        rw [hh1]
        exact ⟨by simp, fun j hj => by rw [Array.getElem?_setIfInBounds_ne (Ne.symm hj)]⟩
      refine ⟨hq, hS _, hn1 i _ _ _ hil hew.2 (List.getElem?_eq_getElem hil) ?_ hc⟩
      show (w1.heap.setIfInBounds r _)[r]? = _
      rw [hh1]
      simp [hlt]
theorem lx_mapEntry {m : Operand} {r i : Nat} {seen : List Nat} {k : Int} {v : Value} (hw : Region.wanted ⟨some d, .entry m, ty, p, af, g⟩ (yieldE ops (ups L b)) = true) (hk : kd ⟨some d, .entry m, ty, p, af, g⟩ = .eff)
    (hm : MpO h l ms) (hi : ItO h r l ms.length (seen ++ [i])) (hg : ms[i]? = some (k, v)) (hx : ev (ups L b) m = .pointer (some ⟨r, 0, none⟩)) (hS : ∀ h', S h')
    (hn : Lx P S kd ops rest K (ups ((d, .tuple #[.int .i64 k, v]) :: L) b) h) :
    Lx P S kd ops (⟨some d, .entry m, ty, p, af, g⟩ :: rest) K (ups L b) h :=
  lx_eff hw hk fun hSh w hh => by
    subst hh
    have hm' : w.heap[l]? = some (.map (mapEs ms) ms.length) := hm
    have hil : i < ms.length := (List.getElem?_eq_some_iff.1 hg).1
    have hge : (mapEs ms)[i]? = some { key := .int .i64 k, val := v, born := i } := by
      rw [mapEs_get hil]
      rw [List.getElem?_eq_getElem hil] at hg
      rw [Option.some.inj hg]
    have hr := run_entry_at (P := P) w r l ms.length seen.toArray (mapEs ms) ms.length { key := .int .i64 k, val := v, born := i } (by rw [show seen.toArray.push i = (seen ++ [i]).toArray by simp]; exact hi) hm' (by
      rw [List.mem_iff_getElem?]; exact ⟨i, by rw [Array.getElem?_toList]; exact hge⟩) (by
      rw [show (mapEs ms).toList.map (·.born) = List.range ms.length by
        apply List.ext_getElem (by simp [mapEs])
        intro j h1 h2
        simp [mapEs]]
      exact List.nodup_range)
    have hrun : (execOp (ev (ups L b)) ⟨some d, .entry m, ty, p, af, g⟩).run P w = .ok (.value (.tuple #[.int .i64 k, v])) w := by
      simp [execOp, hx, hr, Result.andThen]
    rw [hrun]
    exact ⟨Qt.refl _, hS _, hn⟩
end
end Go.X
