/-
  Texts in one: XMapO, XComp, XLinM, OK, OC, OD, OE, XCross, XTarski, XOSort, XOSortB.
-/
import Derived.Test.YtdokijbdnajhgaaMTar4
import Derived.Maps.RangeRun
import Derived.MapKept
import Derived.Shelf.Sort.Plain
import Derived.Ground.Names2Prog
import Derived.Shelf.Slices.CompactI
import Derived.Test.YtdokijbdnajhgaaProg
set_option linter.unusedSimpArgs false
set_option linter.unusedVariables false
namespace Go.X
open Go.MapKept
def mapEs (ms : List (Int × Value)) : Array MapEntry := (ms.zipIdx.map fun q => ({ key := .int .i64 q.1.1, val := q.1.2, born := q.2 } : MapEntry)).toArray
def mapObj (ms : List (Int × Value)) : Obj := .map (mapEs ms) ms.length
/-- Block 'l' is a map with these entries, in the order in which they came. -/
def MpO (h : Heap) (l : Nat) (ms : List (Int × Value)) : Prop := h[l]? = some (mapObj ms)
theorem MpO.lt {h : Heap} {l : Nat} {ms : List (Int × Value)} (hm : MpO h l ms) : l < h.size := (Array.getElem?_eq_some_iff.1 hm).1
theorem MpO.extS {h h' : Heap} {l : Nat} {ms : List (Int × Value)} (hm : MpO h l ms) (hx : Ext h.size h h') : MpO h' l ms := (hx.block l hm.lt).trans hm
theorem MpO.nc {h h' : Heap} {l : Nat} {ms : List (Int × Value)} (hm : MpO h l ms) (hx : Nc h h') : MpO h' l ms := hx.2 l _ hm (by intro c t f e; cases e)
theorem MpO.other {h h' : Heap} {l r : Nat} {ms : List (Int × Value)} (hm : MpO h l ms) (hx : ChgB r h h') (hne : l ≠ r) : MpO h' l ms := (hx.block l hne).trans hm
/-- Block 'r' is an iterator over the map in block 'l', of 'N' entries, some of which have come. -/
def ItO (h : Heap) (r l N : Nat) (seen : List Nat) : Prop := h[r]? = some (.mapIter (some l) N seen.toArray N)
theorem ItO.lt {h : Heap} {r l N : Nat} {seen : List Nat} (hm : ItO h r l N seen) : r < h.size := (Array.getElem?_eq_some_iff.1 hm).1
theorem ItO.extS {h h' : Heap} {r l N : Nat} {seen : List Nat} (hm : ItO h r l N seen) (hx : Ext h.size h h') : ItO h' r l N seen := (hx.block r hm.lt).trans hm
theorem ItO.nc {h h' : Heap} {r l N : Nat} {seen : List Nat} (hm : ItO h r l N seen) (hx : Nc h h') : ItO h' r l N seen := hx.2 r _ hm (by intro c t f e; cases e)

theorem nb_obj {α : Type} {E : Enc α} {h : Heap} {B : Nat} {e : TypeId} {v : Value} {xs : List α} {l : Nat} {o : Obj} (ho : OwE E h B e v xs) (hm : h[l]? = some o) (hn : ∀ c t f, o ≠ .cells c t f) : v.ownBlock ≠ some l := fun h1 => by
  rcases ho.2 with ⟨rfl, _⟩ | ⟨g, cap, cur, rfl, _, hg, _⟩
  · cases h1
  · simp only [Value.ownBlock, Option.some.injEq] at h1
    subst h1
    rw [hm] at hg
    exact hn _ _ _ (Option.some.inj hg)
theorem nb_map {α : Type} {E : Enc α} {h : Heap} {B : Nat} {e : TypeId} {v : Value} {xs : List α} {l : Nat} {ms : List (Int × Value)} (ho : OwE E h B e v xs) (hm : MpO h l ms) : v.ownBlock ≠ some l := nb_obj ho hm (by intro c t f e; cases e)
theorem nb_it {α : Type} {E : Enc α} {h : Heap} {B : Nat} {e : TypeId} {v : Value} {xs : List α} {r l N : Nat} {seen : List Nat} (ho : OwE E h B e v xs) (hm : ItO h r l N seen) : v.ownBlock ≠ some r := nb_obj ho hm (by intro c t f e; cases e)
theorem mapEs_size (ms : List (Int × Value)) : (mapEs ms).size = ms.length := by simp [mapEs]
theorem mapEs_get {ms : List (Int × Value)} {i : Nat} (hi : i < ms.length) : (mapEs ms)[i]? = some { key := .int .i64 (ms[i]).1, val := (ms[i]).2, born := i } := by
  simp [mapEs, List.getElem?_eq_getElem, hi]
theorem mapEs_push (ms : List (Int × Value)) (k : Int) (v : Value) : (mapEs ms).push { key := .int .i64 k, val := v, born := ms.length } = mapEs (ms ++ [(k, v)]) := by
  apply Array.toList_inj.1
  simp [mapEs, List.zipIdx_append]
theorem mapEs_modify {ms : List (Int × Value)} {i : Nat} (hi : i < ms.length) (k : Int) (v : Value) : (mapEs ms).modify i (fun e => { e with key := .int .i64 k, val := v }) = mapEs (ms.set i (k, v)) := by
  apply Array.ext (by simp [mapEs])
  intro j h1 h2
  have hj : j < ms.length := by simpa [mapEs] using h2
  simp only [Array.getElem_modify, mapEs, List.getElem_toArray, List.getElem_map, List.getElem_zipIdx, List.getElem_set]
  by_cases e : i = j
  · subst e; simp
  · simp [e]
/-- Where a key stands. -/
def idxM (ms : List (Int × Value)) (k : Int) : Option Nat := ms.findIdx? fun m => m.1 == k
def putM (ms : List (Int × Value)) (k : Int) (v : Value) : List (Int × Value) := match idxM ms k with
  | some i => ms.set i (k, v)
  | none => ms ++ [(k, v)]
def getM (ms : List (Int × Value)) (k : Int) (d : Value) : Value := match idxM ms k with
  | some i => ((ms[i]?).map (·.2)).getD d
  | none => d
theorem findNow_map (k : Int) : ∀ (ms : List (Int × Value)) (i : Nat), Instr.findNow (.int .i64) (.int .i64 k) ((ms.zipIdx i).map fun q => ({ key := .int .i64 q.1.1, val := q.1.2, born := q.2 } : MapEntry)) i = some ((ms.findIdx? fun m => m.1 == k).map fun j => (i + j, ((ms[j]?).map (·.2)).getD undef))
  | [], i => rfl
  | m :: ms, i => by
    simp only [List.zipIdx_cons, List.map_cons, Instr.findNow, Instr.sameNow, if_pos]
    by_cases e : m.1 = k
    · have e2 : (m.1 == k) = true := by simp [e]
      rw [List.findIdx?_cons, e2]; simp [e]
    · have e' : (k == m.1) = false := by simp [Ne.symm e]
      have e2 : (m.1 == k) = false := by simp [e]
      rw [e', List.findIdx?_cons, e2]
      simp only [findNow_map k ms (i + 1)]
      cases ms.findIdx? (fun m => m.1 == k) with
      | none => rfl
      | some j => simp; omega
theorem idxM_some {ms : List (Int × Value)} {k : Int} {i : Nat} (h : idxM ms k = some i) : i < ms.length ∧ ∃ v, ms[i]? = some (k, v) := by
  unfold idxM at h
  rw [List.findIdx?_eq_some_iff_getElem] at h
  obtain ⟨hi, h1, _⟩ := h
  refine ⟨hi, (ms[i]).2, ?_⟩
  rw [List.getElem?_eq_getElem hi]
  have : (ms[i]).1 = k := by simpa using h1
  rw [← this]
theorem idxM_none {ms : List (Int × Value)} {k : Int} (h : idxM ms k = none) : ∀ m ∈ ms, m.1 ≠ k := by
  unfold idxM at h
  rw [List.findIdx?_eq_none_iff] at h
  intro m hm e
  have := h m hm
  simp [e] at this
theorem getM_cons (m : Int × Value) (ms : List (Int × Value)) (k : Int) (d : Value) : getM (m :: ms) k d = if m.1 = k then m.2 else getM ms k d := by
  unfold getM idxM
  rw [List.findIdx?_cons]
  by_cases e : m.1 = k
  · simp [e]
  · have e2 : (m.1 == k) = false := by simp [e]
    rw [e2, if_neg e]
    cases ms.findIdx? (fun m => m.1 == k) <;> simp
theorem putM_cons (m : Int × Value) (ms : List (Int × Value)) (k : Int) (v : Value) : putM (m :: ms) k v = if m.1 = k then (k, v) :: ms else m :: putM ms k v := by
  unfold putM idxM
  rw [List.findIdx?_cons]
  by_cases e : m.1 = k
  · simp [e]
  · have e2 : (m.1 == k) = false := by simp [e]
    rw [e2, if_neg e]
    cases ms.findIdx? (fun m => m.1 == k) <;> simp
theorem get_put (k q : Int) (v d : Value) : ∀ ms : List (Int × Value), getM (putM ms k v) q d = if q = k then v else getM ms q d
  | [] => by
    show getM [(k, v)] q d = _
    rw [getM_cons]
    by_cases e : k = q
    · simp [e]
    · rw [if_neg e, if_neg (Ne.symm e)]
  | m :: ms => by
    rw [putM_cons]
    by_cases e : m.1 = k
    · rw [if_pos e, getM_cons, getM_cons]
      by_cases e2 : q = k
      · subst e2; simp
      · have e3 : m.1 ≠ q := fun h => e2 (h.symm.trans e)
        rw [if_neg (Ne.symm e2), if_neg e2, if_neg e3]
    · rw [if_neg e, getM_cons, getM_cons, get_put k q v d ms]
      by_cases e2 : q = k
      · subst e2; rw [if_neg e]; simp
      · rw [if_neg e2]; simp [e2]
/-- The map's numbers are these. -/
def MpF (ms : List (Int × Value)) (F : Int → Int) : Prop := ∀ k, getM ms k (.int .i64 0) = .int .i64 (F k)
theorem mpF_nil : MpF [] fun _ => 0 := fun _ => rfl
theorem MpF.put {ms : List (Int × Value)} {F : Int → Int} (h : MpF ms F) (k v : Int) : MpF (putM ms k (.int .i64 v)) fun q => if q = k then v else F q := fun q => by
  rw [get_put]
  show _ = Value.int .i64 (if q = k then v else F q)
  by_cases e : q = k
  · rw [if_pos e, if_pos e]
  · rw [if_neg e, if_neg e]; exact h q
theorem MpF.congr {ms : List (Int × Value)} {F G : Int → Int} (h : MpF ms F) (he : ∀ k, F k = G k) : MpF ms G := fun k => by rw [← he]; exact h k
section
variable {P : Program} {S : Heap → Prop} {kd : Oper → Kd} {ops : Array Oper} {rest : List Oper} {K : Env → Heap → Prop} {L : List (Nat × Value)} {b : Env} {h : Heap}
variable {d : Nat} {t ty kt et : TypeId} {p : String} {af : Array Edge} {g : Option (Nat × Bool)} {x y z : Operand} {l : Nat} {ms : List (Int × Value)}
theorem lx_makeMap (hw : Region.wanted ⟨some d, .makeMap t none, ty, p, af, g⟩ (yieldE ops (ups L b)) = true) (hk : kd ⟨some d, .makeMap t none, ty, p, af, g⟩ = .eff)
    (hS : S h → ∀ h', Ext h.size h h' → S h')
    (hn : ∀ (l : Nat) (h' : Heap), l = h.size → MpO h' l [] → Ext h.size h h' → Lx P S kd ops rest K (ups ((d, .map (some l)) :: L) b) h') :
    Lx P S kd ops (⟨some d, .makeMap t none, ty, p, af, g⟩ :: rest) K (ups L b) h :=
  lx_eff hw hk fun hSh w hh => by
    subst hh
    have hrun : (execOp (ev (ups L b)) ⟨some d, .makeMap t none, ty, p, af, g⟩).run P w = .ok (.value (.map (some w.heap.size))) { w with heap := w.heap.push (.map #[] 0) } := by
      simp [execOp, Instr.makeMap, newObj, Sem.run]
    rw [hrun]
    have hx : Ext w.heap.size w.heap (w.heap.push (.map #[] 0)) := ext_push _ _
    exact ⟨⟨rfl, rfl, rfl⟩, hS hSh _ hx, hn _ _ rfl (by show (w.heap.push _)[w.heap.size]? = _; simp [mapObj, mapEs]) hx⟩
theorem lx_mapUpdate (k : Int) (u : Value) (hw : Region.wanted ⟨none, .mapUpdate t x y z, ty, p, af, g⟩ (yieldE ops (ups L b)) = true) (hk : kd ⟨none, .mapUpdate t x y z, ty, p, af, g⟩ = .eff)
    (ht : P.underlying t = some (.map kt et)) (hkt : P.underlying kt = some (.int .i64)) (hm : MpO h l ms) (hx : ev (ups L b) x = .map (some l)) (hy : ev (ups L b) y = .int .i64 k) (hz : ev (ups L b) z = u)
    (hS : ∀ h', ChgB l h h' → S h')
    (hn : ∀ h', MpO h' l (putM ms k u) → ChgB l h h' → Lx P S kd ops rest K (ups L b) h') : Lx P S kd ops (⟨none, .mapUpdate t x y z, ty, p, af, g⟩ :: rest) K (ups L b) h :=
  lx_eff hw hk fun hSh w hh => by
    subst hh; subst hz
    have hm' : w.heap[l]? = some (.map (mapEs ms) ms.length) := hm
    have hf := findNow_map k ms 0
    have hkey : IsKey (.int .i64) (.int .i64 k) := by simp [IsKey]
    have hgo : ∀ o : Obj, ChgB l w.heap (w.heap.setIfInBounds l o) := fun o => ⟨by simp, fun i hi => by rw [Array.getElem?_setIfInBounds_ne (Ne.symm hi)]⟩
    have hrun : ∃ o, o = mapObj (putM ms k (ev (ups L b) z)) ∧ (execOp (ev (ups L b)) ⟨none, .mapUpdate t x y z, ty, p, af, g⟩).run P w = .ok .skip { w with heap := w.heap.setIfInBounds l o } := by
      cases hi : ms.findIdx? (fun m => m.1 == k) with
      | none =>
        rw [hi] at hf
        have hf' : Instr.findNow (.int .i64) (.int .i64 k) (mapEs ms).toList 0 = some none := hf
        have hput : putM ms k (ev (ups L b) z) = ms ++ [(k, ev (ups L b) z)] := by unfold putM idxM; rw [hi]
        refine ⟨_, by rw [hput], ?_⟩
        simp [execOp, Instr.mapUpdate, hx, hy, run_underlying ht, MapKept.run_getObj_map hm', run_checkKey hkt hkey, run_findKey hkt hf', MapKept.run_setObj_map _ hm', Result.andThen, mapEs_push, mapObj]
      | some i =>
        obtain ⟨hil, v0, hv0⟩ := idxM_some (ms := ms) (k := k) (show idxM ms k = some i from hi)
        rw [hi] at hf
        have hf' : Instr.findNow (.int .i64) (.int .i64 k) (mapEs ms).toList 0 = some (some (i, ((ms[i]?).map (·.2)).getD undef)) := by rw [show (mapEs ms).toList = (ms.zipIdx.map fun q => ({ key := .int .i64 q.1.1, val := q.1.2, born := q.2 } : MapEntry)) from rfl, hf]; simp
        have hput : putM ms k (ev (ups L b) z) = ms.set i (k, ev (ups L b) z) := by unfold putM idxM; rw [hi]
        have hg : (mapEs ms)[i]? = some { key := .int .i64 k, val := v0, born := i } := by
          rw [mapEs_get hil]
          rw [List.getElem?_eq_getElem hil] at hv0
          rw [Option.some.inj hv0]
        refine ⟨_, by rw [hput], ?_⟩
        simp [execOp, Instr.mapUpdate, hx, hy, run_underlying ht, MapKept.run_getObj_map hm', run_checkKey hkt hkey, run_findKey hkt hf', MapKept.run_setObj_map _ hm', Result.andThen, hg, run_keyThatStays hkey, mapEs_modify hil, mapObj]
    obtain ⟨o, ho, hrun⟩ := hrun
    rw [hrun]
    have hlt := hm.lt
    exact ⟨⟨rfl, rfl, rfl⟩, hS _ (hgo o), hn _ (by subst ho; show (w.heap.setIfInBounds l _)[l]? = _; simp [hlt]) (hgo o)⟩
theorem lx_insert (k : Int) (u : Value) (hw : Region.wanted ⟨none, .insert t x y z, ty, p, af, g⟩ (yieldE ops (ups L b)) = true) (hk : kd ⟨none, .insert t x y z, ty, p, af, g⟩ = .eff)
    (ht : P.underlying t = some (.map kt et)) (hkt : P.underlying kt = some (.int .i64)) (hm : MpO h l ms) (hx : ev (ups L b) x = .map (some l)) (hy : ev (ups L b) y = .int .i64 k) (hz : ev (ups L b) z = u)
    (hS : ∀ h', ChgB l h h' → S h')
    (hn : ∀ h', MpO h' l (putM ms k u) → ChgB l h h' → Lx P S kd ops rest K (ups L b) h') : Lx P S kd ops (⟨none, .insert t x y z, ty, p, af, g⟩ :: rest) K (ups L b) h :=
  lx_eff hw hk fun hSh w hh => by
    subst hh; subst hz
    have hm' : w.heap[l]? = some (.map (mapEs ms) ms.length) := hm
    have hf := findNow_map k ms 0
    have hkey : IsKey (.int .i64) (.int .i64 k) := by simp [IsKey]
    have hgo : ∀ o : Obj, ChgB l w.heap (w.heap.setIfInBounds l o) := fun o => ⟨by simp, fun i hi => by rw [Array.getElem?_setIfInBounds_ne (Ne.symm hi)]⟩
    have hrun : ∃ o, o = mapObj (putM ms k (ev (ups L b) z)) ∧ (execOp (ev (ups L b)) ⟨none, .insert t x y z, ty, p, af, g⟩).run P w = .ok .skip { w with heap := w.heap.setIfInBounds l o } := by
      cases hi : ms.findIdx? (fun m => m.1 == k) with
      | none =>
        rw [hi] at hf
        have hf' : Instr.findNow (.int .i64) (.int .i64 k) (mapEs ms).toList 0 = some none := hf
        have hput : putM ms k (ev (ups L b) z) = ms ++ [(k, ev (ups L b) z)] := by unfold putM idxM; rw [hi]
        refine ⟨_, by rw [hput], ?_⟩
        simp [execOp, Instr.mapUpdate, hx, hy, run_underlying ht, MapKept.run_getObj_map hm', run_checkKey hkt hkey, run_findKey hkt hf', MapKept.run_setObj_map _ hm', Result.andThen, mapEs_push, mapObj]
      | some i =>
        obtain ⟨hil, v0, hv0⟩ := idxM_some (ms := ms) (k := k) (show idxM ms k = some i from hi)
        rw [hi] at hf
        have hf' : Instr.findNow (.int .i64) (.int .i64 k) (mapEs ms).toList 0 = some (some (i, ((ms[i]?).map (·.2)).getD undef)) := by rw [show (mapEs ms).toList = (ms.zipIdx.map fun q => ({ key := .int .i64 q.1.1, val := q.1.2, born := q.2 } : MapEntry)) from rfl, hf]; simp
        have hput : putM ms k (ev (ups L b) z) = ms.set i (k, ev (ups L b) z) := by unfold putM idxM; rw [hi]
        have hg : (mapEs ms)[i]? = some { key := .int .i64 k, val := v0, born := i } := by
          rw [mapEs_get hil]
          rw [List.getElem?_eq_getElem hil] at hv0
          rw [Option.some.inj hv0]
        refine ⟨_, by rw [hput], ?_⟩
        simp [execOp, Instr.mapUpdate, hx, hy, run_underlying ht, MapKept.run_getObj_map hm', run_checkKey hkt hkey, run_findKey hkt hf', MapKept.run_setObj_map _ hm', Result.andThen, hg, run_keyThatStays hkey, mapEs_modify hil, mapObj]
    obtain ⟨o, ho, hrun⟩ := hrun
    rw [hrun]
    have hlt := hm.lt
    exact ⟨⟨rfl, rfl, rfl⟩, hS _ (hgo o), hn _ (by subst ho; show (w.heap.setIfInBounds l _)[l]? = _; simp [hlt]) (hgo o)⟩
/-- Looking a key up. -/
theorem lx_lookup (k : Int) (zv : Value) (hw : Region.wanted ⟨some d, .lookup t x y false, ty, p, af, g⟩ (yieldE ops (ups L b)) = true) (hk : kd ⟨some d, .lookup t x y false, ty, p, af, g⟩ = .read)
    (ht : P.underlying t = some (.map kt et)) (hkt : P.underlying kt = some (.int .i64)) (hz : ∀ w, (zeroValue et).run P w = .ok zv w) (hm : MpO h l ms) (hx : ev (ups L b) x = .map (some l)) (hy : ev (ups L b) y = .int .i64 k)
    (hn : Lx P S kd ops rest K (ups ((d, getM ms k zv) :: L) b) h) : Lx P S kd ops (⟨some d, .lookup t x y false, ty, p, af, g⟩ :: rest) K (ups L b) h :=
  lx_read (getM ms k zv) hw (.inl hk) (fun w _ hg => by
    have hm2 := hm.extS hg.ext
    have hm' : w.heap[l]? = some (.map (mapEs ms) ms.length) := hm2
    have hf := findNow_map k ms 0
    have hkey : IsKey (.int .i64) (.int .i64 k) := by simp [IsKey]
    have hck : (Instr.checkKey (mapEs ms).isEmpty 10000 kt (.int .i64 k)).run P w = .ok () w := run_checkKey hkt hkey _ _
    cases hi : ms.findIdx? (fun m => m.1 == k) with
    | none =>
      rw [hi] at hf
      have hf' : Instr.findNow (.int .i64) (.int .i64 k) (mapEs ms).toList 0 = some none := hf
      have hget : getM ms k zv = zv := by unfold getM idxM; rw [hi]
      simp [execOp, Instr.lookup, hx, hy, run_underlying ht, MapKept.run_getObj_map hm', hck, run_findKey hkt hf', Result.andThen, hz, hget]
    | some i =>
      obtain ⟨hil, v0, hv0⟩ := idxM_some (ms := ms) (k := k) (show idxM ms k = some i from hi)
      rw [hi] at hf
      have hf' : Instr.findNow (.int .i64) (.int .i64 k) (mapEs ms).toList 0 = some (some (i, v0)) := by rw [show (mapEs ms).toList = (ms.zipIdx.map fun q => ({ key := .int .i64 q.1.1, val := q.1.2, born := q.2 } : MapEntry)) from rfl, hf]; simp [hv0]
      have hget : getM ms k zv = v0 := by unfold getM idxM; rw [hi]; simp [hv0]
      simp [execOp, Instr.lookup, hx, hy, run_underlying ht, MapKept.run_getObj_map hm', hck, run_findKey hkt hf', Result.andThen, hget]) hn
theorem lx_mapRange {m : Operand} (hw : Region.wanted ⟨some d, .range t m, ty, p, af, g⟩ (yieldE ops (ups L b)) = true) (hk : kd ⟨some d, .range t m, ty, p, af, g⟩ = .eff)
    (ht : P.underlying t = some (.map kt et)) (hm : MpO h l ms) (hx : ev (ups L b) m = .map (some l)) (hS : S h → ∀ h', Ext h.size h h' → S h')
    (hn : ∀ (r : Nat) (h' : Heap), r = h.size → ItO h' r l ms.length [] → Ext h.size h h' → Lx P S kd ops rest K (ups ((d, .pointer (some ⟨r, 0, none⟩)) :: L) b) h') :
    Lx P S kd ops (⟨some d, .range t m, ty, p, af, g⟩ :: rest) K (ups L b) h :=
  lx_eff hw hk fun hSh w hh => by
    subst hh
    have hm' : w.heap[l]? = some (.map (mapEs ms) ms.length) := hm
    have hrun : (execOp (ev (ups L b)) ⟨some d, .range t m, ty, p, af, g⟩).run P w = .ok (.value (.pointer (some ⟨w.heap.size, 0, none⟩))) { w with heap := w.heap.push (.mapIter (some l) ms.length #[] ms.length) } := by
      simp [execOp, Instr.range, hx, run_underlying ht, MapKept.run_getObj_map hm', Result.andThen, newObj, Sem.run]
    rw [hrun]
    have hxx : Ext w.heap.size w.heap (w.heap.push (.mapIter (some l) ms.length #[] ms.length)) := ext_push _ _
    exact ⟨⟨rfl, rfl, rfl⟩, hS hSh _ hxx, hn _ _ rfl (by show (w.heap.push _)[w.heap.size]? = _; simp) hxx⟩
/-- The next entry, whichever it is, or none. -/
theorem lx_mapNext {m : Operand} {r : Nat} {seen : List Nat} (hw : Region.wanted ⟨some d, .next m false, ty, p, af, g⟩ (yieldE ops (ups L b)) = true) (hk : kd ⟨some d, .next m false, ty, p, af, g⟩ = .eff)
    (hm : MpO h l ms) (hi : ItO h r l ms.length seen) (hx : ev (ups L b) m = .pointer (some ⟨r, 0, none⟩)) (hS : ∀ h', S h')
    (hn0 : (∀ i, i < ms.length → i ∈ seen) → Lx P S kd ops rest K (ups ((d, .tuple #[.bool false]) :: L) b) h)
    (hn1 : ∀ (i : Nat) (h' : Heap) (k : Int) (v : Value), i < ms.length → i ∉ seen → ms[i]? = some (k, v) → ItO h' r l ms.length (seen ++ [i]) → ChgB r h h' → Lx P S kd ops rest K (ups ((d, .tuple #[.bool true, .int .i64 k, v]) :: L) b) h') :
    Lx P S kd ops (⟨some d, .next m false, ty, p, af, g⟩ :: rest) K (ups L b) h :=
  lx_eff hw hk fun hSh w hh => by
    subst hh
    have hm' : w.heap[l]? = some (.map (mapEs ms) ms.length) := hm
    have hmem : ∀ e, e ∈ (mapEs ms).toList ↔ ∃ i, i < ms.length ∧ (mapEs ms)[i]? = some e := fun e => by
      rw [List.mem_iff_getElem?]
      constructor
      · rintro ⟨i, hi'⟩
        rw [Array.getElem?_toList] at hi'
        exact ⟨i, by have := (Array.getElem?_eq_some_iff.1 hi').1; rwa [mapEs_size] at this, hi'⟩
      · rintro ⟨i, _, hi'⟩; exact ⟨i, by rw [Array.getElem?_toList]; exact hi'⟩
    have hborn : ∀ e ∈ (mapEs ms).toList, e.born < ms.length := fun e he => by
      obtain ⟨i, hi', h1⟩ := (hmem e).1 he
      rw [mapEs_get hi'] at h1
      rw [← Option.some.inj h1]; exact hi'
    rcases run_next_at (P := P) w ty r l ms.length ms.length seen.toArray (mapEs ms) ms.length hi hm' hborn (Nat.le_refl _) with ⟨h0, hr⟩ | ⟨e, he, w1, hw1, hr⟩
    · have hrun : (execOp (ev (ups L b)) ⟨some d, .next m false, ty, p, af, g⟩).run P w = .ok (.value (.tuple #[.bool false])) w := by
        simp [execOp, hx, hr, Result.andThen]
      rw [hrun]
      refine ⟨Qt.refl _, hS _, hn0 fun i hil => ?_⟩
      refine Classical.byContradiction fun hns => ?_
      have : (leftOf (mapEs ms) seen.toArray).size ≠ 0 := by
        unfold leftOf
        intro h9
        rw [Array.size_eq_zero_iff, Array.filter_eq_empty_iff] at h9
        have := h9 _ (Array.mem_of_getElem? (mapEs_get hil))
        simp at this
        exact hns this
      exact this h0
    · have hew : e ∈ (mapEs ms).toList ∧ e.born ∉ seen := by
        unfold leftOf at he
        simp at he
        exact ⟨by simpa using he.1, he.2⟩
      obtain ⟨i, hil, h1⟩ := (hmem e).1 hew.1
      rw [mapEs_get hil] at h1
      have h2 := (Option.some.inj h1).symm
      subst h2
      have hrun : (execOp (ev (ups L b)) ⟨some d, .next m false, ty, p, af, g⟩).run P w = .ok (.value (.tuple #[.bool true, .int .i64 (ms[i]).1, (ms[i]).2])) (ChangeMaps.setBlock w1 r (.mapIter (some l) ms.length (seen.toArray.push i) ms.length)) := by
        simp [execOp, hx, hr, Result.andThen]
      rw [hrun]
      have hh1 : w1.heap = w.heap := by rcases hw1 with rfl | rfl <;> rfl
      have hq : Qt w (ChangeMaps.setBlock w1 r (.mapIter (some l) ms.length (seen.toArray.push i) ms.length)) := by rcases hw1 with rfl | rfl <;> exact ⟨rfl, rfl, rfl⟩
      have hlt := hi.lt
      have hc : ChgB r w.heap (ChangeMaps.setBlock w1 r (.mapIter (some l) ms.length (seen.toArray.push i) ms.length)).heap := by
        show ChgB r w.heap (w1.heap.setIfInBounds r _)
        rw [hh1]
        exact ⟨by simp, fun j hj => by rw [Array.getElem?_setIfInBounds_ne (Ne.symm hj)]⟩
      refine ⟨hq, hS _, hn1 i _ _ _ hil hew.2 (List.getElem?_eq_getElem hil) ?_ hc⟩
      show (w1.heap.setIfInBounds r _)[r]? = _
      rw [hh1]
      simp [hlt]
theorem lx_mapEntry {m : Operand} {r i : Nat} {seen : List Nat} {k : Int} {v : Value} (hw : Region.wanted ⟨some d, .entry m, ty, p, af, g⟩ (yieldE ops (ups L b)) = true) (hk : kd ⟨some d, .entry m, ty, p, af, g⟩ = .eff)
    (hm : MpO h l ms) (hi : ItO h r l ms.length (seen ++ [i])) (hg : ms[i]? = some (k, v)) (hx : ev (ups L b) m = .pointer (some ⟨r, 0, none⟩)) (hS : ∀ h', S h')
    (hn : Lx P S kd ops rest K (ups ((d, .tuple #[.int .i64 k, v]) :: L) b) h) :
    Lx P S kd ops (⟨some d, .entry m, ty, p, af, g⟩ :: rest) K (ups L b) h :=
  lx_eff hw hk fun hSh w hh => by
    subst hh
    have hm' : w.heap[l]? = some (.map (mapEs ms) ms.length) := hm
    have hil : i < ms.length := (List.getElem?_eq_some_iff.1 hg).1
    have hge : (mapEs ms)[i]? = some { key := .int .i64 k, val := v, born := i } := by
      rw [mapEs_get hil]
      rw [List.getElem?_eq_getElem hil] at hg
      rw [Option.some.inj hg]
    have hr := run_entry_at (P := P) w r l ms.length seen.toArray (mapEs ms) ms.length { key := .int .i64 k, val := v, born := i } (by rw [show seen.toArray.push i = (seen ++ [i]).toArray by simp]; exact hi) hm' (by
      rw [List.mem_iff_getElem?]; exact ⟨i, by rw [Array.getElem?_toList]; exact hge⟩) (by
      rw [show (mapEs ms).toList.map (·.born) = List.range ms.length by
        apply List.ext_getElem (by simp [mapEs])
        intro j h1 h2
        simp [mapEs]]
      exact List.nodup_range)
    have hrun : (execOp (ev (ups L b)) ⟨some d, .entry m, ty, p, af, g⟩).run P w = .ok (.value (.tuple #[.int .i64 k, v])) w := by
      simp [execOp, hx, hr, Result.andThen]
    rw [hrun]
    exact ⟨Qt.refl _, hS _, hn⟩
end
end Go.X
namespace Go.X
def uppS (n : Nat) (f : Nat → Nat → Bool) (s : Nat) : Nat := colN n fun z => (List.range n).all fun q => !s.testBit q || f q z
def lowS (n : Nat) (f : Nat → Nat → Bool) (s : Nat) : Nat := colN n fun z => (List.range n).all fun q => !s.testBit q || f z q
theorem uppS_lt (n : Nat) (f : Nat → Nat → Bool) (s : Nat) : uppS n f s < 2 ^ n := colN_lt n _
theorem lowS_lt (n : Nat) (f : Nat → Nat → Bool) (s : Nat) : lowS n f s < 2 ^ n := colN_lt n _
theorem uppS_bit {n s z : Nat} {f : Nat → Nat → Bool} : (uppS n f s).testBit z = true ↔ z < n ∧ ∀ q, q < n → s.testBit q = true → f q z = true := by
  unfold uppS
  rw [colN_bit, Bool.and_eq_true, decide_eq_true_iff, rall_iff]
  exact ⟨fun h => ⟨h.1, fun q hq hb => by have := h.2 q hq; rw [hb] at this; simpa using this⟩, fun h => ⟨h.1, fun q hq => by
    cases hb : s.testBit q
    · rfl
    · rw [h.2 q hq hb]; rfl⟩⟩
theorem lowS_bit {n s z : Nat} {f : Nat → Nat → Bool} : (lowS n f s).testBit z = true ↔ z < n ∧ ∀ q, q < n → s.testBit q = true → f z q = true := by
  unfold lowS
  rw [colN_bit, Bool.and_eq_true, decide_eq_true_iff, rall_iff]
  exact ⟨fun h => ⟨h.1, fun q hq hb => by have := h.2 q hq; rw [hb] at this; simpa using this⟩, fun h => ⟨h.1, fun q hq => by
    cases hb : s.testBit q
    · rfl
    · rw [h.2 q hq hb]; rfl⟩⟩
def cutF (n : Nat) (f : Nat → Nat → Bool) (s : Nat) : Nat := lowS n f (uppS n f s)
def cutB (n : Nat) (f : Nat → Nat → Bool) (s : Nat) : Bool := cutF n f s == s
theorem cutF_lt (n : Nat) (f : Nat → Nat → Bool) (s : Nat) : cutF n f s < 2 ^ n := lowS_lt n f _
theorem upp_low_upp (n : Nat) (f : Nat → Nat → Bool) (s : Nat) : uppS n f (lowS n f (uppS n f s)) = uppS n f s := by
  apply Nat.eq_of_testBit_eq
  intro z
  rw [Bool.eq_iff_iff, uppS_bit, uppS_bit]
  constructor
  · rintro ⟨hz, h⟩
    refine ⟨hz, fun q hq hb => h q hq (lowS_bit.2 ⟨hq, fun w hw hb2 => (uppS_bit.1 hb2).2 q hq hb⟩)⟩
  · rintro ⟨hz, h⟩
    exact ⟨hz, fun q hq hb => (lowS_bit.1 hb).2 z hz (uppS_bit.2 ⟨hz, h⟩)⟩
theorem cut_cut (n : Nat) (f : Nat → Nat → Bool) (s : Nat) : cutB n f (cutF n f s) = true := by
  unfold cutB cutF
  rw [upp_low_upp]
  exact beq_self_eq_true _
theorem cut_mem {n : Nat} {f : Nat → Nat → Bool} {x : Int} : (∃ s, s < 2 ^ n ∧ x = ((cutF n f s : Nat) : Int)) ↔ ∃ q : Nat, q < 2 ^ n ∧ cutB n f q = true ∧ (q : Int) = x := by
  constructor
  · rintro ⟨s, hs, rfl⟩
    exact ⟨_, cutF_lt n f s, cut_cut n f s, rfl⟩
  · rintro ⟨q, hq, h, rfl⟩
    exact ⟨q, hq, by unfold cutB at h; rw [beq_iff_eq] at h; rw [h]⟩
def cutsF (n : Nat) (f : Nat → Nat → Bool) : List Int := filtF (2 ^ n) (cutB n f)
theorem cut_down {n x : Nat} {f : Nat → Nat → Bool} (ho : IsO n f) (hx : x < n) : cutB n f (dnF n f x) = true := by
  unfold cutB cutF
  rw [beq_iff_eq]
  apply Nat.eq_of_testBit_eq
  intro z
  rw [Bool.eq_iff_iff, lowS_bit, dnF_bit, Bool.and_eq_true, decide_eq_true_iff]
  constructor
  · rintro ⟨hz, h⟩
    exact ⟨hz, h x hx (uppS_bit.2 ⟨hx, fun q hq hb => by rw [dnF_bit, Bool.and_eq_true] at hb; exact hb.2⟩)⟩
  · rintro ⟨hz, h⟩
    exact ⟨hz, fun q hq hb => (uppS_bit.1 hb).2 z hz (by rw [dnF_bit, h, decide_eq_true hz]; rfl)⟩
/-- What is common, as it is gone through. -/
def cmF (n s : Nat) (F : Nat → Nat) (x : Nat) : Nat := colN n fun z => (List.range x).all fun q => !s.testBit q || (F q).testBit z
theorem cmF_lt (n s : Nat) (F : Nat → Nat) (x : Nat) : cmF n s F x < 2 ^ n := colN_lt n _
theorem cmF_zero (n s : Nat) (F : Nat → Nat) : cmF n s F 0 = 2 ^ n - 1 := by
  apply Nat.eq_of_testBit_eq
  intro i
  unfold cmF
  rw [colN_bit, Nat.testBit_two_pow_sub_one, rall_zero, Bool.and_true]
theorem cmF_yes {n s x : Nat} {F : Nat → Nat} (h : s.testBit x = true) : cmF n s F x &&& F x = cmF n s F (x + 1) := by
  apply Nat.eq_of_testBit_eq
  intro i
  unfold cmF
  rw [Nat.testBit_and, colN_bit, colN_bit, rall_succ, h, Bool.not_true, Bool.false_or, Bool.and_assoc]
theorem cmF_no {n s x : Nat} {F : Nat → Nat} (h : s.testBit x = false) : cmF n s F x = cmF n s F (x + 1) := by
  unfold cmF
  refine colN_congr fun i _ => ?_
  rw [rall_succ, h]; simp
theorem cmF_up (n s : Nat) (f : Nat → Nat → Bool) : cmF n s (upF n f) n = uppS n f s := colN_congr fun z hz => by
  rw [Bool.eq_iff_iff, rall_iff, rall_iff]
  exact ⟨fun h q hq => by have := h q hq; rwa [upF_bit, decide_eq_true hz, Bool.true_and] at this, fun h q hq => by rw [upF_bit, decide_eq_true hz, Bool.true_and]; exact h q hq⟩
theorem cmF_dn (n s : Nat) (f : Nat → Nat → Bool) : cmF n s (dnF n f) n = lowS n f s := colN_congr fun z hz => by
  rw [Bool.eq_iff_iff, rall_iff, rall_iff]
  exact ⟨fun h q hq => by have := h q hq; rwa [dnF_bit, decide_eq_true hz, Bool.true_and] at this, fun h q hq => by rw [dnF_bit, decide_eq_true hz, Bool.true_and]; exact h q hq⟩
/-! ### Sets of keys -/
def kv (ks : List Int) : List (Int × Value) := ks.map fun k => (k, .bool true)
def insK (ks : List Int) (k : Int) : List Int := if k ∈ ks then ks else ks ++ [k]
theorem kv_len (ks : List Int) : (kv ks).length = ks.length := by simp [kv]
theorem kv_get {ks : List Int} {i : Nat} {k : Int} {v : Value} (h : (kv ks)[i]? = some (k, v)) : gt ks i = k := by
  unfold kv at h
  rw [List.getElem?_map] at h
  cases hi : ks[i]? with
  | none => rw [hi] at h; cases h
  | some a =>
    rw [hi] at h
    simp only [Option.map_some, Option.some.injEq, Prod.mk.injEq] at h
    unfold gt; simp [List.getD, hi, h.1]
theorem putM_kv (ks : List Int) (k : Int) : putM (kv ks) k (.bool true) = kv (insK ks k) := by
  unfold putM insK
  cases hi : idxM (kv ks) k with
  | none =>
    have h := idxM_none hi
    rw [if_neg fun hm => h (k, .bool true) (List.mem_map.2 ⟨k, hm, rfl⟩) rfl]
    simp [kv]
  | some i =>
    obtain ⟨hil, v, hv⟩ := idxM_some hi
    have hg := kv_get hv
    have hil' : i < ks.length := by rwa [kv_len] at hil
    have hm : k ∈ ks := by rw [← hg]; exact gt_mem hil'
    rw [if_pos hm]
    show (kv ks).set i (k, .bool true) = kv ks
    apply List.ext_getElem?
    intro j
    rw [List.getElem?_set]
    by_cases e : i = j
    · subst e
      rw [if_pos rfl, if_pos hil, hv]
      have : v = .bool true := by
        have h9 : (k, v) ∈ kv ks := List.mem_of_getElem? hv
        obtain ⟨a, _, h8⟩ := List.mem_map.1 h9
        exact (Prod.mk.inj h8).2.symm
      rw [this]
    · rw [if_neg e]
theorem insK_mem {ks : List Int} {k x : Int} : x ∈ insK ks k ↔ x ∈ ks ∨ x = k := by
  unfold insK
  split
  · rename_i h
    exact ⟨.inl, fun h' => h'.elim id fun e => e ▸ h⟩
  · simp
theorem insK_nodup {ks : List Int} {k : Int} (h : ks.Nodup) : (insK ks k).Nodup := by
  unfold insK
  split
  · exact h
  · rename_i hk
    rw [List.nodup_append]
    exact ⟨h, by simp, fun a ha b hb => by simp at hb; subst hb; exact fun e => hk (e ▸ ha)⟩
/-- Two rising lists with the same members are the same. -/
theorem asc_same : ∀ {xs ys : List Int}, xs.Pairwise (· < ·) → ys.Pairwise (· < ·) → (∀ x, x ∈ xs ↔ x ∈ ys) → xs = ys
  | [], [], _, _, _ => rfl
  | [], y :: ys, _, _, h => by have := (h y).2 (List.mem_cons_self ..); cases this
  | x :: xs, [], _, _, h => by have := (h x).1 (List.mem_cons_self ..); cases this
  | x :: xs, y :: ys, h1, h2, h => by
    rw [List.pairwise_cons] at h1 h2
    have e : x = y := by
      rcases List.mem_cons.1 ((h x).1 (List.mem_cons_self ..)) with e | hm
      · exact e
      · rcases List.mem_cons.1 ((h y).2 (List.mem_cons_self ..)) with e | hm2
        · exact e.symm
        · have := h2.1 x hm; have := h1.1 y hm2; omega
    subst e
    rw [asc_same h1.2 h2.2 fun z => ?_]
    constructor
    · intro hz
      rcases List.mem_cons.1 ((h z).1 (List.mem_cons_of_mem _ hz)) with e | hm
      · subst e; have := h1.1 z hz; omega
      · exact hm
    · intro hz
      rcases List.mem_cons.1 ((h z).2 (List.mem_cons_of_mem _ hz)) with e | hm
      · subst e; have := h2.1 z hz; omega
      · exact hm
theorem sort_filt {N : Nat} {f : Nat → Bool} {xs : List Int} (hn : xs.Nodup) (h : ∀ x, x ∈ xs ↔ ∃ q : Nat, q < N ∧ f q = true ∧ (q : Int) = x) : (xs.mergeSort fun x y => decide (x ≤ y)) = filtF N f := by
  obtain ⟨h1, h2⟩ := sort_asc xs
  refine asc_same ?_ (filtF_asc N f) fun x => by rw [h2, h, filtF_mem]
  have h3 : (xs.mergeSort fun x y => decide (x ≤ y)).Nodup := (List.mergeSort_perm xs _).nodup_iff.2 hn
  exact (h1.and h3).imp fun ⟨a, b⟩ => by omega
/-- Where a set stands among the rising ones. -/
theorem count_at {N : Nat} {f : Nat → Bool} {q : Nat} (hq : q < N) (hf : f q = true) : (filtF N f).countP (fun x => decide (x < (q : Int))) = (filtF q f).length := by
  obtain ⟨r, hr⟩ := filtF_pre (f := f) (w := q) (N - q)
  rw [show q + (N - q) = N from by omega] at hr
  have hasc := filtF_asc N f
  rw [hr, List.countP_append]
  have h1 : (filtF q f).countP (fun x => decide (x < (q : Int))) = (filtF q f).length := by
    rw [List.countP_eq_length]
    intro x hx
    obtain ⟨a, ha, _, rfl⟩ := filtF_mem.1 hx
    simpa using ha
  have h2 : r.countP (fun x => decide (x < (q : Int))) = 0 := by
    rw [List.countP_eq_zero]
    intro x hx hlt
    have hx2 : x ∈ filtF N f := by rw [hr]; exact List.mem_append_right _ hx
    obtain ⟨a, ha, hfa, rfl⟩ := filtF_mem.1 hx2
    have ha2 : a < q := by simpa using hlt
    have hin : (a : Int) ∈ filtF q f := filtF_mem.2 ⟨a, ha2, hfa, rfl⟩
    rw [hr, List.pairwise_append] at hasc
    have := hasc.2.2 _ hin _ hx
    omega
  omega
/-- The places of the elements in the completion. -/
def placesF (n : Nat) (f : Nat → Nat → Bool) (k : Nat) : List Int := (List.range k).map fun x => (((cutsF n f).countP (fun y => decide (y < (dnF n f x : Int))) : Nat) : Int)
theorem placesF_succ (n : Nat) (f : Nat → Nat → Bool) (k : Nat) : placesF n f (k + 1) = placesF n f k ++ [(((cutsF n f).countP (fun y => decide (y < (dnF n f k : Int))) : Nat) : Int)] := by simp [placesF, List.range_succ]
theorem placesF_len (n : Nat) (f : Nat → Nat → Bool) (k : Nat) : (placesF n f k).length = k := by simp [placesF]
theorem seen_le {sn : List Nat} {N : Nat} (hn : sn.Nodup) (hs : ∀ i, i ∈ sn → i < N) : sn.length ≤ N := by
  have := nodup_le (l' := List.range N) hn fun x hx => List.mem_range.2 (hs x hx)
  simpa using this
theorem seen_snoc {sn : List Nat} {N i : Nat} (hn : sn.Nodup) (hs : ∀ i, i ∈ sn → i < N) (hi : i < N) (hni : i ∉ sn) : (sn ++ [i]).Nodup ∧ (∀ j, j ∈ sn ++ [i] → j < N) ∧ sn.length < N := by
  have h1 : (sn ++ [i]).Nodup := by
    rw [List.nodup_append]
    exact ⟨hn, by simp, fun a ha b hb => by simp at hb; subst hb; exact fun e => hni (e ▸ ha)⟩
  have h2 : ∀ j, j ∈ sn ++ [i] → j < N := fun j hj => by
    rcases List.mem_append.1 hj with h | h
    · exact hs j h
    · simp at h; omega
  exact ⟨h1, h2, by have := seen_le h1 h2; simp at this; omega⟩
/-- What has come out of the map. -/
theorem out_sorted {n : Nat} {f : Nat → Nat → Bool} {ks : List Int} {sn : List Nat} (hks : ∀ x : Int, x ∈ ks ↔ ∃ s, s < 2 ^ n ∧ x = ((cutF n f s : Nat) : Int)) (hkn : ks.Nodup) (hn : sn.Nodup) (hs : ∀ i, i ∈ sn → i < ks.length) (hall : ∀ i, i < ks.length → i ∈ sn) :
    ((sn.map fun i => gt ks i).mergeSort fun x y => decide (x ≤ y)) = cutsF n f := by
  refine sort_filt (nodup_map hn fun x y hx hy e => ?_) fun x => ?_
  · have hx' := hs x hx; have hy' := hs y hy
    rw [gt_eq hx', gt_eq hy'] at e
    exact (List.getElem_inj hkn).1 e
  · rw [← cut_mem, ← hks, List.mem_map]
    constructor
    · rintro ⟨i, hi, rfl⟩; exact gt_mem (hs i hi)
    · intro hx
      obtain ⟨i, hi, e⟩ := mem_gt hx
      exact ⟨i, hall i hi, e⟩
theorem cutsF_asc (n : Nat) (f : Nat → Nat → Bool) : (cutsF n f).Pairwise (· ≤ ·) := (filtF_asc _ _).imp fun h => by omega
theorem cutsF_ne (n : Nat) (f : Nat → Nat → Bool) : cutsF n f ≠ [] := fun e => by
  have : ((cutF n f 0 : Nat) : Int) ∈ cutsF n f := filtF_mem.2 ⟨_, cutF_lt n f 0, cut_cut n f 0, rfl⟩
  rw [e] at this; cases this
theorem cutsF_nb {n : Nat} {f : Nat → Nat → Bool} (hn : n ≤ 12) : (cutsF n f).length ≤ 4096 ∧ ∀ i, i < (cutsF n f).length → 0 ≤ gt (cutsF n f) i ∧ gt (cutsF n f) i < 4096 := by
  have hp := pow12 hn
  exact ⟨Nat.le_trans (filtF_length _ _) hp, fun i hi => by obtain ⟨a, h1, h2, _⟩ := filtF_gt hi; show 0 ≤ gt (filtF _ _) i ∧ gt (filtF _ _) i < 4096; rw [h1]; omega⟩
theorem keys_le {n t : Nat} {f : Nat → Nat → Bool} {ks : List Int} (hn : n ≤ 12) (hd : ks.Nodup) (hks : ∀ x : Int, x ∈ ks ↔ ∃ s, s < t ∧ x = ((cutF n f s : Nat) : Int)) : ks.length ≤ 4096 := by
  have h := nodup_le (l' := (List.range (2 ^ n)).map fun q : Nat => (q : Int)) hd fun x hx => by
    obtain ⟨s, _, rfl⟩ := (hks x).1 hx
    exact List.mem_map.2 ⟨_, List.mem_range.2 (cutF_lt n f s), rfl⟩
  rw [List.length_map, List.length_range] at h
  have := pow12 hn
  omega
end Go.X
namespace Go.X
section
variable {P : Program} {S : Heap → Prop} {kd : Oper → Kd} {ops : Array Oper} {rest : List Oper} {K : Env → Heap → Prop} {L : List (Nat × Value)} {b : Env} {h : Heap}
variable {d : Nat} {t ty kt et : TypeId} {p : String} {af : Array Edge} {g : Option (Nat × Bool)} {x y z : Operand} {l : Nat} {ms : List (Int × Value)}
theorem lx_lookupF {F : Int → Int} (k r : Int) (hw : Region.wanted ⟨some d, .lookup t x y false, ty, p, af, g⟩ (yieldE ops (ups L b)) = true) (hk : kd ⟨some d, .lookup t x y false, ty, p, af, g⟩ = .read)
    (ht : P.underlying t = some (.map kt et)) (hkt : P.underlying kt = some (.int .i64)) (hz : ∀ w, (zeroValue et).run P w = .ok (.int .i64 0) w) (hm : MpO h l ms) (hF : MpF ms F) (hr : F k = r) (hx : ev (ups L b) x = .map (some l)) (hy : ev (ups L b) y = .int .i64 k)
    (hn : Lx P S kd ops rest K (ups ((d, .int .i64 r) :: L) b) h) : Lx P S kd ops (⟨some d, .lookup t x y false, ty, p, af, g⟩ :: rest) K (ups L b) h :=
  lx_lookup k (.int .i64 0) hw hk ht hkt hz hm hx hy (by rw [hF k, hr]; exact hn)
end
theorem asc_take {xs : List Int} (h : xs.Pairwise (· < ·)) {i : Nat} (hi : i < xs.length) {q : Int} : q ∈ xs.take i ↔ q ∈ xs ∧ q < gt xs i := by
  rw [List.pairwise_iff_getElem] at h
  rw [gt_eq hi]
  constructor
  · intro hq
    obtain ⟨j, hj, rfl⟩ := List.mem_iff_getElem.1 hq
    rw [List.length_take] at hj
    rw [List.getElem_take]
    exact ⟨List.getElem_mem _, h j i (by omega) hi (by omega)⟩
  · rintro ⟨hq, hlt⟩
    obtain ⟨j, hj, rfl⟩ := List.mem_iff_getElem.1 hq
    rcases Nat.lt_or_ge j i with h1 | h1
    · exact List.mem_iff_getElem.2 ⟨j, by rw [List.length_take]; omega, by rw [List.getElem_take]⟩
    · rcases Nat.lt_or_eq_of_le h1 with h2 | h2
      · have := h i j hi hj h2; omega
      · subst h2; omega
def cntF (n : Nat) (f : Nat → Nat → Bool) (i : Nat) (k : Int) : Int := if k = 0 then 1 else if k ∈ (idealsF n f).take i then linN n f k.toNat else 0
def cntG (n : Nat) (f : Nat → Nat → Bool) (i s x : Nat) (k : Int) : Int := if k = (s : Int) ∧ s ≠ 0 then linS n f s x else cntF n f i k
theorem cnt_start (n : Nat) (f : Nat → Nat → Bool) (k : Int) : (if k = 0 then 1 else 0) = cntF n f 0 k := by unfold cntF; simp
theorem idl_mem {n : Nat} {f : Nat → Nat → Bool} {x : Int} : x ∈ idealsF n f ↔ ∃ q : Nat, q < 2 ^ n ∧ idlB n f q = true ∧ (q : Int) = x := by unfold idealsF; exact filtF_mem
theorem idl_asc (n : Nat) (f : Nat → Nat → Bool) : (idealsF n f).Pairwise (· < ·) := filtF_asc _ _
section
variable {n i s x : Nat} {f : Nat → Nat → Bool}
theorem idl_at (hi : i < (idealsF n f).length) (hs : gt (idealsF n f) i = (s : Int)) : s < 2 ^ n ∧ idlB n f s = true := by
  have h1 : (s : Int) ∈ idealsF n f := by rw [← hs, gt_eq hi]; exact List.getElem_mem _
  obtain ⟨q, h2, h3, h4⟩ := idl_mem.1 h1
  obtain rfl : q = s := by omega
  exact ⟨h2, h3⟩
theorem cntG_zero (hi : i < (idealsF n f).length) (hs : gt (idealsF n f) i = (s : Int)) (k : Int) : cntF n f i k = cntG n f i s 0 k := by
  unfold cntG
  by_cases e : k = (s : Int) ∧ s ≠ 0
  · rw [if_pos e]
    obtain ⟨rfl, h0⟩ := e
    unfold cntF
    rw [if_neg (by omega), if_neg (by rw [asc_take (idl_asc n f) hi, hs]; omega)]; rfl
  · rw [if_neg e]
theorem last_bit (h : lastB n f s x = true) : s.testBit x = true := by unfold lastB at h; rw [Bool.and_eq_true] at h; exact h.1
theorem last_nz (h : lastB n f s x = true) : s ≠ 0 := fun e => by have := last_bit h; rw [e, Nat.zero_testBit] at this; cases this
theorem cntG_self (h0 : s ≠ 0) : cntG n f i s x (s : Int) = linS n f s x := if_pos ⟨rfl, h0⟩
theorem cntG_off (ho : IsO n f) (hn : n ≤ 12) (hi : i < (idealsF n f).length) (hs : gt (idealsF n f) i = (s : Int)) (hl : lastB n f s x = true) : cntG n f i s x ((andNot s (2 ^ x) : Nat) : Int) = linN n f (andNot s (2 ^ x)) := by
  obtain ⟨h1, h2⟩ := idl_at hi hs
  obtain ⟨h3, h4⟩ := idl_off ho hn h1 h2 hl
  unfold cntG
  rw [if_neg (by omega)]
  unfold cntF
  by_cases e : ((andNot s (2 ^ x) : Nat) : Int) = 0
  · rw [if_pos e, show andNot s (2 ^ x) = 0 by omega, linN_zero]
  · rw [if_neg e, if_pos]
    · rfl
    · rw [asc_take (idl_asc n f) hi, hs, idl_mem]
      exact ⟨⟨_, by omega, h3, rfl⟩, by omega⟩
theorem cntG_yes (hl : lastB n f s x = true) (k : Int) : (if k = (s : Int) then linS n f s x + linN n f (andNot s (2 ^ x)) else cntG n f i s x k) = cntG n f i s (x + 1) k := by
  have h0 := last_nz hl
  unfold cntG
  by_cases e : k = (s : Int)
  · rw [if_pos e, if_pos ⟨e, h0⟩, linS_yes hl]
  · rw [if_neg e, if_neg (fun h => e h.1), if_neg (fun h => e h.1)]
theorem cntG_no (hl : lastB n f s x = false) (k : Int) : cntG n f i s x k = cntG n f i s (x + 1) k := by
  unfold cntG
  rw [linS_no hl]
theorem take_succ' {xs : List Int} {i : Nat} (hi : i < xs.length) : xs.take (i + 1) = xs.take i ++ [gt xs i] := by rw [gt_eq hi, List.take_add_one, List.getElem?_eq_getElem hi]; rfl
theorem cntG_end (hn : n ≤ 12) (hi : i < (idealsF n f).length) (hs : gt (idealsF n f) i = (s : Int)) (k : Int) : cntG n f i s n k = cntF n f (i + 1) k := by
  obtain ⟨h1, h2⟩ := idl_at hi hs
  have hp := pow12 hn
  unfold cntG
  by_cases e : k = (s : Int) ∧ s ≠ 0
  · rw [if_pos e]
    obtain ⟨rfl, h0⟩ := e
    unfold cntF
    rw [if_neg (by omega), if_pos (by rw [take_succ' hi, hs]; simp), Int.toNat_natCast, linN_sum hn (by omega) h0]
  · rw [if_neg e]
    unfold cntF
    by_cases e0 : k = 0
    · rw [if_pos e0, if_pos e0]
    · rw [if_neg e0, if_neg e0, take_succ' hi, hs]
      have : k ≠ (s : Int) := fun h => e ⟨h, fun h3 => e0 (by omega)⟩
      simp [this]
theorem cnt_all (f : Nat → Nat → Bool) (hn1 : 1 ≤ n) (hi : i = (idealsF n f).length) : cntF n f i (((2 ^ n - 1 : Nat)) : Int) = linN n f (2 ^ n - 1) := by
  have hp : 2 ^ 1 ≤ 2 ^ n := Nat.pow_le_pow_right (by omega) hn1
  unfold cntF
  rw [if_neg (by omega), hi, List.take_length, if_pos]
  · rfl
  · rw [idl_mem]
    refine ⟨2 ^ n - 1, by omega, ?_, rfl⟩
    rw [idlB_iff]
    intro x y hx hy _ _
    rw [Nat.testBit_two_pow_sub_one]; exact decide_eq_true hy
end
end Go.X
namespace Go.Proofs.Ytdokijbdnajhgaa
open Go Go.X

set_option maxRecDepth 10000 in
theorem ones64_spec (h : Heap) (x : Nat) (hp1 : x < 4096) : Fx Try.prog 135 [.int .u64 ((x : Nat) : Int)] h (fun v h' => v = .int .i64 ((popN x : Nat) : Int) ∧ h = h') := by
  refine fx_intro (n := 35) [(0, .int .u64 ((x : Nat) : Int))] Try.func135 rfl rfl (by simp) ⟨rfl, trivial⟩ fun g0 => ?_
  refine wi_seq <| wi_reg rfl <| lx_assign (.int .i64 0) rfl rfl <| lx_nil <| wi_seq <| wi_reg rfl <| ?_
  obtain ⟨b1, b2, b3, b4, b5, b6, b7⟩ := on_ok hp1
  have := Nat.div_le_self x (2 ^ 1)
  have : x / 2 ^ 1 &&& 6148914691236517205 ≤ x / 2 ^ 1 := Nat.and_le_left
  have : x &&& 6148914691236517205 ≤ x := Nat.and_le_left
  refine lx_move (.int .u64 ((x : Nat) : Int)) rfl rfl <| lx_shr (m := x) (n := 1) rfl rfl rfl (by show _ ≤ 64; omega) <| lx_and (m := x / 2 ^ 1) (n := 6148914691236517205) rfl rfl rfl (by show _ < 2 ^ 64; omega) (by show _ < 2 ^ 64; omega) (wrap_u64 (by omega) (by omega)) <| lx_move (.int .u64 ((x : Nat) : Int)) rfl rfl <| lx_and (m := x) (n := 6148914691236517205) rfl rfl rfl (by show _ < 2 ^ 64; omega) (by show _ < 2 ^ 64; omega) (wrap_u64 (by omega) (by omega)) <| lx_addU (((((x / 2 ^ 1) &&& 6148914691236517205) + (x &&& 6148914691236517205) : Nat) : Nat) : Int) rfl rfl rfl (by omega) (by omega) (by omega) <| ?_
  generalize hy1 : ((x / 2 ^ 1) &&& 6148914691236517205) + (x &&& 6148914691236517205) = y1
  replace hy1 : on1 x = y1 := hy1
  rw [hy1] at b1 b2 b3 b4 b5 b6 b7
  refine lx_assign (.int .u64 ((y1 : Nat) : Int)) rfl rfl <| lx_nil <| wi_seq <| wi_reg rfl <| ?_
  have := Nat.div_le_self y1 (2 ^ 2)
  have : y1 / 2 ^ 2 &&& 3689348814741910323 ≤ y1 / 2 ^ 2 := Nat.and_le_left
  have : y1 &&& 3689348814741910323 ≤ y1 := Nat.and_le_left
  refine lx_move (.int .u64 ((y1 : Nat) : Int)) rfl rfl <| lx_shr (m := y1) (n := 2) rfl rfl rfl (by show _ ≤ 64; omega) <| lx_and (m := y1 / 2 ^ 2) (n := 3689348814741910323) rfl rfl rfl (by show _ < 2 ^ 64; omega) (by show _ < 2 ^ 64; omega) (wrap_u64 (by omega) (by omega)) <| lx_move (.int .u64 ((y1 : Nat) : Int)) rfl rfl <| lx_and (m := y1) (n := 3689348814741910323) rfl rfl rfl (by show _ < 2 ^ 64; omega) (by show _ < 2 ^ 64; omega) (wrap_u64 (by omega) (by omega)) <| lx_addU (((((y1 / 2 ^ 2) &&& 3689348814741910323) + (y1 &&& 3689348814741910323) : Nat) : Nat) : Int) rfl rfl rfl (by omega) (by omega) (by omega) <| ?_
  generalize hy2 : ((y1 / 2 ^ 2) &&& 3689348814741910323) + (y1 &&& 3689348814741910323) = y2
  replace hy2 : on2 y1 = y2 := hy2
  rw [hy2] at b2 b3 b4 b5 b6 b7
  refine lx_assign (.int .u64 ((y2 : Nat) : Int)) rfl rfl <| lx_nil <| wi_seq <| wi_reg rfl <| ?_
  have := Nat.div_le_self y2 (2 ^ 4)
  have : (y2 / 2 ^ 4 + y2) &&& 1085102592571150095 ≤ (y2 / 2 ^ 4 + y2) := Nat.and_le_left
  refine lx_move (.int .u64 ((y2 : Nat) : Int)) rfl rfl <| lx_shr (m := y2) (n := 4) rfl rfl rfl (by show _ ≤ 64; omega) <| lx_move (.int .u64 ((y2 : Nat) : Int)) rfl rfl <| lx_addU ((((y2 / 2 ^ 4) + y2 : Nat) : Nat) : Int) rfl rfl rfl (by omega) (by omega) (by omega) <| lx_and (m := (y2 / 2 ^ 4) + y2) (n := 1085102592571150095) rfl rfl rfl (by show _ < 2 ^ 64; omega) (by show _ < 2 ^ 64; omega) (wrap_u64 (by omega) (by omega)) <| ?_
  generalize hy3 : ((y2 / 2 ^ 4) + y2) &&& 1085102592571150095 = y3
  replace hy3 : on3 y2 = y3 := hy3
  rw [hy3] at b3 b4 b5 b6 b7
  refine lx_assign (.int .u64 ((y3 : Nat) : Int)) rfl rfl <| lx_nil <| wi_seq <| wi_reg rfl <| ?_
  have := Nat.div_le_self y3 (2 ^ 8)
  refine lx_move (.int .u64 ((y3 : Nat) : Int)) rfl rfl <| lx_move (.int .u64 ((y3 : Nat) : Int)) rfl rfl <| lx_shr (m := y3) (n := 8) rfl rfl rfl (by show _ ≤ 64; omega) <| lx_addU (((y3 + (y3 / 2 ^ 8) : Nat) : Nat) : Int) rfl rfl rfl (by omega) (by omega) (by omega) <| ?_
  generalize hy4 : y3 + (y3 / 2 ^ 8) = y4
  replace hy4 : on4 y3 = y4 := hy4
  rw [hy4] at b4 b5 b6 b7
  refine lx_assign (.int .u64 ((y4 : Nat) : Int)) rfl rfl <| lx_nil <| wi_seq <| wi_reg rfl <| ?_
  have := Nat.div_le_self y4 (2 ^ 16)
  refine lx_move (.int .u64 ((y4 : Nat) : Int)) rfl rfl <| lx_move (.int .u64 ((y4 : Nat) : Int)) rfl rfl <| lx_shr (m := y4) (n := 16) rfl rfl rfl (by show _ ≤ 64; omega) <| lx_addU (((y4 + (y4 / 2 ^ 16) : Nat) : Nat) : Int) rfl rfl rfl (by omega) (by omega) (by omega) <| ?_
  generalize hy5 : y4 + (y4 / 2 ^ 16) = y5
  replace hy5 : on5 y4 = y5 := hy5
  rw [hy5] at b5 b6 b7
  refine lx_assign (.int .u64 ((y5 : Nat) : Int)) rfl rfl <| lx_nil <| wi_seq <| wi_reg rfl <| ?_
  have := Nat.div_le_self y5 (2 ^ 32)
  refine lx_move (.int .u64 ((y5 : Nat) : Int)) rfl rfl <| lx_move (.int .u64 ((y5 : Nat) : Int)) rfl rfl <| lx_shr (m := y5) (n := 32) rfl rfl rfl (by show _ ≤ 64; omega) <| lx_addU (((y5 + (y5 / 2 ^ 32) : Nat) : Nat) : Int) rfl rfl rfl (by omega) (by omega) (by omega) <| ?_
  generalize hy6 : y5 + (y5 / 2 ^ 32) = y6
  replace hy6 : on6 y5 = y6 := hy6
  rw [hy6] at b6 b7
  refine lx_assign (.int .u64 ((y6 : Nat) : Int)) rfl rfl <| lx_nil <| wi_seq <| wi_reg rfl <| ?_
  have : y6 &&& 127 ≤ y6 := Nat.and_le_left
  refine lx_move (.int .u64 ((y6 : Nat) : Int)) rfl rfl <| lx_conv ((y6 : Nat) : Int) rfl Try.underlying149 Try.underlying3 rfl (wrap_i64 (by omega) (by omega)) <| lx_and (m := y6) (n := 127) rfl rfl rfl (by show _ < 2 ^ 64; omega) (by show _ < 2 ^ 64; omega) (wrap_i64 (by omega) (by omega)) <| lx_assign (.int .i64 ((y6 &&& 127 : Nat) : Int)) rfl rfl <| lx_nil <| ?_
  -- R1
  refine wi_ret ⟨.int .i64 ((y6 &&& 127 : Nat) : Int), (res_one rfl rfl), ⟨?_, rfl⟩⟩
  · rw [b7]

set_option maxRecDepth 10000 in
theorem ones_spec (h : Heap) (x : Nat) (hp1 : x < 4096) : Fx Try.prog 104 [.int .u64 ((x : Nat) : Int)] h (fun v h' => v = .int .i64 ((popN x : Nat) : Int) ∧ h = h') := by
  refine fx_intro (n := 8) [(0, .int .u64 ((x : Nat) : Int))] Try.func104 rfl rfl (by simp) ⟨rfl, trivial⟩ fun g0 => ?_
  refine wi_seq <| wi_reg rfl <| lx_assign (.int .i64 0) rfl rfl <| lx_nil <| wi_seq <| wi_false rfl <| wi_skip <| wi_seq <| wi_reg rfl <| lx_move (.int .u64 ((x : Nat) : Int)) rfl rfl <| lx_call [.int .u64 ((x : Nat) : Int)] rfl rfl Try.call135 rfl (ones64_spec h x (by omega)) (fun _ _ _ => trivial) ?_
  rintro _ h1 ⟨rfl, rfl⟩
  refine lx_assign (.int .i64 ((popN x : Nat) : Int)) rfl rfl <| lx_nil <| ?_
  -- R1
  refine wi_ret ⟨.int .i64 ((popN x : Nat) : Int), (res_one rfl rfl), ⟨rfl, rfl⟩⟩

end Go.Proofs.Ytdokijbdnajhgaa
namespace Go.Proofs.Ytdokijbdnajhgaa
open Go Go.X

set_option maxRecDepth 10000 in
theorem oclosure_spec (h : Heap) (n : Int) (vl : Value) (ls : List (Int × Int)) (hr_vl : RdE encP h vl ls) (hp1 : ls.length ≤ 4611686018427387904) : Fx Try.prog 63 [.int .i64 n, vl] h (fun v h' => ∃ (s : Value) (hs : List Hdr) (p : List (List Bool)), v = .tuple #[s, .int .i64 (closE n ls)] ∧ OwE encHd h' h.size 70 s hs ∧ OT encB h' h.size 4 hs p ∧ ((closE n ls ≠ 0 ∧ p = []) ∨ (closE n ls = 0 ∧ p = tabF n.toNat (closW n.toNat ls))) ∧ Ext h.size h h') := by
  refine fx_intro (n := 53) [(0, .int .i64 n), (1, vl)] Try.func63 rfl rfl (by simp) ⟨rfl, rfl, trivial⟩ fun g0 => ?_
  refine wi_seq <| wi_reg rfl <| lx_assign (.slice none 0 0) rfl rfl <| lx_assign (.int .i64 0) rfl rfl <| lx_nil <| wi_seq <| wi_seq <| wi_reg rfl <| lx_move (.int .i64 n) rfl rfl <| lx_lssS rfl rfl rfl (fun c1 => ?_) (fun c1 => ?_)
  · refine lx_move (.bool true) rfl rfl <| lx_skip rfl <| lx_skip rfl <| lx_pick true (.bool true) rfl rfl rfl <| lx_nil <| wi_true rfl <| wi_seq <| wi_reg rfl <| lx_assign (.slice none 0 0) rfl rfl <| lx_assign (.int .i64 1) rfl rfl <| lx_nil <| ?_
    -- R1
    refine wi_ret ⟨.tuple #[.slice none 0 0, .int .i64 1], (res_two rfl rfl rfl), ⟨.slice none 0 0, [], [], ?_, (owE_nil encHd _ h.size 70), (OT.nil encB _ h.size 4), ?_, (Ext.refl _ _)⟩⟩
    · first
      | (rw [closE_size (by omega)]; done)
      | (rw [closE_out (i := i) (by omega) (by omega)]; done)
      | (rw [hce]; have hcc := chkT_cases r_1; first | (rw [hcc.resolve_left (by omega)]; done) | (rw [hcc.resolve_right (by omega)]; done))
    · first
      | exact .inl ⟨by rw [closE_size (by omega)]; decide, rfl⟩
      | exact .inl ⟨by rw [closE_out (i := i) (by omega) (by omega)]; decide, rfl⟩
      | exact .inl ⟨by omega, rfl⟩
      | exact .inr ⟨by omega, by rw [Int.toNat_natCast]; exact hrt⟩
  · refine lx_move (.bool false) rfl rfl <| lx_move (.int .i64 n) rfl rfl <| lx_gtrS rfl rfl rfl (fun c2 => ?_) (fun c2 => ?_)
    · refine lx_pick false (.bool true) rfl rfl rfl <| lx_nil <| wi_true rfl <| wi_seq <| wi_reg rfl <| lx_assign (.slice none 0 0) rfl rfl <| lx_assign (.int .i64 1) rfl rfl <| lx_nil <| ?_
      -- R2
      refine wi_ret ⟨.tuple #[.slice none 0 0, .int .i64 1], (res_two rfl rfl rfl), ⟨.slice none 0 0, [], [], ?_, (owE_nil encHd _ h.size 70), (OT.nil encB _ h.size 4), ?_, (Ext.refl _ _)⟩⟩
      · first
        | (rw [closE_size (by omega)]; done)
        | (rw [closE_out (i := i) (by omega) (by omega)]; done)
        | (rw [hce]; have hcc := chkT_cases r_1; first | (rw [hcc.resolve_left (by omega)]; done) | (rw [hcc.resolve_right (by omega)]; done))
      · first
        | exact .inl ⟨by rw [closE_size (by omega)]; decide, rfl⟩
        | exact .inl ⟨by rw [closE_out (i := i) (by omega) (by omega)]; decide, rfl⟩
        | exact .inl ⟨by omega, rfl⟩
        | exact .inr ⟨by omega, by rw [Int.toNat_natCast]; exact hrt⟩
    · refine lx_pick false (.bool false) rfl rfl rfl <| lx_nil <| wi_false rfl <| wi_skip <| wi_seq <| wi_reg rfl <| ?_
      have hn1 : ¬ (n < 1 ∨ 12 < n) := by omega
      obtain ⟨m, rfl⟩ : ∃ m : Nat, n = ((m : Nat) : Int) := ⟨n.toNat, by omega⟩
      refine lx_move (.int .i64 ((m : Nat) : Int)) rfl rfl <| lx_call [.int .i64 ((m : Nat) : Int)] rfl rfl Try.call115 rfl (obare_spec h m (by omega)) (fun _ _ _ => trivial) ?_
      rintro vp h1 ⟨_, hs, rfl, ho1, hot1, hx1⟩
      have ho2 := ho1.base (Nat.le_refl h.size)
      have hot2 := hot1.base (Nat.le_refl h.size)
      have hl_hot2 := hot2.1
      refine lx_assign (vp) rfl rfl <| lx_nil <| wi_seq <| wi_seq <| wi_reg rfl <| lx_move (vl) rfl rfl <| lx_len rfl Try.underlying22 hr_vl rfl <| lx_move (.int .i64 0) rfl rfl <| lx_nil <| wi_block <| ?_
      refine wi_loop (σ := Nat × (List Hdr) × (List (List Bool))) (rngB 19 47 [4, 5, 8]) (fun (ss : Nat × (List Hdr) × (List (List Bool))) => [(19, .int .i64 ((ss.1 : Nat) : Int))]) (fun (ss : Nat × (List Hdr) × (List (List Bool))) (hh : Heap) => OwE encHd hh h.size 70 vp ss.2.1 ∧ OT encB hh h.size 4 ss.2.1 ss.2.2 ∧ Ext h.size h hh ∧ (ss.1 ≤ ls.length) ∧ (Sq ss.2.2 m) ∧ (∀ j, j < ss.1 → inR m (gt ls j) = true) ∧ (∀ x y, x < m → y < m → pb ss.2.2 x y = pairW ls ss.1 x y)) (fun (ss : Nat × (List Hdr) × (List (List Bool))) => ls.length - ss.1) (0, hs, tabF m (fun x y => decide (x = y))) ⟨rfl, trivial⟩ ⟨?_, ?_, hx1, ?_, ?_, ?_, ?_⟩ ?_
      · first | exact ho2 | (simpa using ho2)
      · first | exact hot2 | (simpa using hot2)
      · try dsimp only
        omega
      · try dsimp only
        exact tabF_sq _ _
      · try dsimp only
        intro j hj; omega
      · try dsimp only
        intro x y hx hy; rw [pb_tabF hx hy, pairW_zero]
      rintro g1 ⟨i, hs, p⟩ hh1 ⟨ho3, hot3, hx0_1, hi, hq, hr, hp⟩ IH1
      dsimp only at *
      have hq1 := hq.1
      have hl_hot3 := hot3.1
      refine wi_seq <| wi_reg rfl <| lx_lssS rfl rfl rfl (fun c3 => ?_) (fun c3 => ?_)
      · refine lx_nil <| wi_seq <| wi_true rfl <| wi_skip <| wi_seq <| wi_block <| wi_seq <| wi_reg rfl <| lx_ix (i := i) rfl eT22 hr_vl rfl rfl (by omega) <| lx_ldA (i := i) [.int .i64 ((gt ls i).1), .int .i64 ((gt ls i).2)] rfl rfl wd85 (hr_vl.extS hx0_1) (by omega) rfl rfl <| lx_alloc rfl rfl Try.zeroValue85 (fun _ _ _ => trivial) fun bn1 h2 hbn1 hbk1 hx2 hsz1 => ?_
        have hbb1 : h.size ≤ bn1 := by have := hx0_1.size; omega
        have hdj1 : Value.ownBlock vp ≠ some bn1 := by intro e; have := (ho3.lt e).2; omega
        have hnb1 : Nbt hs bn1 := nbt_new hot3 (by omega)
        have hx0_2 := hx0_1.trans2 hx2 hx0_1.size
        have ho4 := ho3.extS hx2
        have hot4 := hot3.extS hx2
        have hbk1 : Blk h2 bn1 #[.int .i64 0, .int .i64 0] 85 := hbk1
        refine lx_stBA (#[.int .i64 ((gt ls i).1), .int .i64 ((gt ls i).2)]) rfl rfl Try.sizeOf85 hbk1 rfl rfl rfl rfl (by simp [Value.oneCell']) (fun _ _ _ _ => trivial) fun h3 hbk2 hc1 => ?_
        have hx0_3 := hx0_2.trans (hc1.ext hbb1)
        have ho5 := hc1.owE ho4 hdj1
        have hot5 := hot4.chgB hc1 hnb1
        refine lx_nil <| wi_seq <| wi_seq <| wi_reg rfl <| lx_ixB (i := 0) (0) rfl Try.underlying85 Try.sizeOf3 rfl rfl (by omega) rfl <| lx_ldB (.int .i64 ((gt ls i).1)) rfl rfl fl3 hbk2 rfl rfl <| lx_ixB (i := 1) (1) rfl Try.underlying85 Try.sizeOf3 rfl rfl (by omega) rfl <| lx_ldB (.int .i64 ((gt ls i).2)) rfl rfl fl3 hbk2 rfl rfl <| lx_min (min ((gt ls i).1) ((gt ls i).2)) rfl rfl rfl (by omega) <| lx_lssS rfl rfl rfl (fun c4 => ?_) (fun c4 => ?_)
        · refine lx_move (.bool true) rfl rfl <| lx_skip rfl <| lx_skip rfl <| lx_skip rfl <| lx_skip rfl <| lx_skip rfl <| lx_skip rfl <| lx_skip rfl <| lx_pick true (.bool true) rfl rfl rfl <| lx_nil <| wi_true rfl <| wi_seq <| wi_reg rfl <| lx_assign (.slice none 0 0) rfl rfl <| lx_assign (.int .i64 1) rfl rfl <| lx_nil <| ?_
          -- R3
          refine wi_ret ⟨.tuple #[.slice none 0 0, .int .i64 1], (res_two rfl rfl rfl), ⟨.slice none 0 0, [], [], ?_, (owE_nil encHd _ h.size 70), (OT.nil encB _ h.size 4), ?_, hx0_3⟩⟩
          · first
            | (rw [closE_size (by omega)]; done)
            | (rw [closE_out (i := i) (by omega) (by omega)]; done)
            | (rw [hce]; have hcc := chkT_cases r_1; first | (rw [hcc.resolve_left (by omega)]; done) | (rw [hcc.resolve_right (by omega)]; done))
          · first
            | exact .inl ⟨by rw [closE_size (by omega)]; decide, rfl⟩
            | exact .inl ⟨by rw [closE_out (i := i) (by omega) (by omega)]; decide, rfl⟩
            | exact .inl ⟨by omega, rfl⟩
            | exact .inr ⟨by omega, by rw [Int.toNat_natCast]; exact hrt⟩
        · refine lx_move (.bool false) rfl rfl <| lx_ixB (i := 0) (0) rfl Try.underlying85 Try.sizeOf3 rfl rfl (by omega) rfl <| lx_ldB (.int .i64 ((gt ls i).1)) rfl rfl fl3 hbk2 rfl rfl <| lx_ixB (i := 1) (1) rfl Try.underlying85 Try.sizeOf3 rfl rfl (by omega) rfl <| lx_ldB (.int .i64 ((gt ls i).2)) rfl rfl fl3 hbk2 rfl rfl <| lx_max (max ((gt ls i).1) ((gt ls i).2)) rfl rfl rfl (by omega) <| lx_move (.int .i64 ((m : Nat) : Int)) rfl rfl <| lx_geqS rfl rfl rfl (fun c5 => ?_) (fun c5 => ?_)
          · refine lx_pick false (.bool true) rfl rfl rfl <| lx_nil <| wi_true rfl <| wi_seq <| wi_reg rfl <| lx_assign (.slice none 0 0) rfl rfl <| lx_assign (.int .i64 1) rfl rfl <| lx_nil <| ?_
            -- R4
            refine wi_ret ⟨.tuple #[.slice none 0 0, .int .i64 1], (res_two rfl rfl rfl), ⟨.slice none 0 0, [], [], ?_, (owE_nil encHd _ h.size 70), (OT.nil encB _ h.size 4), ?_, hx0_3⟩⟩
            · first
              | (rw [closE_size (by omega)]; done)
              | (rw [closE_out (i := i) (by omega) (by omega)]; done)
              | (rw [hce]; have hcc := chkT_cases r_1; first | (rw [hcc.resolve_left (by omega)]; done) | (rw [hcc.resolve_right (by omega)]; done))
            · first
              | exact .inl ⟨by rw [closE_size (by omega)]; decide, rfl⟩
              | exact .inl ⟨by rw [closE_out (i := i) (by omega) (by omega)]; decide, rfl⟩
              | exact .inl ⟨by omega, rfl⟩
              | exact .inr ⟨by omega, by rw [Int.toNat_natCast]; exact hrt⟩
          · refine lx_pick false (.bool false) rfl rfl rfl <| lx_nil <| wi_false rfl <| wi_skip <| wi_draw mo rfl (by decide +kernel) <| ?_
            obtain ⟨a, b, hgc, ha, hb⟩ : ∃ a b : Nat, gt ls i = ((a : Int), (b : Int)) ∧ a < m ∧ b < m := ⟨(gt ls i).1.toNat, (gt ls i).2.toNat, Prod.ext (by show _ = ((_ : Nat) : Int); omega) (by show _ = ((_ : Nat) : Int); omega), by omega, by omega⟩
            refine lx_move (vp) rfl rfl <| lx_ixB (i := 0) (0) rfl Try.underlying85 Try.sizeOf3 rfl rfl (by omega) rfl <| lx_ldB (.int .i64 ((a : Nat) : Int)) rfl rfl fl3 hbk2 (by rw [hgc]; rfl) rfl <| lx_ix (i := a) rfl eT29 ho5.rd rfl rfl (by omega) <| lx_ld (i := a) (j := 0) ((gt hs a).v) rfl rfl fl70 ho5.rd (by omega) rfl rfl <| lx_ixB (i := 1) (1) rfl Try.underlying85 Try.sizeOf3 rfl rfl (by omega) rfl <| lx_ldB (.int .i64 ((b : Nat) : Int)) rfl rfl fl3 hbk2 (by rw [hgc]; rfl) rfl <| lx_ix (i := b) rfl eT70 (hot5.2.1 a (by omega)).rd rfl rfl (by rw [hq.2 a (by omega)]; omega) <| lx_st (i := b) true rfl rfl Try.sizeOf4 (hot5.2.1 a (by omega)) (by rw [hq.2 a (by omega)]; omega) rfl rfl (fun _ _ _ _ _ => trivial) fun h4 ho6 hc2 hsz2 => ?_
            have hx0_4 := hx0_3.trans ((hot5.2.1 a (by omega)).ext hc2 hx0_3.size)
            have ho7 := ho5.chg hc2 (Dj.symm ((djt_ty hot5 ho5 (by decide)) a (by rw [hot5.1]; exact (by omega))))
            have hb1 := hbk2.chg hc2 (hnb1 a (by rw [hot5.1]; exact (by omega)))
            have hot6 := OT.cell hot5 (by omega) hc2 ho6
            have hl_hot6 := hot6.1
            refine lx_nil <| wi_inBlock <| wi_reg rfl <| lx_add (((i + 1 : Nat) : Int)) rfl rfl rfl (by omega) (by omega) (by omega) <| lx_move (.int .i64 ((i + 1 : Nat) : Int)) rfl rfl <| lx_nil <| ?_
            -- L0.1
            refine IH1 _ _ (i + 1, hs, p.set a ((gt p a).set b true)) (agree_ups rfl agree_self) ⟨rfl, trivial⟩ ⟨?_, ?_, hx0_4, ?_, ?_, ?_, ?_⟩ ?_
            · first | exact ho7 | (simpa using ho7)
            · first | exact hot6 | (simpa using hot6)
            · try dsimp only
              omega
            · try dsimp only
              exact sq_set hq (by omega)
            · try dsimp only
              intro j hj; by_cases e : j = i
              · subst e; rw [hgc]; exact inR_iff.2 ⟨by show (0 : Int) ≤ (a : Int); omega, by show (0 : Int) ≤ (b : Int); omega, by show (a : Int) < m; omega, by show (b : Int) < m; omega⟩
              · exact hr j (by omega)
            · try dsimp only
              exact pairW_step (by omega) hq ha hb hgc hp
            · first | omega | (dsimp only; omega)
      · refine lx_nil <| wi_seq <| wi_false rfl <| wi_exit rfl <| wi_seq <| wi_seq <| wi_reg rfl <| ?_
        have hpl : p.length = m := hq.1
        refine lx_move (vp) rfl rfl <| lx_call [vp] rfl rfl Try.call116 rfl (oclosed_spec hh1 h.size vp hs p ho3 hot3 hx0_1.size (by omega) (by rw [hpl]; exact hq)) (fun _ _ _ => trivial) ?_
        rintro vp h5 ⟨r_1, rfl, ho8, hot7, hr_1, hx3⟩
        have hx0_5 := hx0_1.trans hx3
        have hl_hot7 := hot7.1
        refine lx_assign (vp) rfl rfl <| lx_nil <| wi_seq <| wi_reg rfl <| ?_
        have hrt : r_1 = tabF m (closW m ls) := by rw [hr_1]; exact clos_tab hq (by omega) hp
        have hce := closE_ok (by omega) (by omega) (fun j hj => hr j (by omega))
        rw [← chkT_tabF (by omega) (by omega), ← hrt] at hce
        have hqr : Sq r_1 m := by rw [hrt]; exact tabF_sq _ _
        refine lx_move (vp) rfl rfl <| lx_call [vp] rfl rfl Try.call62 rfl (ocheck_spec h5 vp hs r_1 ho8.rd hot7.rt (by rw [hqr.1]; omega) (fun i hi => by rw [hqr.2 i (by rw [← hqr.1]; exact hi)]; omega)) (fun _ _ _ => trivial) ?_
        rintro _ h6 ⟨rfl, hx4⟩
        have hx0_6 := hx0_5.trans2 hx4 hx0_5.size
        have ho9 := ho8.extS hx4
        have hot8 := hot7.extS hx4
        refine lx_neqS rfl rfl rfl (fun c6 => ?_) (fun c6 => ?_)
        · refine lx_nil <| wi_true rfl <| wi_seq <| wi_reg rfl <| lx_assign (.slice none 0 0) rfl rfl <| lx_assign (.int .i64 90) rfl rfl <| lx_nil <| ?_
          -- R5
          refine wi_ret ⟨.tuple #[.slice none 0 0, .int .i64 90], (res_two rfl rfl rfl), ⟨.slice none 0 0, [], [], ?_, (owE_nil encHd _ h.size 70), (OT.nil encB _ h.size 4), ?_, hx0_6⟩⟩
          · first
            | (rw [closE_size (by omega)]; done)
            | (rw [closE_out (i := i) (by omega) (by omega)]; done)
            | (rw [hce]; have hcc := chkT_cases r_1; first | (rw [hcc.resolve_left (by omega)]; done) | (rw [hcc.resolve_right (by omega)]; done))
          · first
            | exact .inl ⟨by rw [closE_size (by omega)]; decide, rfl⟩
            | exact .inl ⟨by rw [closE_out (i := i) (by omega) (by omega)]; decide, rfl⟩
            | exact .inl ⟨by omega, rfl⟩
            | exact .inr ⟨by omega, by rw [Int.toNat_natCast]; exact hrt⟩
        · refine lx_nil <| wi_false rfl <| wi_skip <| wi_seq <| wi_reg rfl <| lx_move (vp) rfl rfl <| lx_assign (vp) rfl rfl <| lx_assign (.int .i64 0) rfl rfl <| lx_nil <| ?_
          -- R6
          refine wi_ret ⟨.tuple #[vp, .int .i64 0], (res_two rfl rfl rfl), ⟨vp, hs, r_1, ?_, ho9, hot8, ?_, hx0_6⟩⟩
          · first
            | (rw [closE_size (by omega)]; done)
            | (rw [closE_out (i := i) (by omega) (by omega)]; done)
            | (rw [hce]; have hcc := chkT_cases r_1; first | (rw [hcc.resolve_left (by omega)]; done) | (rw [hcc.resolve_right (by omega)]; done))
          · first
            | exact .inl ⟨by rw [closE_size (by omega)]; decide, rfl⟩
            | exact .inl ⟨by rw [closE_out (i := i) (by omega) (by omega)]; decide, rfl⟩
            | exact .inl ⟨by omega, rfl⟩
            | exact .inr ⟨by omega, by rw [Int.toNat_natCast]; exact hrt⟩

end Go.Proofs.Ytdokijbdnajhgaa
namespace Go.Proofs.Ytdokijbdnajhgaa
open Go Go.X

set_option maxRecDepth 10000 in
theorem risorder_spec (h : Heap) (vp : Value) (hs : List Hdr) (p : List (List Bool)) (hr_vp : RdE encHd h vp hs) (ht_vp : RT encB h hs p) (hp1 : p.length ≤ 1000000) (hp2 : ∀ i, i < p.length → (gt p i).length ≤ 1000000) : Fx Try.prog 112 [vp] h (fun v h' => v = .bool (isT p) ∧ h = h') := by
  have hl_vp := ht_vp.1
  refine fx_intro (n := 92) [(0, vp)] Try.func112 rfl rfl (by simp) ⟨rfl, trivial⟩ fun g0 => ?_
  refine wi_seq <| wi_reg rfl <| lx_assign (.bool false) rfl rfl <| lx_nil <| wi_seq <| wi_reg rfl <| lx_move (vp) rfl rfl <| lx_len rfl Try.underlying23 hr_vp rfl <| lx_assign (.int .i64 ((hs.length : Nat) : Int)) rfl rfl <| lx_nil <| wi_seq <| wi_seq <| wi_reg rfl <| lx_assign (.int .i64 0) rfl rfl <| lx_nil <| wi_block <| ?_
  refine wi_loop (σ := Nat) (rngB 10 22 [2, 4]) (fun (w : Nat) => [(4, .int .i64 ((w : Nat) : Int))]) (fun (w : Nat) (hh : Heap) => h = hh ∧ (w ≤ p.length) ∧ (∀ j, j < w → (gt p j).length = p.length)) (fun (w : Nat) => p.length - w) 0 ⟨rfl, trivial⟩ ⟨rfl, ?_, ?_⟩ ?_
  · try dsimp only
    omega
  · try dsimp only
    intro j hj; omega
  rintro g1 w hh1 ⟨rfl, hw, he⟩ IH1
  refine wi_seq <| wi_seq <| wi_reg rfl <| lx_move (.int .i64 ((w : Nat) : Int)) rfl rfl <| lx_move (.int .i64 ((hs.length : Nat) : Int)) rfl rfl <| lx_lssS rfl rfl rfl (fun c1 => ?_) (fun c1 => ?_)
  · refine lx_nil <| wi_true rfl <| wi_skip <| wi_seq <| wi_block <| wi_seq <| wi_reg rfl <| lx_move (vp) rfl rfl <| lx_move (.int .i64 ((w : Nat) : Int)) rfl rfl <| lx_ix (i := w) rfl eT23 hr_vp rfl rfl (by omega) <| lx_ld (i := w) (j := 0) ((gt hs w).v) rfl rfl fl70 hr_vp (by omega) rfl rfl <| lx_len rfl Try.underlying70 (ht_vp.2 w (by omega)) rfl <| lx_move (.int .i64 ((hs.length : Nat) : Int)) rfl rfl <| lx_neqS rfl rfl rfl (fun c2 => ?_) (fun c2 => ?_)
    · refine lx_nil <| wi_true rfl <| wi_seq <| wi_reg rfl <| lx_assign (.bool false) rfl rfl <| lx_nil <| ?_
      -- R1
      refine wi_ret ⟨.bool false, (res_one rfl rfl), ⟨?_, rfl⟩⟩
      · congr 1
        first
        | exact (isT_iff.2 ⟨hsQ, fun a b ha hb => hA a (by omega) b hb⟩).symm
        | exact (bad_sq (i := w) (by omega) (by omega)).symm
        | exact (bad_ok (x := x) (y := x) (by omega) (by omega) (bad_refl rfl (by first | assumption | exact nbf (by assumption) | exact nbt (by assumption)))).symm
        | exact (bad_ok (x := x) (y := y) (by omega) (by omega) (bad_tri (z := z) (by omega) (by first | assumption | exact nbf (by assumption) | exact nbt (by assumption)) (by first | assumption | exact nbf (by assumption) | exact nbt (by assumption)) (by first | assumption | exact nbf (by assumption) | exact nbt (by assumption)))).symm
        | exact (bad_ok (x := x) (y := y) (by omega) (by omega) (bad_anti (by omega) (by first | assumption | exact nbf (by assumption) | exact nbt (by assumption)) (by first | assumption | exact nbf (by assumption) | exact nbt (by assumption)))).symm
    · refine lx_nil <| wi_false rfl <| wi_skip <| wi_inBlock <| wi_reg rfl <| lx_move (.int .i64 ((w : Nat) : Int)) rfl rfl <| lx_add (((w + 1 : Nat) : Int)) rfl rfl rfl (by omega) (by omega) (by omega) <| lx_assign (.int .i64 ((w + 1 : Nat) : Int)) rfl rfl <| lx_nil <| ?_
      -- L0.1
      refine IH1 _ _ (w + 1) (agree_ups rfl agree_self) ⟨rfl, trivial⟩ ⟨rfl, ?_, ?_⟩ ?_
      · try dsimp only
        omega
      · try dsimp only
        intro j hj; by_cases e : j = w
        · subst e; omega
        · exact he j (by omega)
      · first | omega | (dsimp only; omega)
  · refine lx_nil <| wi_false rfl <| wi_exit rfl <| wi_seq <| wi_seq <| wi_reg rfl <| ?_
    have hsQ : Sq p p.length := ⟨rfl, fun j hj => he j (by omega)⟩
    refine lx_assign (.int .i64 0) rfl rfl <| lx_nil <| wi_block <| ?_
    refine wi_loop (σ := Nat) (rngB 22 92 [2, 5, 6, 7]) (fun (x : Nat) => [(5, .int .i64 ((x : Nat) : Int))]) (fun (x : Nat) (hh : Heap) => h = hh ∧ (x ≤ p.length) ∧ (∀ a, a < x → ∀ b, b < p.length → okP p.length (pb p) a b)) (fun (x : Nat) => p.length - x) 0 ⟨rfl, trivial⟩ ⟨rfl, ?_, ?_⟩ ?_
    · try dsimp only
      omega
    · try dsimp only
      intro a ha; omega
    rintro g2 x hh2 ⟨rfl, hx, hA⟩ IH2
    refine wi_seq <| wi_seq <| wi_reg rfl <| lx_move (.int .i64 ((x : Nat) : Int)) rfl rfl <| lx_move (.int .i64 ((hs.length : Nat) : Int)) rfl rfl <| lx_lssS rfl rfl rfl (fun c3 => ?_) (fun c3 => ?_)
    · refine lx_nil <| wi_true rfl <| wi_skip <| wi_seq <| wi_block <| wi_seq <| wi_seq <| wi_reg rfl <| lx_move (vp) rfl rfl <| lx_move (.int .i64 ((x : Nat) : Int)) rfl rfl <| lx_ix (i := x) rfl eT23 hr_vp rfl rfl (by omega) <| lx_ld (i := x) (j := 0) ((gt hs x).v) rfl rfl fl70 hr_vp (by omega) rfl rfl <| lx_move (.int .i64 ((x : Nat) : Int)) rfl rfl <| lx_ix (i := x) rfl eT70 (ht_vp.2 x (by omega)) rfl rfl (by rw [hsQ.2 x (by omega)]; omega) <| lx_ld (i := x) (j := 0) (.bool (gt (gt p x) x)) rfl rfl fl4 (ht_vp.2 x (by omega)) (by rw [hsQ.2 x (by omega)]; omega) rfl rfl <| lx_not rfl rfl <| lx_nil <| wi_condS (t := !(gt (gt p x) x)) rfl (fun c4 => ?_) (fun c4 => ?_)
      · refine wi_seq <| wi_reg rfl <| lx_assign (.bool false) rfl rfl <| lx_nil <| ?_
        -- R2
        refine wi_ret ⟨.bool false, (res_one rfl rfl), ⟨?_, rfl⟩⟩
        · congr 1
          first
          | exact (isT_iff.2 ⟨hsQ, fun a b ha hb => hA a (by omega) b hb⟩).symm
          | exact (bad_sq (i := w) (by omega) (by omega)).symm
          | exact (bad_ok (x := x) (y := x) (by omega) (by omega) (bad_refl rfl (by first | assumption | exact nbf (by assumption) | exact nbt (by assumption)))).symm
          | exact (bad_ok (x := x) (y := y) (by omega) (by omega) (bad_tri (z := z) (by omega) (by first | assumption | exact nbf (by assumption) | exact nbt (by assumption)) (by first | assumption | exact nbf (by assumption) | exact nbt (by assumption)) (by first | assumption | exact nbf (by assumption) | exact nbt (by assumption)))).symm
          | exact (bad_ok (x := x) (y := y) (by omega) (by omega) (bad_anti (by omega) (by first | assumption | exact nbf (by assumption) | exact nbt (by assumption)) (by first | assumption | exact nbf (by assumption) | exact nbt (by assumption)))).symm
      · refine wi_skip <| wi_seq <| wi_reg rfl <| ?_
        have hre : pb p x x = true := nbf (by assumption)
        refine lx_assign (.int .i64 0) rfl rfl <| lx_nil <| wi_block <| ?_
        refine wi_loop (σ := Nat) (rngB 35 92 [2, 6, 7]) (fun (y : Nat) => [(6, .int .i64 ((y : Nat) : Int))]) (fun (y : Nat) (hh : Heap) => h = hh ∧ (y ≤ p.length) ∧ (∀ b, b < y → okP p.length (pb p) x b)) (fun (y : Nat) => p.length - y) 0 ⟨rfl, trivial⟩ ⟨rfl, ?_, ?_⟩ ?_
        · try dsimp only
          omega
        · try dsimp only
          intro b hb; omega
        rintro g3 y hh3 ⟨rfl, hy, hB⟩ IH3
        refine wi_seq <| wi_seq <| wi_reg rfl <| lx_move (.int .i64 ((y : Nat) : Int)) rfl rfl <| lx_move (.int .i64 ((hs.length : Nat) : Int)) rfl rfl <| lx_lssS rfl rfl rfl (fun c5 => ?_) (fun c5 => ?_)
        · refine lx_nil <| wi_true rfl <| wi_skip <| wi_seq <| wi_block <| wi_seq <| wi_seq <| wi_reg rfl <| lx_move (.int .i64 ((x : Nat) : Int)) rfl rfl <| lx_move (.int .i64 ((y : Nat) : Int)) rfl rfl <| lx_neqS rfl rfl rfl (fun c6 => ?_) (fun c6 => ?_)
          · refine lx_move (.bool true) rfl rfl <| lx_move (vp) rfl rfl <| lx_move (.int .i64 ((x : Nat) : Int)) rfl rfl <| lx_ix (i := x) rfl eT23 hr_vp rfl rfl (by omega) <| lx_ld (i := x) (j := 0) ((gt hs x).v) rfl rfl fl70 hr_vp (by omega) rfl rfl <| lx_move (.int .i64 ((y : Nat) : Int)) rfl rfl <| lx_ix (i := y) rfl eT70 (ht_vp.2 x (by omega)) rfl rfl (by rw [hsQ.2 x (by omega)]; omega) <| lx_ld (i := y) (j := 0) (.bool (gt (gt p x) y)) rfl rfl fl4 (ht_vp.2 x (by omega)) (by rw [hsQ.2 x (by omega)]; omega) rfl rfl <| lx_pick true (.bool (gt (gt p x) y)) rfl rfl rfl <| lx_move (.bool (gt (gt p x) y)) rfl rfl <| ?_
            cases c7 : (gt (gt p x) y)
            · refine lx_skip rfl <| lx_skip rfl <| lx_skip rfl <| lx_skip rfl <| lx_skip rfl <| lx_skip rfl <| lx_skip rfl <| lx_pick false (.bool false) rfl rfl rfl <| lx_nil <| wi_false rfl <| wi_skip <| wi_seq <| wi_reg rfl <| lx_assign (.int .i64 0) rfl rfl <| lx_nil <| wi_block <| ?_
              refine wi_loop (σ := Nat) (rngB 61 92 [2, 7]) (fun (z : Nat) => [(7, .int .i64 ((z : Nat) : Int))]) (fun (z : Nat) (hh : Heap) => h = hh ∧ (z ≤ p.length) ∧ (∀ c, c < z → pb p x y = true → pb p y c = true → pb p x c = true)) (fun (z : Nat) => p.length - z) 0 ⟨rfl, trivial⟩ ⟨rfl, ?_, ?_⟩ ?_
              · try dsimp only
                omega
              · try dsimp only
                intro c hc; omega
              rintro g4 z hh4 ⟨rfl, hz, hC⟩ IH4
              refine wi_seq <| wi_seq <| wi_reg rfl <| lx_move (.int .i64 ((z : Nat) : Int)) rfl rfl <| lx_move (.int .i64 ((hs.length : Nat) : Int)) rfl rfl <| lx_lssS rfl rfl rfl (fun c8 => ?_) (fun c8 => ?_)
              · refine lx_nil <| wi_true rfl <| wi_skip <| wi_seq <| wi_block <| wi_seq <| wi_reg rfl <| lx_move (vp) rfl rfl <| lx_move (.int .i64 ((x : Nat) : Int)) rfl rfl <| lx_ix (i := x) rfl eT23 hr_vp rfl rfl (by omega) <| lx_ld (i := x) (j := 0) ((gt hs x).v) rfl rfl fl70 hr_vp (by omega) rfl rfl <| lx_move (.int .i64 ((y : Nat) : Int)) rfl rfl <| lx_ix (i := y) rfl eT70 (ht_vp.2 x (by omega)) rfl rfl (by rw [hsQ.2 x (by omega)]; omega) <| lx_ld (i := y) (j := 0) (.bool false) rfl rfl fl4 (ht_vp.2 x (by omega)) (by rw [hsQ.2 x (by omega)]; omega) (by show some (Value.bool (gt (gt p x) y)) = _; rw [c7]) rfl <| lx_move (.bool false) rfl rfl <| lx_skip rfl <| lx_skip rfl <| lx_skip rfl <| lx_skip rfl <| lx_skip rfl <| lx_skip rfl <| lx_skip rfl <| lx_pick false (.bool false) rfl rfl rfl <| lx_move (.bool false) rfl rfl <| lx_skip rfl <| lx_skip rfl <| lx_skip rfl <| lx_skip rfl <| lx_skip rfl <| lx_skip rfl <| lx_skip rfl <| lx_skip rfl <| lx_pick false (.bool false) rfl rfl rfl <| lx_nil <| wi_false rfl <| wi_skip <| wi_inBlock <| wi_reg rfl <| lx_move (.int .i64 ((z : Nat) : Int)) rfl rfl <| lx_add (((z + 1 : Nat) : Int)) rfl rfl rfl (by omega) (by omega) (by omega) <| lx_assign (.int .i64 ((z + 1 : Nat) : Int)) rfl rfl <| lx_nil <| ?_
                -- L6.1
                refine IH4 _ _ (z + 1) (agree_ups rfl agree_self) ⟨rfl, trivial⟩ ⟨rfl, ?_, ?_⟩ ?_
                · try dsimp only
                  omega
                · try dsimp only
                  intro c hc h1 h2
                  by_cases e : c = z
                  · subst e; first | assumption | exact nbf (by assumption) | exact absurd h1 (ntb (by first | assumption | exact nbt (by assumption))) | exact absurd h2 (ntb (by first | assumption | exact nbt (by assumption)))
                  · exact hC c (by omega) h1 h2
                · first | omega | (dsimp only; omega)
              · refine lx_nil <| wi_false rfl <| wi_exit rfl <| wi_inBlock <| wi_reg rfl <| lx_move (.int .i64 ((y : Nat) : Int)) rfl rfl <| lx_add (((y + 1 : Nat) : Int)) rfl rfl rfl (by omega) (by omega) (by omega) <| lx_assign (.int .i64 ((y + 1 : Nat) : Int)) rfl rfl <| lx_nil <| ?_
                -- L4.1
                refine IH3 _ _ (y + 1) (agree_ups rfl (agree_mix (rngB_sub (by decide) (by decide) rfl) (agree_ups rfl agree_self))) ⟨rfl, trivial⟩ ⟨rfl, ?_, ?_⟩ ?_
                · try dsimp only
                  omega
                · try dsimp only
                  intro b hb
                  by_cases e : b = y
                  · subst e; exact ⟨fun e => (by first | assumption | exact nbf (by assumption) | (subst e; assumption) | (exfalso; omega)), fun h1 h2 => (by first | (exfalso; omega) | assumption | exact nbt (by assumption) | exact absurd h2 (ntb (by assumption))), fun c hc h1 h2 => hC c (by omega) h1 h2⟩
                  · exact hB b (by omega)
                · first | omega | (dsimp only; omega)
            · refine lx_move (vp) rfl rfl <| lx_move (.int .i64 ((y : Nat) : Int)) rfl rfl <| lx_ix (i := y) rfl eT23 hr_vp rfl rfl (by omega) <| lx_ld (i := y) (j := 0) ((gt hs y).v) rfl rfl fl70 hr_vp (by omega) rfl rfl <| lx_move (.int .i64 ((x : Nat) : Int)) rfl rfl <| lx_ix (i := x) rfl eT70 (ht_vp.2 y (by omega)) rfl rfl (by rw [hsQ.2 y (by omega)]; omega) <| lx_ld (i := x) (j := 0) (.bool (gt (gt p y) x)) rfl rfl fl4 (ht_vp.2 y (by omega)) (by rw [hsQ.2 y (by omega)]; omega) rfl rfl <| lx_pick true (.bool (gt (gt p y) x)) rfl rfl rfl <| lx_nil <| wi_condS (t := gt (gt p y) x) rfl (fun c9 => ?_) (fun c9 => ?_)
              · refine wi_seq <| wi_reg rfl <| lx_assign (.bool false) rfl rfl <| lx_nil <| ?_
                -- R3
                refine wi_ret ⟨.bool false, (res_one rfl rfl), ⟨?_, rfl⟩⟩
                · congr 1
                  first
                  | exact (isT_iff.2 ⟨hsQ, fun a b ha hb => hA a (by omega) b hb⟩).symm
                  | exact (bad_sq (i := w) (by omega) (by omega)).symm
                  | exact (bad_ok (x := x) (y := x) (by omega) (by omega) (bad_refl rfl (by first | assumption | exact nbf (by assumption) | exact nbt (by assumption)))).symm
                  | exact (bad_ok (x := x) (y := y) (by omega) (by omega) (bad_tri (z := z) (by omega) (by first | assumption | exact nbf (by assumption) | exact nbt (by assumption)) (by first | assumption | exact nbf (by assumption) | exact nbt (by assumption)) (by first | assumption | exact nbf (by assumption) | exact nbt (by assumption)))).symm
                  | exact (bad_ok (x := x) (y := y) (by omega) (by omega) (bad_anti (by omega) (by first | assumption | exact nbf (by assumption) | exact nbt (by assumption)) (by first | assumption | exact nbf (by assumption) | exact nbt (by assumption)))).symm
              · refine wi_skip <| wi_seq <| wi_reg rfl <| lx_assign (.int .i64 0) rfl rfl <| lx_nil <| wi_block <| ?_
                refine wi_loop (σ := Nat) (rngB 61 92 [2, 7]) (fun (z : Nat) => [(7, .int .i64 ((z : Nat) : Int))]) (fun (z : Nat) (hh : Heap) => h = hh ∧ (z ≤ p.length) ∧ (∀ c, c < z → pb p x y = true → pb p y c = true → pb p x c = true)) (fun (z : Nat) => p.length - z) 0 ⟨rfl, trivial⟩ ⟨rfl, ?_, ?_⟩ ?_
                · try dsimp only
                  omega
                · try dsimp only
                  intro c hc; omega
                rintro g5 z hh5 ⟨rfl, hz, hC⟩ IH5
                refine wi_seq <| wi_seq <| wi_reg rfl <| lx_move (.int .i64 ((z : Nat) : Int)) rfl rfl <| lx_move (.int .i64 ((hs.length : Nat) : Int)) rfl rfl <| lx_lssS rfl rfl rfl (fun c10 => ?_) (fun c10 => ?_)
                · refine lx_nil <| wi_true rfl <| wi_skip <| wi_seq <| wi_block <| wi_seq <| wi_reg rfl <| lx_move (vp) rfl rfl <| lx_move (.int .i64 ((x : Nat) : Int)) rfl rfl <| lx_ix (i := x) rfl eT23 hr_vp rfl rfl (by omega) <| lx_ld (i := x) (j := 0) ((gt hs x).v) rfl rfl fl70 hr_vp (by omega) rfl rfl <| lx_move (.int .i64 ((y : Nat) : Int)) rfl rfl <| lx_ix (i := y) rfl eT70 (ht_vp.2 x (by omega)) rfl rfl (by rw [hsQ.2 x (by omega)]; omega) <| lx_ld (i := y) (j := 0) (.bool true) rfl rfl fl4 (ht_vp.2 x (by omega)) (by rw [hsQ.2 x (by omega)]; omega) (by show some (Value.bool (gt (gt p x) y)) = _; rw [c7]) rfl <| lx_move (.bool true) rfl rfl <| lx_move (vp) rfl rfl <| lx_move (.int .i64 ((y : Nat) : Int)) rfl rfl <| lx_ix (i := y) rfl eT23 hr_vp rfl rfl (by omega) <| lx_ld (i := y) (j := 0) ((gt hs y).v) rfl rfl fl70 hr_vp (by omega) rfl rfl <| lx_move (.int .i64 ((z : Nat) : Int)) rfl rfl <| lx_ix (i := z) rfl eT70 (ht_vp.2 y (by omega)) rfl rfl (by rw [hsQ.2 y (by omega)]; omega) <| lx_ld (i := z) (j := 0) (.bool (gt (gt p y) z)) rfl rfl fl4 (ht_vp.2 y (by omega)) (by rw [hsQ.2 y (by omega)]; omega) rfl rfl <| lx_pick true (.bool (gt (gt p y) z)) rfl rfl rfl <| lx_move (.bool (gt (gt p y) z)) rfl rfl <| ?_
                  cases c11 : (gt (gt p y) z)
                  · refine lx_skip rfl <| lx_skip rfl <| lx_skip rfl <| lx_skip rfl <| lx_skip rfl <| lx_skip rfl <| lx_skip rfl <| lx_skip rfl <| lx_pick false (.bool false) rfl rfl rfl <| lx_nil <| wi_false rfl <| wi_skip <| wi_inBlock <| wi_reg rfl <| lx_move (.int .i64 ((z : Nat) : Int)) rfl rfl <| lx_add (((z + 1 : Nat) : Int)) rfl rfl rfl (by omega) (by omega) (by omega) <| lx_assign (.int .i64 ((z + 1 : Nat) : Int)) rfl rfl <| lx_nil <| ?_
                    -- L6.1
                    refine IH5 _ _ (z + 1) (agree_ups rfl agree_self) ⟨rfl, trivial⟩ ⟨rfl, ?_, ?_⟩ ?_
                    · try dsimp only
                      omega
                    · try dsimp only
                      intro c hc h1 h2
                      by_cases e : c = z
                      · subst e; first | assumption | exact nbf (by assumption) | exact absurd h1 (ntb (by first | assumption | exact nbt (by assumption))) | exact absurd h2 (ntb (by first | assumption | exact nbt (by assumption)))
                      · exact hC c (by omega) h1 h2
                    · first | omega | (dsimp only; omega)
                  · refine lx_move (vp) rfl rfl <| lx_move (.int .i64 ((x : Nat) : Int)) rfl rfl <| lx_ix (i := x) rfl eT23 hr_vp rfl rfl (by omega) <| lx_ld (i := x) (j := 0) ((gt hs x).v) rfl rfl fl70 hr_vp (by omega) rfl rfl <| lx_move (.int .i64 ((z : Nat) : Int)) rfl rfl <| lx_ix (i := z) rfl eT70 (ht_vp.2 x (by omega)) rfl rfl (by rw [hsQ.2 x (by omega)]; omega) <| lx_ld (i := z) (j := 0) (.bool (gt (gt p x) z)) rfl rfl fl4 (ht_vp.2 x (by omega)) (by rw [hsQ.2 x (by omega)]; omega) rfl rfl <| lx_not rfl rfl <| lx_pick true (.bool (!(gt (gt p x) z))) rfl rfl rfl <| lx_nil <| wi_condS (t := !(gt (gt p x) z)) rfl (fun c12 => ?_) (fun c12 => ?_)
                    · refine wi_seq <| wi_reg rfl <| lx_assign (.bool false) rfl rfl <| lx_nil <| ?_
                      -- R4
                      refine wi_ret ⟨.bool false, (res_one rfl rfl), ⟨?_, rfl⟩⟩
                      · congr 1
                        first
                        | exact (isT_iff.2 ⟨hsQ, fun a b ha hb => hA a (by omega) b hb⟩).symm
                        | exact (bad_sq (i := w) (by omega) (by omega)).symm
                        | exact (bad_ok (x := x) (y := x) (by omega) (by omega) (bad_refl rfl (by first | assumption | exact nbf (by assumption) | exact nbt (by assumption)))).symm
                        | exact (bad_ok (x := x) (y := y) (by omega) (by omega) (bad_tri (z := z) (by omega) (by first | assumption | exact nbf (by assumption) | exact nbt (by assumption)) (by first | assumption | exact nbf (by assumption) | exact nbt (by assumption)) (by first | assumption | exact nbf (by assumption) | exact nbt (by assumption)))).symm
                        | exact (bad_ok (x := x) (y := y) (by omega) (by omega) (bad_anti (by omega) (by first | assumption | exact nbf (by assumption) | exact nbt (by assumption)) (by first | assumption | exact nbf (by assumption) | exact nbt (by assumption)))).symm
                    · refine wi_skip <| wi_inBlock <| wi_reg rfl <| lx_move (.int .i64 ((z : Nat) : Int)) rfl rfl <| lx_add (((z + 1 : Nat) : Int)) rfl rfl rfl (by omega) (by omega) (by omega) <| lx_assign (.int .i64 ((z + 1 : Nat) : Int)) rfl rfl <| lx_nil <| ?_
                      -- L6.2
                      refine IH5 _ _ (z + 1) (agree_ups rfl agree_self) ⟨rfl, trivial⟩ ⟨rfl, ?_, ?_⟩ ?_
                      · try dsimp only
                        omega
                      · try dsimp only
                        intro c hc h1 h2
                        by_cases e : c = z
                        · subst e; first | assumption | exact nbf (by assumption) | exact absurd h1 (ntb (by first | assumption | exact nbt (by assumption))) | exact absurd h2 (ntb (by first | assumption | exact nbt (by assumption)))
                        · exact hC c (by omega) h1 h2
                      · first | omega | (dsimp only; omega)
                · refine lx_nil <| wi_false rfl <| wi_exit rfl <| wi_inBlock <| wi_reg rfl <| lx_move (.int .i64 ((y : Nat) : Int)) rfl rfl <| lx_add (((y + 1 : Nat) : Int)) rfl rfl rfl (by omega) (by omega) (by omega) <| lx_assign (.int .i64 ((y + 1 : Nat) : Int)) rfl rfl <| lx_nil <| ?_
                  -- L4.2
                  refine IH3 _ _ (y + 1) (agree_ups rfl (agree_mix (rngB_sub (by decide) (by decide) rfl) (agree_ups rfl agree_self))) ⟨rfl, trivial⟩ ⟨rfl, ?_, ?_⟩ ?_
                  · try dsimp only
                    omega
                  · try dsimp only
                    intro b hb
                    by_cases e : b = y
                    · subst e; exact ⟨fun e => (by first | assumption | exact nbf (by assumption) | (subst e; assumption) | (exfalso; omega)), fun h1 h2 => (by first | (exfalso; omega) | assumption | exact nbt (by assumption) | exact absurd h2 (ntb (by assumption))), fun c hc h1 h2 => hC c (by omega) h1 h2⟩
                    · exact hB b (by omega)
                  · first | omega | (dsimp only; omega)
          · refine lx_move (.bool false) rfl rfl <| lx_skip rfl <| lx_skip rfl <| lx_skip rfl <| lx_skip rfl <| lx_skip rfl <| lx_skip rfl <| lx_skip rfl <| lx_pick false (.bool false) rfl rfl rfl <| lx_move (.bool false) rfl rfl <| lx_skip rfl <| lx_skip rfl <| lx_skip rfl <| lx_skip rfl <| lx_skip rfl <| lx_skip rfl <| lx_skip rfl <| lx_pick false (.bool false) rfl rfl rfl <| lx_nil <| wi_false rfl <| wi_skip <| wi_seq <| wi_reg rfl <| lx_assign (.int .i64 0) rfl rfl <| lx_nil <| wi_block <| ?_
            refine wi_loop (σ := Nat) (rngB 61 92 [2, 7]) (fun (z : Nat) => [(7, .int .i64 ((z : Nat) : Int))]) (fun (z : Nat) (hh : Heap) => h = hh ∧ (z ≤ p.length) ∧ (∀ c, c < z → pb p x y = true → pb p y c = true → pb p x c = true)) (fun (z : Nat) => p.length - z) 0 ⟨rfl, trivial⟩ ⟨rfl, ?_, ?_⟩ ?_
            · try dsimp only
              omega
            · try dsimp only
              intro c hc; omega
            rintro g6 z hh6 ⟨rfl, hz, hC⟩ IH6
            refine wi_seq <| wi_seq <| wi_reg rfl <| lx_move (.int .i64 ((z : Nat) : Int)) rfl rfl <| lx_move (.int .i64 ((hs.length : Nat) : Int)) rfl rfl <| lx_lssS rfl rfl rfl (fun c13 => ?_) (fun c13 => ?_)
            · refine lx_nil <| wi_true rfl <| wi_skip <| wi_seq <| wi_block <| wi_seq <| wi_reg rfl <| lx_move (vp) rfl rfl <| lx_move (.int .i64 ((x : Nat) : Int)) rfl rfl <| lx_ix (i := x) rfl eT23 hr_vp rfl rfl (by omega) <| lx_ld (i := x) (j := 0) ((gt hs x).v) rfl rfl fl70 hr_vp (by omega) rfl rfl <| lx_move (.int .i64 ((y : Nat) : Int)) rfl rfl <| lx_ix (i := y) rfl eT70 (ht_vp.2 x (by omega)) rfl rfl (by rw [hsQ.2 x (by omega)]; omega) <| lx_ld (i := y) (j := 0) (.bool (gt (gt p x) y)) rfl rfl fl4 (ht_vp.2 x (by omega)) (by rw [hsQ.2 x (by omega)]; omega) rfl rfl <| lx_move (.bool (gt (gt p x) y)) rfl rfl <| ?_
              cases c14 : (gt (gt p x) y)
              · refine lx_skip rfl <| lx_skip rfl <| lx_skip rfl <| lx_skip rfl <| lx_skip rfl <| lx_skip rfl <| lx_skip rfl <| lx_pick false (.bool false) rfl rfl rfl <| lx_move (.bool false) rfl rfl <| lx_skip rfl <| lx_skip rfl <| lx_skip rfl <| lx_skip rfl <| lx_skip rfl <| lx_skip rfl <| lx_skip rfl <| lx_skip rfl <| lx_pick false (.bool false) rfl rfl rfl <| lx_nil <| wi_false rfl <| wi_skip <| wi_inBlock <| wi_reg rfl <| lx_move (.int .i64 ((z : Nat) : Int)) rfl rfl <| lx_add (((z + 1 : Nat) : Int)) rfl rfl rfl (by omega) (by omega) (by omega) <| lx_assign (.int .i64 ((z + 1 : Nat) : Int)) rfl rfl <| lx_nil <| ?_
                -- L6.1
                refine IH6 _ _ (z + 1) (agree_ups rfl agree_self) ⟨rfl, trivial⟩ ⟨rfl, ?_, ?_⟩ ?_
                · try dsimp only
                  omega
                · try dsimp only
                  intro c hc h1 h2
                  by_cases e : c = z
                  · subst e; first | assumption | exact nbf (by assumption) | exact absurd h1 (ntb (by first | assumption | exact nbt (by assumption))) | exact absurd h2 (ntb (by first | assumption | exact nbt (by assumption)))
                  · exact hC c (by omega) h1 h2
                · first | omega | (dsimp only; omega)
              · refine lx_move (vp) rfl rfl <| lx_move (.int .i64 ((y : Nat) : Int)) rfl rfl <| lx_ix (i := y) rfl eT23 hr_vp rfl rfl (by omega) <| lx_ld (i := y) (j := 0) ((gt hs y).v) rfl rfl fl70 hr_vp (by omega) rfl rfl <| lx_move (.int .i64 ((z : Nat) : Int)) rfl rfl <| lx_ix (i := z) rfl eT70 (ht_vp.2 y (by omega)) rfl rfl (by rw [hsQ.2 y (by omega)]; omega) <| lx_ld (i := z) (j := 0) (.bool (gt (gt p y) z)) rfl rfl fl4 (ht_vp.2 y (by omega)) (by rw [hsQ.2 y (by omega)]; omega) rfl rfl <| lx_pick true (.bool (gt (gt p y) z)) rfl rfl rfl <| lx_move (.bool (gt (gt p y) z)) rfl rfl <| ?_
                cases c15 : (gt (gt p y) z)
                · refine lx_skip rfl <| lx_skip rfl <| lx_skip rfl <| lx_skip rfl <| lx_skip rfl <| lx_skip rfl <| lx_skip rfl <| lx_skip rfl <| lx_pick false (.bool false) rfl rfl rfl <| lx_nil <| wi_false rfl <| wi_skip <| wi_inBlock <| wi_reg rfl <| lx_move (.int .i64 ((z : Nat) : Int)) rfl rfl <| lx_add (((z + 1 : Nat) : Int)) rfl rfl rfl (by omega) (by omega) (by omega) <| lx_assign (.int .i64 ((z + 1 : Nat) : Int)) rfl rfl <| lx_nil <| ?_
                  -- L6.2
                  refine IH6 _ _ (z + 1) (agree_ups rfl agree_self) ⟨rfl, trivial⟩ ⟨rfl, ?_, ?_⟩ ?_
                  · try dsimp only
                    omega
                  · try dsimp only
                    intro c hc h1 h2
                    by_cases e : c = z
                    · subst e; first | assumption | exact nbf (by assumption) | exact absurd h1 (ntb (by first | assumption | exact nbt (by assumption))) | exact absurd h2 (ntb (by first | assumption | exact nbt (by assumption)))
                    · exact hC c (by omega) h1 h2
                  · first | omega | (dsimp only; omega)
                · refine lx_move (vp) rfl rfl <| lx_move (.int .i64 ((x : Nat) : Int)) rfl rfl <| lx_ix (i := x) rfl eT23 hr_vp rfl rfl (by omega) <| lx_ld (i := x) (j := 0) ((gt hs x).v) rfl rfl fl70 hr_vp (by omega) rfl rfl <| lx_move (.int .i64 ((z : Nat) : Int)) rfl rfl <| lx_ix (i := z) rfl eT70 (ht_vp.2 x (by omega)) rfl rfl (by rw [hsQ.2 x (by omega)]; omega) <| lx_ld (i := z) (j := 0) (.bool (gt (gt p x) z)) rfl rfl fl4 (ht_vp.2 x (by omega)) (by rw [hsQ.2 x (by omega)]; omega) rfl rfl <| lx_not rfl rfl <| lx_pick true (.bool (!(gt (gt p x) z))) rfl rfl rfl <| lx_nil <| wi_condS (t := !(gt (gt p x) z)) rfl (fun c16 => ?_) (fun c16 => ?_)
                  · refine wi_seq <| wi_reg rfl <| lx_assign (.bool false) rfl rfl <| lx_nil <| ?_
                    -- R5
                    refine wi_ret ⟨.bool false, (res_one rfl rfl), ⟨?_, rfl⟩⟩
                    · congr 1
                      first
                      | exact (isT_iff.2 ⟨hsQ, fun a b ha hb => hA a (by omega) b hb⟩).symm
                      | exact (bad_sq (i := w) (by omega) (by omega)).symm
                      | exact (bad_ok (x := x) (y := x) (by omega) (by omega) (bad_refl rfl (by first | assumption | exact nbf (by assumption) | exact nbt (by assumption)))).symm
                      | exact (bad_ok (x := x) (y := y) (by omega) (by omega) (bad_tri (z := z) (by omega) (by first | assumption | exact nbf (by assumption) | exact nbt (by assumption)) (by first | assumption | exact nbf (by assumption) | exact nbt (by assumption)) (by first | assumption | exact nbf (by assumption) | exact nbt (by assumption)))).symm
                      | exact (bad_ok (x := x) (y := y) (by omega) (by omega) (bad_anti (by omega) (by first | assumption | exact nbf (by assumption) | exact nbt (by assumption)) (by first | assumption | exact nbf (by assumption) | exact nbt (by assumption)))).symm
                  · refine wi_skip <| wi_inBlock <| wi_reg rfl <| lx_move (.int .i64 ((z : Nat) : Int)) rfl rfl <| lx_add (((z + 1 : Nat) : Int)) rfl rfl rfl (by omega) (by omega) (by omega) <| lx_assign (.int .i64 ((z + 1 : Nat) : Int)) rfl rfl <| lx_nil <| ?_
                    -- L6.3
                    refine IH6 _ _ (z + 1) (agree_ups rfl agree_self) ⟨rfl, trivial⟩ ⟨rfl, ?_, ?_⟩ ?_
                    · try dsimp only
                      omega
                    · try dsimp only
                      intro c hc h1 h2
                      by_cases e : c = z
                      · subst e; first | assumption | exact nbf (by assumption) | exact absurd h1 (ntb (by first | assumption | exact nbt (by assumption))) | exact absurd h2 (ntb (by first | assumption | exact nbt (by assumption)))
                      · exact hC c (by omega) h1 h2
                    · first | omega | (dsimp only; omega)
            · refine lx_nil <| wi_false rfl <| wi_exit rfl <| wi_inBlock <| wi_reg rfl <| lx_move (.int .i64 ((y : Nat) : Int)) rfl rfl <| lx_add (((y + 1 : Nat) : Int)) rfl rfl rfl (by omega) (by omega) (by omega) <| lx_assign (.int .i64 ((y + 1 : Nat) : Int)) rfl rfl <| lx_nil <| ?_
              -- L4.3
              refine IH3 _ _ (y + 1) (agree_ups rfl (agree_mix (rngB_sub (by decide) (by decide) rfl) (agree_ups rfl agree_self))) ⟨rfl, trivial⟩ ⟨rfl, ?_, ?_⟩ ?_
              · try dsimp only
                omega
              · try dsimp only
                intro b hb
                by_cases e : b = y
                · subst e; exact ⟨fun e => (by first | assumption | exact nbf (by assumption) | (subst e; assumption) | (exfalso; omega)), fun h1 h2 => (by first | (exfalso; omega) | assumption | exact nbt (by assumption) | exact absurd h2 (ntb (by assumption))), fun c hc h1 h2 => hC c (by omega) h1 h2⟩
                · exact hB b (by omega)
              · first | omega | (dsimp only; omega)
        · refine lx_nil <| wi_false rfl <| wi_exit rfl <| wi_inBlock <| wi_reg rfl <| lx_move (.int .i64 ((x : Nat) : Int)) rfl rfl <| lx_add (((x + 1 : Nat) : Int)) rfl rfl rfl (by omega) (by omega) (by omega) <| lx_assign (.int .i64 ((x + 1 : Nat) : Int)) rfl rfl <| lx_nil <| ?_
          -- L2.1
          refine IH2 _ _ (x + 1) (agree_ups rfl (agree_mix (rngB_sub (by decide) (by decide) rfl) (agree_ups rfl agree_self))) ⟨rfl, trivial⟩ ⟨rfl, ?_, ?_⟩ ?_
          · try dsimp only
            omega
          · try dsimp only
            intro a ha b hb
            by_cases e : a = x
            · subst e; exact hB b (by omega)
            · exact hA a (by omega) b hb
          · first | omega | (dsimp only; omega)
    · refine lx_nil <| wi_false rfl <| wi_exit rfl <| wi_seq <| wi_reg rfl <| lx_assign (.bool true) rfl rfl <| lx_nil <| ?_
      -- R6
      refine wi_ret ⟨.bool true, (res_one rfl rfl), ⟨?_, rfl⟩⟩
      · congr 1
        first
        | exact (isT_iff.2 ⟨hsQ, fun a b ha hb => hA a (by omega) b hb⟩).symm
        | exact (bad_sq (i := w) (by omega) (by omega)).symm
        | exact (bad_ok (x := x) (y := x) (by omega) (by omega) (bad_refl rfl (by first | assumption | exact nbf (by assumption) | exact nbt (by assumption)))).symm
        | exact (bad_ok (x := x) (y := y) (by omega) (by omega) (bad_tri (z := z) (by omega) (by first | assumption | exact nbf (by assumption) | exact nbt (by assumption)) (by first | assumption | exact nbf (by assumption) | exact nbt (by assumption)) (by first | assumption | exact nbf (by assumption) | exact nbt (by assumption)))).symm
        | exact (bad_ok (x := x) (y := y) (by omega) (by omega) (bad_anti (by omega) (by first | assumption | exact nbf (by assumption) | exact nbt (by assumption)) (by first | assumption | exact nbf (by assumption) | exact nbt (by assumption)))).symm

end Go.Proofs.Ytdokijbdnajhgaa
namespace Go.Proofs.Ytdokijbdnajhgaa
open Go Go.X

set_option maxRecDepth 10000 in
theorem rclosure_spec (h : Heap) (n : Nat) (vl : Value) (ls : List (Int × Int)) (hr_vl : RdE encP h vl ls) (hp1 : n ≤ 12) (hp2 : ls.length ≤ 4611686018427387904) (hp3 : ∀ j, j < ls.length → inR n (gt ls j) = true) : Fx Try.prog 64 [.int .i64 ((n : Nat) : Int), vl] h (fun v h' => ∃ (s : Value) (hs : List Hdr), v = .tuple #[s, .bool (ordB n (closW n ls))] ∧ OwE encHd h' h.size 70 s hs ∧ OT encB h' h.size 4 hs (tabF n (closW n ls)) ∧ Ext h.size h h') := by
  refine fx_intro (n := 96) [(0, .int .i64 ((n : Nat) : Int)), (1, vl)] Try.func64 rfl rfl (by simp) ⟨rfl, rfl, trivial⟩ fun g0 => ?_
  refine wi_seq <| wi_reg rfl <| lx_assign (.slice none 0 0) rfl rfl <| lx_assign (.bool false) rfl rfl <| lx_nil <| wi_seq <| wi_reg rfl <| lx_assign (.slice none 0 0) rfl rfl <| lx_nil <| wi_seq <| wi_seq <| wi_reg rfl <| lx_assign (.int .i64 0) rfl rfl <| lx_nil <| wi_block <| ?_
  refine wi_loop (σ := Nat × Value × (List Hdr) × (List (List Bool))) (rngB 13 27 [6, 7, 8]) (fun (ss : Nat × Value × (List Hdr) × (List (List Bool))) => [(7, .int .i64 ((ss.1 : Nat) : Int)), (6, ss.2.1)]) (fun (ss : Nat × Value × (List Hdr) × (List (List Bool))) (hh : Heap) => OwE encHd hh h.size 70 ss.2.1 ss.2.2.1 ∧ OT encB hh h.size 4 ss.2.2.1 ss.2.2.2 ∧ Ext h.size h hh ∧ (ss.1 ≤ n) ∧ (ss.2.2.2.length = ss.1) ∧ (∀ i, i < ss.1 → gt ss.2.2.2 i = rowF n fun j => decide (i = j))) (fun (ss : Nat × Value × (List Hdr) × (List (List Bool))) => n - ss.1) (0, .slice none 0 0, [], []) ⟨rfl, rfl, trivial⟩ ⟨?_, ?_, (Ext.refl _ _), ?_, ?_, ?_⟩ ?_
  · first | exact (owE_nil encHd _ h.size 70) | (simpa using (owE_nil encHd _ h.size 70))
  · first | exact (OT.nil encB _ h.size 4) | (simpa using (OT.nil encB _ h.size 4))
  · try dsimp only
    omega
  · try dsimp only
    first | done | rfl
  · try dsimp only
    intro i hi; omega
  rintro g1 ⟨x, v, hs, r⟩ hh1 ⟨ho1, hot1, hx0_1, hx, hrl, hrw⟩ IH1
  dsimp only at *
  have hl_hot1 := hot1.1
  refine wi_seq <| wi_seq <| wi_reg rfl <| lx_move (.int .i64 ((x : Nat) : Int)) rfl rfl <| lx_move (.int .i64 ((n : Nat) : Int)) rfl rfl <| lx_lssS rfl rfl rfl (fun c1 => ?_) (fun c1 => ?_)
  · refine lx_nil <| wi_true rfl <| wi_skip <| wi_seq <| wi_block <| wi_seq <| wi_reg rfl <| lx_move (.int .i64 ((n : Nat) : Int)) rfl rfl <| lx_make (E := encB) (n := n) (B := hh1.size) false rfl rfl Try.underlying70 (eZ70) rfl rfl (by omega) (by omega) (Nat.le_refl _) (fun _ _ => trivial) fun v1 h1 ho2 hx1 hvb1 => ?_
    have hx0_2 := hx0_1.trans2 hx1 hx0_1.size
    have ho3 := ho1.extS hx1
    have hot2 := hot1.extS hx1
    have ho4 := ho2.base hx0_1.size
    refine lx_assign (v1) rfl rfl <| lx_nil <| wi_seq <| wi_reg rfl <| lx_move (v1) rfl rfl <| lx_move (.int .i64 ((x : Nat) : Int)) rfl rfl <| lx_ix (i := x) rfl eT70 ho4.rd rfl rfl (by first | omega | (simp only [List.length_set, List.length_append, List.length_cons, List.length_nil, List.length_replicate, List.length_take, swp_length, exch_length]; omega)) <| lx_st (i := x) true rfl rfl Try.sizeOf4 ho4 (by first | omega | (simp only [List.length_set, List.length_append, List.length_cons, List.length_nil, List.length_replicate, List.length_take, swp_length, exch_length]; omega)) rfl rfl (fun _ _ _ _ _ => trivial) fun h2 ho5 hc1 hsz1 => ?_
    have hx0_3 := hx0_2.trans (ho4.ext hc1 hx0_2.size)
    have ho6 := ho3.chg hc1 (dj_new ho1 ho2)
    have hot3 := hot2.chg hc1 (djt_new hot1 ho2)
    have hot4 : OT encB h2 h.size 4 (hs ++ [hdrOf v1]) (r ++ [(List.replicate n false).set x true]) := OT.snoc hot3 ho5 (djt_new hot1 ho2)
    refine lx_nil <| wi_reg rfl <| lx_move (v) rfl rfl <| lx_move (v1) rfl rfl <| lx_appendL (E := encHd) (B := h.size) [hdrOf v1] [v1] rfl rfl (fun _ => rfl) rfl eT23 rfl rfl (hdr_cells1 ho5.rd) rfl ho6 (fun _ => rfl) (by show hs.length + 1 ≤ _; omega) (by show (hs.length + 1) * 24 ≤ _; omega) hx0_3.size (fun _ _ => trivial) fun u1 v2 h3 ho7 hc2 hg1 => ?_
    have hx0_4 := hx0_3.trans (ho6.ext hc2 hx0_3.size)
    have hot5 : OT encB h3 h.size 4 (hs ++ [hdrOf v1]) (r ++ [(List.replicate n false).set x true]) := hot4.chg hc2 (djt_ty hot4 ho6 (by decide))
    have hl_hot5 := hot5.1
    refine lx_assign (v2) rfl rfl <| lx_nil <| wi_inBlock <| wi_reg rfl <| lx_move (.int .i64 ((x : Nat) : Int)) rfl rfl <| lx_add (((x + 1 : Nat) : Int)) rfl rfl rfl (by omega) (by omega) (by omega) <| lx_assign (.int .i64 ((x + 1 : Nat) : Int)) rfl rfl <| lx_nil <| ?_
    -- L0.1
    refine IH1 _ _ (x + 1, v2, hs ++ [hdrOf v1], r ++ [(List.replicate n false).set x true]) (agree_ups rfl agree_self) ⟨rfl, rfl, trivial⟩ ⟨?_, ?_, hx0_4, ?_, ?_, ?_⟩ ?_
    · first | exact ho7 | (simpa using ho7)
    · first | exact hot5 | (simpa using hot5)
    · try dsimp only
      omega
    · try dsimp only
      simp [hrl]
    · try dsimp only
      intro i hi
      by_cases e : i < x
      · rw [gt_append_left (by omega)]; exact hrw i e
      · rw [show i = r.length from by omega, gt_append_right, show x = r.length from by omega]; exact id_row (by omega)
    · first | omega | (dsimp only; omega)
  · refine lx_nil <| wi_false rfl <| wi_exit rfl <| wi_seq <| wi_seq <| wi_reg rfl <| ?_
    have hrr : r = tabF n (fun x y => decide (x = y)) := tab_rows (by omega) (fun j hj => hrw j (by omega))
    have hq0 : Sq r n := by rw [hrr]; exact tabF_sq _ _
    refine lx_assign (.int .i64 0) rfl rfl <| lx_nil <| wi_block <| ?_
    refine wi_loop (σ := Nat × (List (List Bool))) (rngB 27 47 [9]) (fun (ss : Nat × (List (List Bool))) => [(9, .int .i64 ((ss.1 : Nat) : Int))]) (fun (ss : Nat × (List (List Bool))) (hh : Heap) => OwE encHd hh h.size 70 v hs ∧ OT encB hh h.size 4 hs ss.2 ∧ Ext h.size h hh ∧ (ss.1 ≤ ls.length) ∧ (Sq ss.2 n) ∧ (∀ x y, x < n → y < n → pb ss.2 x y = pairW ls ss.1 x y)) (fun (ss : Nat × (List (List Bool))) => ls.length - ss.1) (0, r) ⟨rfl, trivial⟩ ⟨?_, ?_, hx0_1, ?_, ?_, ?_⟩ ?_
    · first | exact ho1 | (simpa using ho1)
    · first | exact hot1 | (simpa using hot1)
    · try dsimp only
      omega
    · try dsimp only
      exact hq0
    · try dsimp only
      intro x y hx hy; rw [hrr, pb_tabF hx hy, pairW_zero]
    rintro g2 ⟨i, r⟩ hh2 ⟨ho8, hot6, hx0_5, hi, hq, hp⟩ IH2
    dsimp only at *
    have hq1 := hq.1
    have hl_hot6 := hot6.1
    refine wi_seq <| wi_seq <| wi_reg rfl <| lx_move (.int .i64 ((i : Nat) : Int)) rfl rfl <| lx_move (vl) rfl rfl <| lx_len rfl Try.underlying22 hr_vl rfl <| lx_lssS rfl rfl rfl (fun c2 => ?_) (fun c2 => ?_)
    · refine lx_nil <| wi_true rfl <| wi_skip <| wi_seq <| wi_block <| wi_draw mo rfl (by decide +kernel) <| ?_
      obtain ⟨h91, h92, h93, h94⟩ := inR_iff.1 (hp3 i (by omega))
      obtain ⟨a, b, hgc, ha, hb⟩ : ∃ a b : Nat, gt ls i = ((a : Int), (b : Int)) ∧ a < n ∧ b < n := ⟨(gt ls i).1.toNat, (gt ls i).2.toNat, Prod.ext (by show _ = ((_ : Nat) : Int); omega) (by show _ = ((_ : Nat) : Int); omega), by omega, by omega⟩
      refine lx_move (v) rfl rfl <| lx_move (vl) rfl rfl <| lx_move (.int .i64 ((i : Nat) : Int)) rfl rfl <| lx_ix (i := i) rfl eT22 hr_vl rfl rfl (by omega) <| lx_ixP (i := i) (c := 0) rfl Try.underlying85 Try.sizeOf3 hr_vl (by omega) rfl rfl (by decide) <| lx_ld (i := i) (j := 0) (.int .i64 ((a : Nat) : Int)) rfl rfl fl3 (hr_vl.extS hx0_5) (by omega) (by rw [hgc]; rfl) rfl <| lx_ix (i := a) rfl eT23 ho8.rd rfl rfl (by omega) <| lx_ld (i := a) (j := 0) ((gt hs a).v) rfl rfl fl70 ho8.rd (by omega) rfl rfl <| lx_move (vl) rfl rfl <| lx_move (.int .i64 ((i : Nat) : Int)) rfl rfl <| lx_ix (i := i) rfl eT22 hr_vl rfl rfl (by omega) <| lx_ixP (i := i) (c := 1) rfl Try.underlying85 Try.sizeOf3 hr_vl (by omega) rfl rfl (by decide) <| lx_ld (i := i) (j := 1) (.int .i64 ((b : Nat) : Int)) rfl rfl fl3 (hr_vl.extS hx0_5) (by omega) (by rw [hgc]; rfl) rfl <| lx_ix (i := b) rfl eT70 (hot6.2.1 a (by omega)).rd rfl rfl (by rw [hq.2 a (by omega)]; omega) <| lx_st (i := b) true rfl rfl Try.sizeOf4 (hot6.2.1 a (by omega)) (by rw [hq.2 a (by omega)]; omega) rfl rfl (fun _ _ _ _ _ => trivial) fun h4 ho9 hc3 hsz2 => ?_
      have hx0_6 := hx0_5.trans ((hot6.2.1 a (by omega)).ext hc3 hx0_5.size)
      have ho10 := ho8.chg hc3 (Dj.symm ((djt_ty hot6 ho8 (by decide)) a (by rw [hot6.1]; exact (by omega))))
      have hot7 := OT.cell hot6 (by omega) hc3 ho9
      have hl_hot7 := hot7.1
      refine lx_nil <| wi_inBlock <| wi_reg rfl <| lx_move (.int .i64 ((i : Nat) : Int)) rfl rfl <| lx_add (((i + 1 : Nat) : Int)) rfl rfl rfl (by omega) (by omega) (by omega) <| lx_assign (.int .i64 ((i + 1 : Nat) : Int)) rfl rfl <| lx_nil <| ?_
      -- L2.1
      refine IH2 _ _ (i + 1, r.set a ((gt r a).set b true)) (agree_ups rfl agree_self) ⟨rfl, trivial⟩ ⟨?_, ?_, hx0_6, ?_, ?_, ?_⟩ ?_
      · first | exact ho10 | (simpa using ho10)
      · first | exact hot7 | (simpa using hot7)
      · try dsimp only
        omega
      · try dsimp only
        exact sq_set hq (by omega)
      · try dsimp only
        exact pairW_step (by omega) hq ha hb hgc hp
      · first | omega | (dsimp only; omega)
    · refine lx_nil <| wi_false rfl <| wi_exit rfl <| wi_seq <| wi_seq <| wi_reg rfl <| lx_assign (.int .i64 0) rfl rfl <| lx_nil <| wi_block <| ?_
      refine wi_loop (σ := Nat × (List (List Bool))) (rngB 47 93 [10, 11, 12]) (fun (ss : Nat × (List (List Bool))) => [(10, .int .i64 ((ss.1 : Nat) : Int))]) (fun (ss : Nat × (List (List Bool))) (hh : Heap) => OwE encHd hh h.size 70 v hs ∧ OT encB hh h.size 4 hs ss.2 ∧ Ext h.size h hh ∧ (ss.1 ≤ n) ∧ (Sq ss.2 n) ∧ (∀ a c, a < n → c < n → pb ss.2 a c = warN (pairW ls ls.length) ss.1 a c)) (fun (ss : Nat × (List (List Bool))) => n - ss.1) (0, r) ⟨rfl, trivial⟩ ⟨?_, ?_, hx0_5, ?_, ?_, ?_⟩ ?_
      · first | exact ho8 | (simpa using ho8)
      · first | exact hot6 | (simpa using hot6)
      · try dsimp only
        omega
      · try dsimp only
        exact hq
      · try dsimp only
        rw [show ls.length = i from by omega]; exact hp
      rintro g3 ⟨y, r⟩ hh3 ⟨ho11, hot8, hx0_7, hy, hq, hr⟩ IH3
      dsimp only at *
      have hq1 := hq.1
      have hl_hot8 := hot8.1
      refine wi_seq <| wi_seq <| wi_reg rfl <| lx_move (.int .i64 ((y : Nat) : Int)) rfl rfl <| lx_move (.int .i64 ((n : Nat) : Int)) rfl rfl <| lx_lssS rfl rfl rfl (fun c3 => ?_) (fun c3 => ?_)
      · refine lx_nil <| wi_true rfl <| wi_skip <| wi_seq <| wi_block <| wi_seq <| wi_reg rfl <| lx_assign (.int .i64 0) rfl rfl <| lx_nil <| wi_block <| ?_
        refine wi_loop (σ := Nat × (List (List Bool))) (rngB 52 93 [11, 12]) (fun (ss : Nat × (List (List Bool))) => [(11, .int .i64 ((ss.1 : Nat) : Int))]) (fun (ss : Nat × (List (List Bool))) (hh : Heap) => OwE encHd hh h.size 70 v hs ∧ OT encB hh h.size 4 hs ss.2 ∧ Ext h.size h hh ∧ (ss.1 ≤ n) ∧ (Sq ss.2 n) ∧ (∀ a c, a < n → c < n → pb ss.2 a c = warS (warN (pairW ls ls.length) y) y ss.1 0 a c)) (fun (ss : Nat × (List (List Bool))) => n - ss.1) (0, r) ⟨rfl, trivial⟩ ⟨?_, ?_, hx0_7, ?_, ?_, ?_⟩ ?_
        · first | exact ho11 | (simpa using ho11)
        · first | exact hot8 | (simpa using hot8)
        · try dsimp only
          omega
        · try dsimp only
          exact hq
        · try dsimp only
          intro a c ha hc; rw [warS_zero]; exact hr a c ha hc
        rintro g4 ⟨x, r⟩ hh4 ⟨ho12, hot9, hx0_8, hx, hq, hr⟩ IH4
        dsimp only at *
        have hq1 := hq.1
        have hl_hot9 := hot9.1
        refine wi_seq <| wi_seq <| wi_reg rfl <| lx_move (.int .i64 ((x : Nat) : Int)) rfl rfl <| lx_move (.int .i64 ((n : Nat) : Int)) rfl rfl <| lx_lssS rfl rfl rfl (fun c4 => ?_) (fun c4 => ?_)
        · refine lx_nil <| wi_true rfl <| wi_skip <| wi_seq <| wi_block <| wi_seq <| wi_reg rfl <| lx_assign (.int .i64 0) rfl rfl <| lx_nil <| wi_block <| ?_
          refine wi_loop (σ := Nat × (List (List Bool))) (rngB 57 93 [12]) (fun (ss : Nat × (List (List Bool))) => [(12, .int .i64 ((ss.1 : Nat) : Int))]) (fun (ss : Nat × (List (List Bool))) (hh : Heap) => OwE encHd hh h.size 70 v hs ∧ OT encB hh h.size 4 hs ss.2 ∧ Ext h.size h hh ∧ (ss.1 ≤ n) ∧ (Sq ss.2 n) ∧ (∀ a c, a < n → c < n → pb ss.2 a c = warS (warN (pairW ls ls.length) y) y x ss.1 a c)) (fun (ss : Nat × (List (List Bool))) => n - ss.1) (0, r) ⟨rfl, trivial⟩ ⟨?_, ?_, hx0_8, ?_, ?_, ?_⟩ ?_
          · first | exact ho12 | (simpa using ho12)
          · first | exact hot9 | (simpa using hot9)
          · try dsimp only
            omega
          · try dsimp only
            exact hq
          · try dsimp only
            exact hr
          rintro g5 ⟨z, r⟩ hh5 ⟨ho13, hot10, hx0_9, hz, hq, hr⟩ IH5
          dsimp only at *
          have hq1 := hq.1
          have hl_hot10 := hot10.1
          refine wi_seq <| wi_seq <| wi_reg rfl <| lx_move (.int .i64 ((z : Nat) : Int)) rfl rfl <| lx_move (.int .i64 ((n : Nat) : Int)) rfl rfl <| lx_lssS rfl rfl rfl (fun c5 => ?_) (fun c5 => ?_)
          · refine lx_nil <| wi_true rfl <| wi_skip <| wi_seq <| wi_block <| wi_draw mo rfl (by decide +kernel) <| lx_move (v) rfl rfl <| lx_move (.int .i64 ((x : Nat) : Int)) rfl rfl <| lx_ix (i := x) rfl eT23 ho13.rd rfl rfl (by omega) <| lx_ld (i := x) (j := 0) ((gt hs x).v) rfl rfl fl70 ho13.rd (by omega) rfl rfl <| lx_move (.int .i64 ((z : Nat) : Int)) rfl rfl <| lx_move (v) rfl rfl <| lx_move (.int .i64 ((x : Nat) : Int)) rfl rfl <| lx_ix (i := x) rfl eT23 ho13.rd rfl rfl (by omega) <| lx_ld (i := x) (j := 0) ((gt hs x).v) rfl rfl fl70 ho13.rd (by omega) rfl rfl <| lx_move (.int .i64 ((z : Nat) : Int)) rfl rfl <| lx_ix (i := z) rfl eT70 (hot10.2.1 x (by omega)).rd rfl rfl (by rw [hq.2 x (by omega)]; omega) <| lx_ld (i := z) (j := 0) (.bool (gt (gt r x) z)) rfl rfl fl4 (hot10.2.1 x (by omega)).rd (by rw [hq.2 x (by omega)]; omega) rfl rfl <| lx_move (.bool (gt (gt r x) z)) rfl rfl <| ?_
            cases c6 : (gt (gt r x) z)
            · refine lx_move (v) rfl rfl <| lx_move (.int .i64 ((x : Nat) : Int)) rfl rfl <| lx_ix (i := x) rfl eT23 ho13.rd rfl rfl (by omega) <| lx_ld (i := x) (j := 0) ((gt hs x).v) rfl rfl fl70 ho13.rd (by omega) rfl rfl <| lx_move (.int .i64 ((y : Nat) : Int)) rfl rfl <| lx_ix (i := y) rfl eT70 (hot10.2.1 x (by omega)).rd rfl rfl (by rw [hq.2 x (by omega)]; omega) <| lx_ld (i := y) (j := 0) (.bool (gt (gt r x) y)) rfl rfl fl4 (hot10.2.1 x (by omega)).rd (by rw [hq.2 x (by omega)]; omega) rfl rfl <| lx_move (.bool (gt (gt r x) y)) rfl rfl <| ?_
              cases c7 : (gt (gt r x) y)
              · refine lx_skip rfl <| lx_skip rfl <| lx_skip rfl <| lx_skip rfl <| lx_skip rfl <| lx_skip rfl <| lx_skip rfl <| lx_pick false (.bool false) rfl rfl rfl <| lx_pick false (.bool false) rfl rfl rfl <| lx_ix (i := z) rfl eT70 (hot10.2.1 x (by omega)).rd rfl rfl (by rw [hq.2 x (by omega)]; omega) <| lx_st (i := z) false rfl rfl Try.sizeOf4 (hot10.2.1 x (by omega)) (by rw [hq.2 x (by omega)]; omega) rfl rfl (fun _ _ _ _ _ => trivial) fun h5 ho14 hc4 hsz3 => ?_
                have hx0_10 := hx0_9.trans ((hot10.2.1 x (by omega)).ext hc4 hx0_9.size)
                have ho15 := ho13.chg hc4 (Dj.symm ((djt_ty hot10 ho13 (by decide)) x (by rw [hot10.1]; exact (by omega))))
                have hot11 := OT.cell hot10 (by omega) hc4 ho14
                have hl_hot11 := hot11.1
                refine lx_nil <| wi_inBlock <| wi_reg rfl <| lx_move (.int .i64 ((z : Nat) : Int)) rfl rfl <| lx_add (((z + 1 : Nat) : Int)) rfl rfl rfl (by omega) (by omega) (by omega) <| lx_assign (.int .i64 ((z + 1 : Nat) : Int)) rfl rfl <| lx_nil <| ?_
                -- L8.1
                refine IH5 _ _ (z + 1, r.set x ((gt r x).set z false)) (agree_ups rfl agree_self) ⟨rfl, trivial⟩ ⟨?_, ?_, hx0_10, ?_, ?_, ?_⟩ ?_
                · first | exact ho15 | (simpa using ho15)
                · first | exact hot11 | (simpa using hot11)
                · try dsimp only
                  omega
                · try dsimp only
                  exact sq_set hq (by omega)
                · try dsimp only
                  exact warS_step hq (by omega) (by omega) hr (by rw [warS_val (r := r) (by omega) (by omega) (by omega) hr]; first | exact or_t (by with_reducible assumption) | exact or_f (by with_reducible assumption) (by with_reducible assumption) | exact or_v (by with_reducible assumption) (by with_reducible assumption))
                · first | omega | (dsimp only; omega)
              · refine lx_move (v) rfl rfl <| lx_move (.int .i64 ((y : Nat) : Int)) rfl rfl <| lx_ix (i := y) rfl eT23 ho13.rd rfl rfl (by omega) <| lx_ld (i := y) (j := 0) ((gt hs y).v) rfl rfl fl70 ho13.rd (by omega) rfl rfl <| lx_move (.int .i64 ((z : Nat) : Int)) rfl rfl <| lx_ix (i := z) rfl eT70 (hot10.2.1 y (by omega)).rd rfl rfl (by rw [hq.2 y (by omega)]; omega) <| lx_ld (i := z) (j := 0) (.bool (gt (gt r y) z)) rfl rfl fl4 (hot10.2.1 y (by omega)).rd (by rw [hq.2 y (by omega)]; omega) rfl rfl <| lx_pick true (.bool (gt (gt r y) z)) rfl rfl rfl <| lx_pick false (.bool (gt (gt r y) z)) rfl rfl rfl <| lx_ix (i := z) rfl eT70 (hot10.2.1 x (by omega)).rd rfl rfl (by rw [hq.2 x (by omega)]; omega) <| lx_st (i := z) (gt (gt r y) z) rfl rfl Try.sizeOf4 (hot10.2.1 x (by omega)) (by rw [hq.2 x (by omega)]; omega) rfl rfl (fun _ _ _ _ _ => trivial) fun h6 ho16 hc5 hsz4 => ?_
                have hx0_11 := hx0_9.trans ((hot10.2.1 x (by omega)).ext hc5 hx0_9.size)
                have ho17 := ho13.chg hc5 (Dj.symm ((djt_ty hot10 ho13 (by decide)) x (by rw [hot10.1]; exact (by omega))))
                have hot12 := OT.cell hot10 (by omega) hc5 ho16
                have hl_hot12 := hot12.1
                refine lx_nil <| wi_inBlock <| wi_reg rfl <| lx_move (.int .i64 ((z : Nat) : Int)) rfl rfl <| lx_add (((z + 1 : Nat) : Int)) rfl rfl rfl (by omega) (by omega) (by omega) <| lx_assign (.int .i64 ((z + 1 : Nat) : Int)) rfl rfl <| lx_nil <| ?_
                -- L8.2
                refine IH5 _ _ (z + 1, r.set x ((gt r x).set z (gt (gt r y) z))) (agree_ups rfl agree_self) ⟨rfl, trivial⟩ ⟨?_, ?_, hx0_11, ?_, ?_, ?_⟩ ?_
                · first | exact ho17 | (simpa using ho17)
                · first | exact hot12 | (simpa using hot12)
                · try dsimp only
                  omega
                · try dsimp only
                  exact sq_set hq (by omega)
                · try dsimp only
                  exact warS_step hq (by omega) (by omega) hr (by rw [warS_val (r := r) (by omega) (by omega) (by omega) hr]; first | exact or_t (by with_reducible assumption) | exact or_f (by with_reducible assumption) (by with_reducible assumption) | exact or_v (by with_reducible assumption) (by with_reducible assumption))
                · first | omega | (dsimp only; omega)
            · refine lx_skip rfl <| lx_skip rfl <| lx_skip rfl <| lx_skip rfl <| lx_skip rfl <| lx_skip rfl <| lx_skip rfl <| lx_skip rfl <| lx_skip rfl <| lx_skip rfl <| lx_skip rfl <| lx_skip rfl <| lx_skip rfl <| lx_skip rfl <| lx_skip rfl <| lx_skip rfl <| lx_pick true (.bool true) rfl rfl rfl <| lx_ix (i := z) rfl eT70 (hot10.2.1 x (by omega)).rd rfl rfl (by rw [hq.2 x (by omega)]; omega) <| lx_st (i := z) true rfl rfl Try.sizeOf4 (hot10.2.1 x (by omega)) (by rw [hq.2 x (by omega)]; omega) rfl rfl (fun _ _ _ _ _ => trivial) fun h7 ho18 hc6 hsz5 => ?_
              have hx0_12 := hx0_9.trans ((hot10.2.1 x (by omega)).ext hc6 hx0_9.size)
              have ho19 := ho13.chg hc6 (Dj.symm ((djt_ty hot10 ho13 (by decide)) x (by rw [hot10.1]; exact (by omega))))
              have hot13 := OT.cell hot10 (by omega) hc6 ho18
              have hl_hot13 := hot13.1
              refine lx_nil <| wi_inBlock <| wi_reg rfl <| lx_move (.int .i64 ((z : Nat) : Int)) rfl rfl <| lx_add (((z + 1 : Nat) : Int)) rfl rfl rfl (by omega) (by omega) (by omega) <| lx_assign (.int .i64 ((z + 1 : Nat) : Int)) rfl rfl <| lx_nil <| ?_
              -- L8.3
              refine IH5 _ _ (z + 1, r.set x ((gt r x).set z true)) (agree_ups rfl agree_self) ⟨rfl, trivial⟩ ⟨?_, ?_, hx0_12, ?_, ?_, ?_⟩ ?_
              · first | exact ho19 | (simpa using ho19)
              · first | exact hot13 | (simpa using hot13)
              · try dsimp only
                omega
              · try dsimp only
                exact sq_set hq (by omega)
              · try dsimp only
                exact warS_step hq (by omega) (by omega) hr (by rw [warS_val (r := r) (by omega) (by omega) (by omega) hr]; first | exact or_t (by with_reducible assumption) | exact or_f (by with_reducible assumption) (by with_reducible assumption) | exact or_v (by with_reducible assumption) (by with_reducible assumption))
              · first | omega | (dsimp only; omega)
          · refine lx_nil <| wi_false rfl <| wi_exit rfl <| wi_inBlock <| wi_reg rfl <| lx_move (.int .i64 ((x : Nat) : Int)) rfl rfl <| lx_add (((x + 1 : Nat) : Int)) rfl rfl rfl (by omega) (by omega) (by omega) <| lx_assign (.int .i64 ((x + 1 : Nat) : Int)) rfl rfl <| lx_nil <| ?_
            -- L6.1
            refine IH4 _ _ (x + 1, r) (agree_ups rfl (agree_mix (rngB_sub (by decide) (by decide) rfl) (agree_ups rfl agree_self))) ⟨rfl, trivial⟩ ⟨?_, ?_, hx0_9, ?_, ?_, ?_⟩ ?_
            · first | exact ho13 | (simpa using ho13)
            · first | exact hot10 | (simpa using hot10)
            · try dsimp only
              omega
            · try dsimp only
              exact hq
            · try dsimp only
              intro a c ha hc; rw [hr a c ha hc, show z = n from by omega]; exact warS_next _ hc
            · first | omega | (dsimp only; omega)
        · refine lx_nil <| wi_false rfl <| wi_exit rfl <| wi_inBlock <| wi_reg rfl <| lx_move (.int .i64 ((y : Nat) : Int)) rfl rfl <| lx_add (((y + 1 : Nat) : Int)) rfl rfl rfl (by omega) (by omega) (by omega) <| lx_assign (.int .i64 ((y + 1 : Nat) : Int)) rfl rfl <| lx_nil <| ?_
          -- L4.1
          refine IH3 _ _ (y + 1, r) (agree_ups rfl (agree_mix (rngB_sub (by decide) (by decide) rfl) (agree_ups rfl agree_self))) ⟨rfl, trivial⟩ ⟨?_, ?_, hx0_8, ?_, ?_, ?_⟩ ?_
          · first | exact ho12 | (simpa using ho12)
          · first | exact hot9 | (simpa using hot9)
          · try dsimp only
            omega
          · try dsimp only
            exact hq
          · try dsimp only
            intro a c ha hc; rw [hr a c ha hc, show x = n from by omega]; exact warS_end _ ha
          · first | omega | (dsimp only; omega)
      · refine lx_nil <| wi_false rfl <| wi_exit rfl <| wi_seq <| wi_reg rfl <| ?_
        have hrt : r = tabF n (closW n ls) := tab_ext hq (fun a c ha hc => by rw [hr a c ha hc, show y = n from by omega]; rfl)
        refine lx_move (v) rfl rfl <| lx_move (v) rfl rfl <| lx_call [v] rfl rfl Try.call112 rfl (risorder_spec hh3 v hs r ho11.rd hot8.rt (by omega) (fun i hi => by rw [hq.2 i (by rw [← hq.1]; exact hi)]; omega)) (fun _ _ _ => trivial) ?_
        rintro _ h8 ⟨rfl, rfl⟩
        have hit : isT r = ordB n (closW n ls) := isT_tab hrt
        rw [hit]
        refine lx_assign (v) rfl rfl <| lx_assign (.bool (ordB n (closW n ls))) rfl rfl <| lx_nil <| ?_
        -- R1
        refine wi_ret ⟨.tuple #[v, .bool (ordB n (closW n ls))], (res_two rfl rfl rfl), ⟨v, hs, rfl, ?_, ?_, hx0_7⟩⟩
        · exact ho11
        · rw [← hrt]; exact hot8

end Go.Proofs.Ytdokijbdnajhgaa
namespace Go.X
def isLo (n : Nat) (f : Nat → Nat → Bool) (m : Nat) : Prop := m < n ∧ ∀ q, q < n → f m q = true
theorem lo_ex {n : Nat} {f : Nat → Nat → Bool} (ho : IsO n f) (hg : noGap n f) (hn : 1 ≤ n) : ∃ m, isLo n f m := by
  have : ∀ k, k ≤ n → ∃ m, m < n ∧ ∀ q, q < k → f m q = true := by
    intro k
    induction k with
    | zero => intro _; exact ⟨0, by omega, fun q hq => by omega⟩
    | succ k ih =>
      intro hk
      obtain ⟨m, h1, h2⟩ := ih (by omega)
      obtain ⟨_, h3, h4, h5, _⟩ := mN_at ho hg h1 (show k < n by omega)
      refine ⟨mN n f m k, h3, fun q hq => ?_⟩
      by_cases e : q = k
      · subst e; exact h5
      · exact ho.trans h3 h1 (by omega) h4 (h2 q (by omega))
  obtain ⟨m, h1, h2⟩ := this n (Nat.le_refl n)
  exact ⟨m, h1, h2⟩
theorem flip_gap {n : Nat} {f : Nat → Nat → Bool} (hg : noGap n f) : noGap n (flipF f) := fun i j h1 h2 => by
  have := hg i j h1 h2
  unfold gapB at *
  rw [Bool.or_eq_false_iff] at *
  exact ⟨this.2, this.1⟩
end Go.X
namespace Go.X
/-- The least bound of what passes. -/
def isSup (n : Nat) (f : Nat → Nat → Bool) (P : Nat → Prop) (s : Nat) : Prop := s < n ∧ (∀ x, x < n → P x → f x s = true) ∧ ∀ u, u < n → (∀ x, x < n → P x → f x u = true) → f s u = true
theorem sup_ex {n : Nat} {f : Nat → Nat → Bool} (ho : IsO n f) (hg : noGap n f) (hn : 1 ≤ n) (P : Nat → Prop) : ∃ s, isSup n f P s := by
  have : ∀ k, k ≤ n → ∃ s, s < n ∧ (∀ x, x < k → P x → f x s = true) ∧ ∀ u, u < n → (∀ x, x < k → P x → f x u = true) → f s u = true := by
    intro k
    induction k with
    | zero =>
      intro _
      obtain ⟨lo, h1, h2⟩ := lo_ex ho hg hn
      exact ⟨lo, h1, fun x hx => by omega, fun u hu _ => h2 u hu⟩
    | succ k ih =>
      intro hk
      obtain ⟨s, h1, h2, h3⟩ := ih (by omega)
      by_cases hP : P k
      · obtain ⟨_, j1, j2, j3, j4⟩ := jN_at ho hg h1 (show k < n by omega)
        refine ⟨jN n f s k, j1, fun x hx hPx => ?_, fun u hu h => j4 u hu (h3 u hu fun x hx => h x (by omega)) (h k (by omega) hP)⟩
        by_cases e : x = k
        · subst e; exact j3
        · exact ho.trans (by omega) h1 j1 (h2 x (by omega) hPx) j2
      · refine ⟨s, h1, fun x hx hPx => ?_, fun u hu h => h3 u hu fun x hx => h x (by omega)⟩
        by_cases e : x = k
        · subst e; exact absurd hPx hP
        · exact h2 x (by omega) hPx
  obtain ⟨s, h1, h2, h3⟩ := this n (Nat.le_refl n)
  exact ⟨s, h1, h2, h3⟩
/-- An order in which any two have a least bound above and a greatest one below has no gap. -/
theorem ng_of {m : Nat} {h : Nat → Nat → Bool} (ho : IsO m h) (hj : ∀ i j, i < m → j < m → ∃ z, z < m ∧ h i z = true ∧ h j z = true ∧ ∀ w, w < m → h i w = true → h j w = true → h z w = true)
    (hm : ∀ i j, i < m → j < m → ∃ z, z < m ∧ h z i = true ∧ h z j = true ∧ ∀ w, w < m → h w i = true → h w j = true → h w z = true) : noGap m h := fun i j hij hjm => by
  obtain ⟨z, z1, z2, z3, z4⟩ := hj i j (by omega) hjm
  obtain ⟨y, y1, y2, y3, y4⟩ := hm i j (by omega) hjm
  unfold gapB
  rw [join_is ho z1 z2 z3 z4, show meetF m h i j = (y : Int) from join_is (flip_o ho) y1 y2 y3 y4, decide_eq_false (by omega), decide_eq_false (by omega)]; rfl
/-! ### The completion -/
section
variable {n : Nat} {f : Nat → Nat → Bool}
theorem cut_ext {s : Nat} (hs : s < 2 ^ n) {q : Nat} (hq : s.testBit q = true) : (cutF n f s).testBit q = true := by
  unfold cutF
  rw [lowS_bit]
  exact ⟨bit_lt hs hq, fun r hr hb => (uppS_bit.1 hb).2 q (bit_lt hs hq) hq⟩
theorem cut_mono {s t : Nat} (h : ∀ q, s.testBit q = true → t.testBit q = true) {q : Nat} (hq : (cutF n f s).testBit q = true) : (cutF n f t).testBit q = true := by
  unfold cutF at *
  rw [lowS_bit] at *
  refine ⟨hq.1, fun r hr hb => hq.2 r hr ?_⟩
  rw [uppS_bit] at *
  exact ⟨hb.1, fun z hz hbz => hb.2 z hz (h z hbz)⟩
theorem cut_fix {s : Nat} (h : cutB n f s = true) : cutF n f s = s := by unfold cutB at h; exact beq_iff_eq.1 h
theorem cut_and' {a b : Nat} (ha2 : a < 2 ^ n) (ha : cutB n f a = true) (hb : cutB n f b = true) : cutB n f (a &&& b) = true := by
  unfold cutB
  rw [beq_iff_eq]
  apply Nat.eq_of_testBit_eq
  intro q
  rw [Bool.eq_iff_iff]
  have hlt : a &&& b < 2 ^ n := Nat.lt_of_le_of_lt Nat.and_le_left ha2
  constructor
  · intro h
    rw [Nat.testBit_and, Bool.and_eq_true]
    refine ⟨?_, ?_⟩
    · rw [← cut_fix ha]; exact cut_mono (fun r hr => by rw [Nat.testBit_and, Bool.and_eq_true] at hr; exact hr.1) h
    · rw [← cut_fix hb]; exact cut_mono (fun r hr => by rw [Nat.testBit_and, Bool.and_eq_true] at hr; exact hr.2) h
  · exact cut_ext hlt
/-- The elements of the completion, by their places. -/
theorem cuts_get {i : Nat} (hi : i < (cutsF n f).length) : ∃ a : Nat, gt (cutsF n f) i = (a : Int) ∧ a < 2 ^ n ∧ cutB n f a = true := filtF_gt hi
theorem cuts_idx {a : Nat} (h1 : a < 2 ^ n) (h2 : cutB n f a = true) : ∃ i, i < (cutsF n f).length ∧ gt (cutsF n f) i = (a : Int) := by
  obtain ⟨h3, h4⟩ := filtF_at h1 h2
  exact ⟨_, h3, h4⟩
theorem incF_at {xs : List Int} {i j a b : Nat} (ha : gt xs i = (a : Int)) (hb : gt xs j = (b : Int)) : incF xs i j = incl a b := by unfold incF; rw [ha, hb]; rfl
theorem incl_anti {a b : Nat} (h : incl a b = true) (k : incl b a = true) : a = b := Nat.eq_of_testBit_eq fun q => by
  rw [Bool.eq_iff_iff]; exact ⟨incl_iff.1 h q, incl_iff.1 k q⟩
theorem compl_o : IsO (cutsF n f).length (incF (cutsF n f)) :=
  isO_mk (fun x hx => by
      obtain ⟨a, ha, _⟩ := cuts_get hx
      rw [incF_at ha ha, incl_iff]; exact fun _ h => h)
    (fun x y hx hy h k => by
      obtain ⟨a, ha, _⟩ := cuts_get hx
      obtain ⟨b, hb, _⟩ := cuts_get hy
      rw [incF_at ha hb] at h
      rw [incF_at hb ha] at k
      have := incl_anti h k
      subst this
      rcases Nat.lt_trichotomy x y with c | c | c
      · have := gt_asc (filtF_asc (2 ^ n) (cutB n f)) c hy; unfold cutsF at ha hb; omega
      · exact c
      · have := gt_asc (filtF_asc (2 ^ n) (cutB n f)) c hx; unfold cutsF at ha hb; omega)
    (fun x y z hx hy hz h k => by
      obtain ⟨a, ha, _⟩ := cuts_get hx
      obtain ⟨b, hb, _⟩ := cuts_get hy
      obtain ⟨c, hc, _⟩ := cuts_get hz
      rw [incF_at ha hb, incl_iff] at h
      rw [incF_at hb hc, incl_iff] at k
      rw [incF_at ha hc, incl_iff]
      exact fun q hq => k q (h q hq))
theorem compl_lat : noGap (cutsF n f).length (incF (cutsF n f)) := by
  refine ng_of compl_o (fun i j hi hj => ?_) (fun i j hi hj => ?_)
  · obtain ⟨a, ha, ha1, ha2⟩ := cuts_get hi
    obtain ⟨b, hb, hb1, hb2⟩ := cuts_get hj
    have hab : a ||| b < 2 ^ n := Nat.or_lt_two_pow ha1 hb1
    obtain ⟨z, hz, hz2⟩ := cuts_idx (cutF_lt n f (a ||| b)) (cut_cut n f (a ||| b))
    refine ⟨z, hz, ?_, ?_, fun w hw h1 h2 => ?_⟩
    · rw [incF_at ha hz2, incl_iff]; exact fun q hq => cut_ext hab (by rw [Nat.testBit_or, hq]; rfl)
    · rw [incF_at hb hz2, incl_iff]; exact fun q hq => cut_ext hab (by rw [Nat.testBit_or, hq, Bool.or_true])
    · obtain ⟨c, hc, _, hc2⟩ := cuts_get hw
      rw [incF_at ha hc, incl_iff] at h1
      rw [incF_at hb hc, incl_iff] at h2
      rw [incF_at hz2 hc, incl_iff]
      intro q hq
      rw [← cut_fix hc2]
      exact cut_mono (fun r hr => by
        rw [Nat.testBit_or, Bool.or_eq_true] at hr
        exact hr.elim (h1 r) (h2 r)) hq
  · obtain ⟨a, ha, ha1, ha2⟩ := cuts_get hi
    obtain ⟨b, hb, hb1, hb2⟩ := cuts_get hj
    obtain ⟨z, hz, hz2⟩ := cuts_idx (Nat.lt_of_le_of_lt Nat.and_le_left ha1) (cut_and' ha1 ha2 hb2)
    refine ⟨z, hz, ?_, ?_, fun w hw h1 h2 => ?_⟩
    · rw [incF_at hz2 ha, incl_iff]; intro q hq; rw [Nat.testBit_and, Bool.and_eq_true] at hq; exact hq.1
    · rw [incF_at hz2 hb, incl_iff]; intro q hq; rw [Nat.testBit_and, Bool.and_eq_true] at hq; exact hq.2
    · obtain ⟨c, hc, _⟩ := cuts_get hw
      rw [incF_at hc ha, incl_iff] at h1
      rw [incF_at hc hb, incl_iff] at h2
      rw [incF_at hc hz2, incl_iff]
      intro q hq
      rw [Nat.testBit_and, h1 q hq, h2 q hq]; rfl
theorem dn_incl (ho : IsO n f) {x y : Nat} (hx : x < n) (hy : y < n) : incl (dnF n f x) (dnF n f y) = f x y := by
  rw [Bool.eq_iff_iff, incl_iff]
  constructor
  · intro h
    have := h x (by rw [dnF_bit, decide_eq_true hx, ho.refl hx]; rfl)
    rw [dnF_bit, Bool.and_eq_true] at this; exact this.2
  · intro h q hq
    rw [dnF_bit, Bool.and_eq_true, decide_eq_true_iff] at *
    exact ⟨hq.1, ho.trans hq.1 hx hy hq.2 h⟩
theorem dn_inj (ho : IsO n f) {x y : Nat} (hx : x < n) (hy : y < n) (h : dnF n f x = dnF n f y) : x = y := by
  refine ho.anti hx hy ?_ ?_
  · rw [← dn_incl ho hx hy, h, incl_iff]; exact fun _ k => k
  · rw [← dn_incl ho hy hx, h, incl_iff]; exact fun _ k => k
/-- In a lattice each cut is what is below one element. -/
theorem cut_prin (ho : IsO n f) (hg : noGap n f) (hn : 1 ≤ n) {s : Nat} (hs : s < 2 ^ n) (hc : cutB n f s = true) : ∃ x, x < n ∧ s = dnF n f x := by
  obtain ⟨j, h1, h2, h3⟩ := sup_ex ho hg hn fun x => s.testBit x = true
  refine ⟨j, h1, Nat.eq_of_testBit_eq fun q => ?_⟩
  rw [Bool.eq_iff_iff, dnF_bit, Bool.and_eq_true, decide_eq_true_iff]
  constructor
  · intro h; have hq := bit_lt hs h; exact ⟨hq, h2 q hq h⟩
  · rintro ⟨hq, h⟩
    rw [← cut_fix hc]
    unfold cutF
    rw [lowS_bit]
    refine ⟨hq, fun r hr hb => ?_⟩
    have := (uppS_bit.1 hb).2
    exact ho.trans hq h1 hr h (h3 r hr fun x hx hbx => this x hx hbx)
theorem cuts_len (ho : IsO n f) (hg : noGap n f) (hn : 1 ≤ n) : (cutsF n f).length = n := by
  have hL : ((List.range n).map fun x => ((dnF n f x : Nat) : Int)).Nodup := nodup_map List.nodup_range fun x y hx hy e => dn_inj ho (List.mem_range.1 hx) (List.mem_range.1 hy) (by omega)
  have hC : (cutsF n f).Nodup := (filtF_asc _ _).imp fun h => by omega
  have h1 := nodup_le hL (l' := cutsF n f) fun x hx => by
    obtain ⟨q, hq, rfl⟩ := List.mem_map.1 hx
    exact filtF_mem.2 ⟨_, dnF_lt n f q, cut_down ho (List.mem_range.1 hq), rfl⟩
  have h2 := nodup_le hC (l' := (List.range n).map fun x => ((dnF n f x : Nat) : Int)) fun x hx => by
    obtain ⟨q, hq, hc, rfl⟩ := filtF_mem.1 hx
    obtain ⟨z, hz, e⟩ := cut_prin ho hg hn hq hc
    exact List.mem_map.2 ⟨z, List.mem_range.2 hz, by rw [e]⟩
  rw [List.length_map, List.length_range] at h1 h2
  omega
end
/-! ### Fixed elements -/
section
variable {n : Nat} {f : Nat → Nat → Bool} {g : Nat → Nat} (ho : IsO n f) (hg : noGap n f) (hn : 1 ≤ n) (hr : ∀ x, x < n → g x < n) (hm : ∀ x y, x < n → y < n → f x y = true → f (g x) (g y) = true)
include ho hg hn hr hm
theorem fix_above {a : Nat} (ha : a < n) (haa : f a (g a) = true) : ∃ t, t < n ∧ g t = t ∧ f a t = true ∧ ∀ c, c < n → g c = c → f a c = true → f t c = true := by
  -- the greatest lower bound of what is above 'a' and falls
  obtain ⟨t, h1, h2, h3⟩ := sup_ex (flip_o ho) (flip_gap hg) hn fun x => f a x = true ∧ f (g x) x = true
  have hat : f a t = true := h3 a ha fun x hx h => h.1
  have hgt : f (g t) t = true := h3 (g t) (hr t h1) fun x hx h => ho.trans (hr t h1) (hr x hx) hx (hm t x h1 hx (h2 x hx h)) h.2
  have hag : f a (g t) = true := ho.trans ha (hr a ha) (hr t h1) haa (hm a t ha h1 hat)
  have htg : f t (g t) = true := h2 (g t) (hr t h1) ⟨hag, hm (g t) t (hr t h1) h1 hgt⟩
  exact ⟨t, h1, ho.anti (hr t h1) h1 hgt htg, hat, fun c hc e hac => h2 c hc ⟨hac, by rw [e]; exact ho.refl hc⟩⟩
theorem fix_ex : ∃ t, t < n ∧ g t = t := by
  obtain ⟨lo, h1, h2⟩ := lo_ex ho hg hn
  obtain ⟨t, h3, h4, _⟩ := fix_above ho hg hn hr hm h1 (h2 _ (hr lo h1))
  exact ⟨t, h3, h4⟩
theorem fix_join {a b : Nat} (ha : a < n) (hb : b < n) (hfa : g a = a) (hfb : g b = b) : ∃ t, t < n ∧ g t = t ∧ f a t = true ∧ f b t = true ∧ ∀ c, c < n → g c = c → f a c = true → f b c = true → f t c = true := by
  obtain ⟨_, j1, j2, j3, j4⟩ := jN_at ho hg ha hb
  have h0 : f (jN n f a b) (g (jN n f a b)) = true := j4 _ (hr _ j1) (by have := hm a _ ha j1 j2; rwa [hfa] at this) (by have := hm b _ hb j1 j3; rwa [hfb] at this)
  obtain ⟨t, h1, h2, h3, h4⟩ := fix_above ho hg hn hr hm j1 h0
  exact ⟨t, h1, h2, ho.trans ha j1 h1 j2 h3, ho.trans hb j1 h1 j3 h3, fun c hc e hac hbc => h4 c hc e (j4 c hc hac hbc)⟩
end
/-- The order of some elements of an order. -/
def subF (f : Nat → Nat → Bool) (zs : List Int) (i j : Nat) : Bool := f (gt zs i).toNat (gt zs j).toNat
theorem fix_lat {n : Nat} {f : Nat → Nat → Bool} {xs : List Int} (ho : IsO n f) (hg : noGap n f) (hn : 1 ≤ n) (hl : xs.length = n) (hr : ∀ i, i < n → 0 ≤ gt xs i ∧ gt xs i < n) (hm : ∀ x y, x < n → y < n → f x y = true → f (gt xs x).toNat (gt xs y).toNat = true)
    {zs : List Int} (hz : zs = filtF n fun x => decide (gt xs x = (x : Int))) : zs ≠ [] ∧ IsO zs.length (subF f zs) ∧ noGap zs.length (subF f zs) := by
  have hr' : ∀ x, x < n → (gt xs x).toNat < n := fun x hx => by have := hr x hx; omega
  have hget : ∀ i, i < zs.length → ∃ a : Nat, gt zs i = (a : Int) ∧ a < n ∧ (gt xs a).toNat = a := fun i hi => by
    rw [hz] at hi ⊢
    obtain ⟨a, h1, h2, h3⟩ := filtF_gt hi
    have := of_decide_eq_true h3
    exact ⟨a, h1, h2, by omega⟩
  have hidx : ∀ a, a < n → (gt xs a).toNat = a → ∃ i, i < zs.length ∧ gt zs i = (a : Int) := fun a ha e => by
    have h0 := hr a ha
    obtain ⟨h3, h4⟩ := filtF_at (f := fun x => decide (gt xs x = (x : Int))) ha (decide_eq_true (by omega))
    exact ⟨_, by rw [hz]; exact h3, by rw [hz]; exact h4⟩
  have hsub : ∀ {i j a b : Nat}, gt zs i = (a : Int) → gt zs j = (b : Int) → subF f zs i j = f a b := fun h1 h2 => by unfold subF; rw [h1, h2]; rfl
  have hO : IsO zs.length (subF f zs) := isO_mk
    (fun x hx => by obtain ⟨a, h1, h2, _⟩ := hget x hx; rw [hsub h1 h1]; exact ho.refl h2)
    (fun x y hx hy h k => by
      obtain ⟨a, h1, h2, _⟩ := hget x hx
      obtain ⟨b, h3, h4, _⟩ := hget y hy
      rw [hsub h1 h3] at h
      rw [hsub h3 h1] at k
      have := ho.anti h2 h4 h k
      subst this
      rw [hz] at h1 h3 hx hy
      rcases Nat.lt_trichotomy x y with c | c | c
      · have := gt_asc (filtF_asc _ _) c hy; omega
      · exact c
      · have := gt_asc (filtF_asc _ _) c hx; omega)
    (fun x y z hx hy hzz h k => by
      obtain ⟨a, h1, h2, _⟩ := hget x hx
      obtain ⟨b, h3, h4, _⟩ := hget y hy
      obtain ⟨c, h5, h6, _⟩ := hget z hzz
      rw [hsub h1 h3] at h
      rw [hsub h3 h5] at k
      rw [hsub h1 h5]; exact ho.trans h2 h4 h6 h k)
  refine ⟨?_, hO, ng_of hO (fun i j hi hj => ?_) (fun i j hi hj => ?_)⟩
  · obtain ⟨t, h1, h2⟩ := fix_ex (g := fun x => (gt xs x).toNat) ho hg hn hr' hm
    obtain ⟨i, h3, _⟩ := hidx t h1 h2
    intro e; rw [e] at h3; exact absurd h3 (Nat.not_lt_zero _)
  · obtain ⟨a, h1, h2, h3⟩ := hget i hi
    obtain ⟨b, h4, h5, h6⟩ := hget j hj
    obtain ⟨t, t1, t2, t3, t4, t5⟩ := fix_join (g := fun x => (gt xs x).toNat) ho hg hn hr' hm h2 h5 h3 h6
    obtain ⟨z, z1, z2⟩ := hidx t t1 t2
    refine ⟨z, z1, by rw [hsub h1 z2]; exact t3, by rw [hsub h4 z2]; exact t4, fun w hw k1 k2 => ?_⟩
    obtain ⟨c, c1, c2, c3⟩ := hget w hw
    rw [hsub h1 c1] at k1
    rw [hsub h4 c1] at k2
    rw [hsub z2 c1]; exact t5 c c2 c3 k1 k2
  · obtain ⟨a, h1, h2, h3⟩ := hget i hi
    obtain ⟨b, h4, h5, h6⟩ := hget j hj
    obtain ⟨t, t1, t2, t3, t4, t5⟩ := fix_join (f := flipF f) (g := fun x => (gt xs x).toNat) (flip_o ho) (flip_gap hg) hn hr' (fun x y hx hy h => hm y x hy hx h) h2 h5 h3 h6
    obtain ⟨z, z1, z2⟩ := hidx t t1 t2
    refine ⟨z, z1, by rw [hsub z2 h1]; exact t3, by rw [hsub z2 h4]; exact t4, fun w hw k1 k2 => ?_⟩
    obtain ⟨c, c1, c2, c3⟩ := hget w hw
    rw [hsub c1 h1] at k1
    rw [hsub c1 h4] at k2
    rw [hsub c1 z2]; exact t5 c c2 c3 k1 k2
end Go.X
namespace Go.Proofs.Ytdokijbdnajhgaa
open Go.Shelf
def Try.lays189_ren : Go.Shelf.Ren := ⟨fun | 189 => 82 | 125 => 127 | 257 => 126 | 128 => 166 | 129 => 167 | 294 => 158 | 295 => 159 | 296 => 160 | 297 => 161 | 298 => 162 | 299 => 163 | 216 => 128 | 300 => 164 | 301 => 165 | 328 => 177 | 329 => 178 | 330 => 179 | 331 => 180 | 332 => 181 | 215 => 168 | 343 => 185 | n => n, fun | 28 => 25 | 3 => 3 | 46 => 45 | 0 => 0 | 51 => 163 | 53 => 149 | 4 => 4 | 183 => 184 | 182 => 183 | 131 => 113 | 5 => 5 | 9 => 9 | 218 => 194 | 222 => 198 | 228 => 203 | 229 => 77 | n => n, fun | n => n⟩
theorem Try.lays189 : Go.Proofs.Lays.n189 Try.prog Try.lays189_ren := {
  mixed := by kernel_rfl
  f125 := Try.func127.trans (congrArg some (by kernel_rfl))
  f128 := Try.func166.trans (congrArg some (by kernel_rfl))
  f129 := Try.func167.trans (congrArg some (by kernel_rfl))
  f189 := Try.func82.trans (congrArg some (by kernel_rfl))
  f215 := Try.func168.trans (congrArg some (by kernel_rfl))
  f216 := Try.func128.trans (congrArg some (by kernel_rfl))
  f257 := Try.func126.trans (congrArg some (by kernel_rfl))
  f294 := Try.func158.trans (congrArg some (by kernel_rfl))
  f295 := Try.func159.trans (congrArg some (by kernel_rfl))
  f296 := Try.func160.trans (congrArg some (by kernel_rfl))
  f297 := Try.func161.trans (congrArg some (by kernel_rfl))
  f298 := Try.func162.trans (congrArg some (by kernel_rfl))
  f299 := Try.func163.trans (congrArg some (by kernel_rfl))
  f300 := Try.func164.trans (congrArg some (by kernel_rfl))
  f301 := Try.func165.trans (congrArg some (by kernel_rfl))
  f328 := Try.func177.trans (congrArg some (by kernel_rfl))
  f329 := Try.func178.trans (congrArg some (by kernel_rfl))
  f330 := Try.func179.trans (congrArg some (by kernel_rfl))
  f331 := Try.func180.trans (congrArg some (by kernel_rfl))
  f332 := Try.func181.trans (congrArg some (by kernel_rfl))
  f343 := Try.func185.trans (congrArg some (by kernel_rfl))
  t0 := Try.underlying0
  a0 := Try.isAgg0
  z0 := Try.sizeOf0
  v0 := Try.zeroValue0
  t3 := Try.underlying3
  a3 := Try.isAgg3
  z3 := Try.sizeOf3
  v3 := Try.zeroValue3
  t4 := Try.underlying4
  a4 := Try.isAgg4
  z4 := Try.sizeOf4
  v4 := Try.zeroValue4
  t5 := Try.underlying5
  a5 := Try.isAgg5
  z5 := Try.sizeOf5
  v5 := Try.zeroValue5
  t9 := Try.underlying9
  a9 := Try.isAgg9
  z9 := Try.sizeOf9
  v9 := Try.zeroValue9
  t28 := Try.underlying25
  a28 := Try.isAgg25
  z28 := Try.sizeOf25
  v28 := Try.zeroValue25
  t46 := Try.underlying45
  a46 := Try.isAgg45
  z46 := Try.sizeOf45
  v46 := Try.zeroValue45
  t51 := Try.underlying163
  a51 := Try.isAgg163
  z51 := Try.sizeOf163
  v51 := Try.zeroValue163
  t53 := Try.underlying149
  a53 := Try.isAgg149
  z53 := Try.sizeOf149
  v53 := Try.zeroValue149
  t131 := Try.underlying113
  a131 := Try.isAgg113
  z131 := Try.sizeOf113
  v131 := Try.zeroValue113
  t182 := Try.underlying183
  a182 := Try.isAgg183
  z182 := Try.sizeOf183
  v182 := Try.zeroValue183
  t183 := Try.underlying184
  a183 := Try.isAgg184
  z183 := Try.sizeOf184
  v183 := Try.zeroValue184
  t218 := Try.underlying194
  a218 := Try.isAgg194
  z218 := Try.sizeOf194
  v218 := Try.zeroValue194
  t222 := Try.underlying198
  a222 := Try.isAgg198
  z222 := Try.sizeOf198
  v222 := Try.zeroValue198
  t228 := Try.underlying203
  a228 := Try.isAgg203
  z228 := Try.sizeOf203
  v228 := Try.zeroValue203
  t229 := Try.underlying77
  a229 := Try.isAgg77
  z229 := Try.sizeOf77
  v229 := Try.zeroValue77 }
open Go.Sort Go.RowKit in
theorem Try.slices_Sort_int (blk off cap : Nat) (zs : List Int) (w : World) (hH : Holds (Value.int .i64) w blk off zs.toArray) (hblk : blk < w.heap.size) (hsz : zs.length < 4611686018427387904) :
    Calls Try.prog 82 #[.slice (some ⟨blk, off, none⟩) zs.length cap] w fun e w' =>
      e = .returned (.tuple #[]) ∧ ∃ n os, w' = grow (putRow (Value.int .i64) (Sort.ahead w n) blk off (zs.mergeSort fun x y => decide (x ≤ y)).toArray) os := Any.slices_Sort_int Try.lays189 blk off cap zs w hH hblk hsz
def Try.laysNm220_ren : Go.Shelf.Ren := ⟨fun | 20 => 123 | n => n, fun | 22 => 25 | 3 => 3 | 4 => 4 | 0 => 0 | n => n, fun | n => n⟩
theorem Try.laysNm220 : Go.Proofs.Lays2.n20 Try.prog Try.laysNm220_ren := {
  mixed := by kernel_rfl
  f20 := Try.func123.trans (congrArg some (by kernel_rfl))
  t0 := Try.underlying0
  a0 := Try.isAgg0
  z0 := Try.sizeOf0
  v0 := Try.zeroValue0
  t3 := Try.underlying3
  a3 := Try.isAgg3
  z3 := Try.sizeOf3
  v3 := Try.zeroValue3
  t4 := Try.underlying4
  a4 := Try.isAgg4
  z4 := Try.sizeOf4
  v4 := Try.zeroValue4
  t22 := Try.underlying25
  a22 := Try.isAgg25
  z22 := Try.sizeOf25
  v22 := Try.zeroValue25
  i3 := by kernel_rfl }
open Go.RowKit Go.Lib Go.Sort in
theorem Try.slices_Compact_int (blk off cap : Nat) (zs : List Int) (w : World) (hH : Holds (Value.int .i64) w blk off zs.toArray) (hsz : zs.length ≤ 9223372036854775807) (hcap : zs.length ≤ cap) :
    Calls Try.prog 123 #[.slice (some ⟨blk, off, none⟩) zs.length cap] w fun e w' => e = .returned (.slice (some ⟨blk, off, none⟩) (Lib.compact zs).length cap) ∧ ∃ q, w' = putRow (Value.int .i64) (Sort.ahead w q) blk off (Lib.compact zs ++ List.replicate (zs.length - (Lib.compact zs).length) 0).toArray := Any.slices_Compact_int Try.laysNm220 blk off cap zs w hH hsz hcap
end Go.Proofs.Ytdokijbdnajhgaa
namespace Go.Proofs.Ytdokijbdnajhgaa
open Go Go.X Go.Sort
/-- The name, here. -/
abbrev encI : Enc Int := Go.X.encI
theorem flat_encI (xs : List Int) : xs.flatMap encI.f = xs.map (Value.int .i64) := by
  induction xs with
  | nil => rfl
  | cons x xs ih => rw [List.flatMap_cons, ih]; rfl
theorem put_take (d : List Int) (c : Array Value) (k : Nat) (hk : k ≤ d.length) (hc : d.length ≤ c.size) : (putCells (Value.int .i64) 0 d.toArray c).toList.take k = (d.take k).map (Value.int .i64) := by
  apply List.ext_getElem?
  intro i
  unfold putCells
  rw [List.getElem?_take]
  by_cases hi : i < k
  · rw [if_pos hi, Array.getElem?_toList, Array.getElem?_mapIdx, List.getElem?_map, List.getElem?_take, if_pos hi]
    rw [Array.getElem?_eq_getElem (by omega : i < c.size), List.getElem?_eq_getElem (by omega : i < d.length)]
    simp only [Option.map_some, Nat.sub_zero, Nat.zero_add, Nat.zero_le, true_and, List.size_toArray]
    rw [if_pos (by omega), getElem!_pos d.toArray i (by simpa using (by omega : i < d.length))]
    simp
  · rw [if_neg hi, List.getElem?_map, List.getElem?_take, if_neg hi]; rfl
/-- What the heap is when a row's cells have been written and blocks have come. -/
theorem put_own {h h' : Heap} {B : Nat} {e : TypeId} {g cap : Nat} {cur : Array Value} {d : List Int} {os : Array Obj} (hB : B ≤ g) (hg : h[g]? = some (.cells cur e (0, 0))) (hd : d.length ≤ cap) (hcap : cap ≤ maxLen) (hcur : cur.size = cap * 1)
    (hh : h' = (h.modify g (onCells (putCells (Value.int .i64) 0 d.toArray))) ++ os) (k : Nat) (hk : k ≤ d.length) :
    OwE encI h' B e (.slice (some ⟨g, 0, none⟩) k cap) (d.take k) ∧ Chg (.slice (some ⟨g, 0, none⟩) d.length cap) h h' := by
  have hgl : g < h.size := (Array.getElem?_eq_some_iff.1 hg).1
  have hsz : (h.modify g (onCells (putCells (Value.int .i64) 0 d.toArray))).size = h.size := by simp
  have e1 : h'[g]? = some (.cells (putCells (Value.int .i64) 0 d.toArray cur) e (0, 0)) := by
    rw [hh, Array.getElem?_append_left (by omega), Array.getElem?_modify, if_pos rfl, hg]; rfl
  refine ⟨⟨by rw [flat_encI, List.length_map]; exact (Nat.mul_one _).symm, .inr ⟨g, cap, putCells (Value.int .i64) 0 d.toArray cur, ?_, hB, e1, ?_, hcap, ?_, ?_⟩⟩, ⟨?_, fun i hi hne => ?_⟩⟩
  · rw [List.length_take, Nat.min_eq_left hk]
  · rw [List.length_take]; omega
  · unfold putCells; rw [Array.size_mapIdx]; exact hcur
  · rw [List.length_take, Nat.min_eq_left hk, flat_encI, show k * encI.k = k from Nat.mul_one k]
    exact put_take d cur k hk (by omega)
  · rw [hh, Array.size_append]; omega
  · have hig : g ≠ i := fun e' => hne (by rw [e']; rfl)
    rw [hh, Array.getElem?_append_left (by omega), Array.getElem?_modify, if_neg hig]
theorem own_parts {h : Heap} {B : Nat} {e : TypeId} {v : Value} {xs : List Int} (ho : OwE encI h B e v xs) (hne : xs ≠ []) :
    ∃ g cap cur, v = .slice (some ⟨g, 0, none⟩) xs.length cap ∧ B ≤ g ∧ h[g]? = some (.cells cur e (0, 0)) ∧ xs.length ≤ cap ∧ cap ≤ maxLen ∧ cur.size = cap * 1 ∧ cur.toList.take xs.length = xs.map (Value.int .i64) := by
  obtain ⟨_, h1 | ⟨g, cap, cur, hv, hB, hg, hn, hm, hs, ht⟩⟩ := ho
  · exact absurd (List.length_eq_zero_iff.1 h1.2) hne
  · rw [flat_encI, show xs.length * encI.k = xs.length from Nat.mul_one _] at ht
    exact ⟨g, cap, cur, hv, hB, hg, hn, hm, hs, ht⟩
theorem own_holds {w : World} {B : Nat} {e : TypeId} {xs : List Int} {g cap : Nat} {cur : Array Value} (hg : w.heap[g]? = some (.cells cur e (0, 0))) (ht : cur.toList.take xs.length = xs.map (Value.int .i64)) : Holds (Value.int .i64) w g 0 xs.toArray := by
  intro j hj
  have hj' : j < xs.length := by simpa using hj
  have hc : cur[j]? = some (Value.int .i64 xs[j]) := by
    have := congrArg (fun l => l[j]?) ht
    simp only [List.getElem?_take, List.getElem?_map] at this
    rw [if_pos hj', Array.getElem?_toList] at this
    rw [this, List.getElem?_eq_getElem hj']; rfl
  constructor
  · rw [cell_eq]
    unfold cellA
    rw [hg]
    simp only [Nat.zero_add, hc]
    rw [getElem!_pos xs.toArray j (by simpa using hj')]
    simp
  · unfold World.frozen?
    rw [hg]
    simp
theorem lsort_gen {t : TypeId} (h : Heap) (B : Nat) (v : Value) (xs : List Int) (ho : OwE encI h B t v xs) (_ : B ≤ h.size) (hne : xs ≠ []) (hl : xs.length ≤ 1000000) :
    Fx Try.prog 82 [v] h (fun r h' => r = .tuple #[] ∧ OwE encI h' B t v (xs.mergeSort fun x y => decide (x ≤ y)) ∧ Chg v h h') := by
  obtain ⟨g, cap, cur, rfl, hB, hg, hn, hm, hs, ht⟩ := own_parts ho hne
  intro w hw
  subst hw
  have hgl : g < w.heap.size := (Array.getElem?_eq_some_iff.1 hg).1
  refine (Try.slices_Sort_int g 0 cap xs w (own_holds (B := B) (cap := cap) hg ht) hgl (by omega)).mono ?_
  rintro e w' ⟨rfl, n, os, hw'⟩
  have hlen : (xs.mergeSort fun x y => decide (x ≤ y)).length = xs.length := List.length_mergeSort _
  have hh : w'.heap = (w.heap.modify g (onCells (putCells (Value.int .i64) 0 (xs.mergeSort fun x y => decide (x ≤ y)).toArray))) ++ os := by rw [hw']; rfl
  have := put_own (d := xs.mergeSort fun x y => decide (x ≤ y)) hB hg (by omega) hm hs hh xs.length (by omega)
  rw [List.take_of_length_le (by omega), hlen] at this
  exact ⟨_, rfl, by subst hw'; exact ⟨rfl, rfl, rfl⟩, rfl, this.1, this.2⟩
theorem lcompact_gen {t : TypeId} (h : Heap) (B : Nat) (v : Value) (xs : List Int) (ho : OwE encI h B t v xs) (_ : B ≤ h.size) (hne : xs ≠ []) (hl : xs.length ≤ 1000000) :
    Fx Try.prog 123 [v] h (fun r h' => ∃ s, r = s ∧ OwE encI h' B t s (Lib.compact xs) ∧ Chg v h h') := by
  obtain ⟨g, cap, cur, rfl, hB, hg, hn, hm, hs, ht⟩ := own_parts ho hne
  intro w hw
  subst hw
  have hgl : g < w.heap.size := (Array.getElem?_eq_some_iff.1 hg).1
  refine (Try.slices_Compact_int g 0 cap xs w (own_holds (B := B) (cap := cap) hg ht) (by omega) hn).mono ?_
  rintro e w' ⟨rfl, q, hw'⟩
  have hcl : (Lib.compact xs).length ≤ xs.length := by
    unfold Lib.compact Lib.compactUpTo
    rw [List.length_map]
    exact Nat.le_trans (List.length_filter_le ..) (by simp)
  have hdl : (Lib.compact xs ++ List.replicate (xs.length - (Lib.compact xs).length) 0).length = xs.length := by simp; omega
  have hh : w'.heap = (w.heap.modify g (onCells (putCells (Value.int .i64) 0 (Lib.compact xs ++ List.replicate (xs.length - (Lib.compact xs).length) 0).toArray))) ++ #[] := by rw [hw', Array.append_empty]; rfl
  have := put_own hB hg (by omega) hm hs hh (Lib.compact xs).length (by omega)
  rw [List.take_left', hdl] at this
  · exact ⟨_, rfl, by subst hw'; exact ⟨rfl, rfl, rfl⟩, _, rfl, this.1, this.2⟩
  · rfl
theorem lsort_spec (h : Heap) (B : Nat) (v : Value) (xs : List Int) (ho : OwE encI h B 3 v xs) (hB : B ≤ h.size) (hne : xs ≠ []) (hl : xs.length ≤ 1000000) :
    Fx Try.prog 82 [v] h (fun r h' => r = .tuple #[] ∧ OwE encI h' B 3 v (xs.mergeSort fun x y => decide (x ≤ y)) ∧ Chg v h h') := lsort_gen h B v xs ho hB hne hl
end Go.Proofs.Ytdokijbdnajhgaa
