/-
  Ranges over a function: the statement, a round, the return; contracts of functions that are ranged over.
-/
import Derived.Test.YtdokijbdnajhgaaXDisj
import Derived.Test.YtdokijbdnajhgaaXCells
import Derived.Below
set_option linter.unusedSimpArgs false
set_option linter.unusedVariables false
namespace Go.X

/-- All that is no cells is as it was. -/
def Nc (h h' : Heap) : Prop := h.size ≤ h'.size ∧ ∀ (b : Nat) (o : Obj), h[b]? = some o → (∀ c t f, o ≠ .cells c t f) → h'[b]? = some o
/-- All cells are as they were. -/
def Cel (h h' : Heap) : Prop := h.size ≤ h'.size ∧ ∀ (b : Nat) (c : Array Value) (t : TypeId) (f : Nat × Nat), h[b]? = some (.cells c t f) → h'[b]? = some (.cells c t f)

theorem Nc.refl (h : Heap) : Nc h h := ⟨Nat.le_refl _, fun _ _ hb _ => hb⟩
theorem Nc.trans {a b c : Heap} (h : Nc a b) (k : Nc b c) : Nc a c := ⟨Nat.le_trans h.1 k.1, fun i o hi ho => k.2 i o (h.2 i o hi ho) ho⟩
theorem Nc.of_ext {h h' : Heap} (hx : Ext h.size h h') : Nc h h' := ⟨hx.size, fun b o hb _ => (hx.block b (Array.getElem?_eq_some_iff.1 hb).1).trans hb⟩
theorem Nc.of_chg {α : Type} {E : Enc α} {h h' : Heap} {v : Value} {B : Nat} {t : TypeId} {xs : List α} (hx : Chg v h h') (ho : OwE E h B t v xs) : Nc h h' :=
  ⟨hx.size, fun b o hb hn => (hx.block b (Array.getElem?_eq_some_iff.1 hb).1 fun e => by
    rcases ho.2 with ⟨rfl, _⟩ | ⟨g, cap, cur, rfl, _, hg, _⟩
    · cases e
    · simp only [Value.ownBlock, Option.some.injEq] at e
      subst e
      rw [hb] at hg
      exact hn _ _ _ (Option.some.inj hg)).trans hb⟩
theorem Nc.of_chgB {h h' : Heap} {bn : Nat} {cs : Array Value} {t : TypeId} (hx : ChgB bn h h') (hb : Blk h bn cs t) : Nc h h' :=
  ⟨Nat.le_of_eq hx.size.symm, fun b o ho hn => (hx.block b fun e => by
    subst e
    rw [show h[b]? = _ from hb] at ho
    exact hn _ _ _ (Option.some.inj ho).symm).trans ho⟩

theorem Cel.refl (h : Heap) : Cel h h := ⟨Nat.le_refl _, fun _ _ _ _ hb => hb⟩
theorem Cel.trans {a b c : Heap} (h : Cel a b) (k : Cel b c) : Cel a c := ⟨Nat.le_trans h.1 k.1, fun i c t f hi => k.2 i c t f (h.2 i c t f hi)⟩
theorem Cel.blk {h h' : Heap} (hx : Cel h h') {b : Nat} {cs : Array Value} {t : TypeId} (hb : Blk h b cs t) : Blk h' b cs t := hx.2 _ _ _ _ hb
theorem Cel.owE {α : Type} {E : Enc α} {h h' : Heap} (hx : Cel h h') {v : Value} {B : Nat} {t : TypeId} {xs : List α} (ho : OwE E h B t v xs) : OwE E h' B t v xs := by
  refine ⟨ho.1, ?_⟩
  rcases ho.2 with h1 | ⟨g, cap, cur, rfl, hB, hg, r⟩
  · exact .inl h1
  · exact .inr ⟨g, cap, cur, rfl, hB, hx.2 _ _ _ _ hg, r⟩
theorem Cel.cell {h h' : Heap} (hx : Cel h h') {a : Addr} {u : Value} (hc : cellA h a = some u) : cellA h' a = some u := by
  unfold cellA at *
  cases hb : h[a.block]? with
  | none => rw [hb] at hc; cases hc
  | some o =>
    rw [hb] at hc
    cases o with
    | cells c t f => rw [hx.2 _ _ _ _ hb]; exact hc
    | _ => cases hc
theorem Cel.rd {h h' : Heap} (hx : Cel h h') {v : Value} {n : Nat} {cs : List Value} (hr : Rd h v n cs) : Rd h' v n cs := by
  obtain ⟨a, cap, rfl, h1, h2, h3⟩ := hr
  refine ⟨a, cap, rfl, h1, h2, fun j u hj => ?_⟩
  obtain ⟨ad, rfl, hc⟩ := h3 j u hj
  exact ⟨ad, rfl, hx.cell hc⟩
theorem Cel.rdE {α : Type} {E : Enc α} {h h' : Heap} (hx : Cel h h') {v : Value} {xs : List α} (hr : RdE E h v xs) : RdE E h' v xs := hx.rd hr
theorem cel_of_chgB {h h' : Heap} {l : Nat} {o : Obj} (hx : ChgB l h h') (ho : h[l]? = some o) (hn : ∀ c t f, o ≠ .cells c t f) : Cel h h' :=
  ⟨Nat.le_of_eq hx.size.symm, fun b c t f hb => (hx.block b fun e => by
    subst e
    rw [hb] at ho
    exact hn _ _ _ (Option.some.inj ho).symm).trans hb⟩

/-- A mark among the deferred calls. -/
def markD (D : Nat) : Deferred := ⟨.collected D, #[]⟩
/-- The blocks of the marks: no call has been deferred in a round. -/
def DsOk (Ds : List Nat) (h : Heap) : Prop := ∀ D ∈ Ds, h[D]? = some (.deferred (some []))
theorem DsOk.nil (h : Heap) : DsOk [] h := fun D hD => by cases hD
theorem DsOk.nc {Ds : List Nat} {h h' : Heap} (hd : DsOk Ds h) (hx : Nc h h') : DsOk Ds h' := fun D hD => hx.2 D _ (hd D hD) (by intro c t f e; cases e)
theorem DsOk.cons {Ds : List Nat} {D : Nat} {h : Heap} (hD : h[D]? = some (.deferred (some []))) (hd : DsOk Ds h) : DsOk (D :: Ds) h := fun d hd' => by
  rw [List.mem_cons] at hd'
  rcases hd' with rfl | h1
  · exact hD
  · exact hd d h1

/-- What a loop's record says. -/
structure LoopOk (n : Nat) (e : Env) (ps : Array Tmp) (assign body : Code) (rc : Loop) : Prop where
  st : rc.state = .ready
  pe : rc.pending = none
  ps : rc.params = ps
  as : rc.assign = assign
  bo : rc.body = body
  size : rc.tmps.size = n
  get : ∀ i, rc.tmps.getD i undef = e i

def updsA (e : Env) : List Tmp → List Value → Env
  | p :: ps, v :: vs => updsA (upd e p v) ps vs
  | _, _ => e

theorem fits_fold {n : Nat} : ∀ (ps : List Tmp) (vs : List Value) (e : Env) (t : Array Value), (∀ p ∈ ps, p < n) → t.size = n → (∀ i, t.getD i undef = e i) →
    ((ps.zip vs).foldl (fun t (p, v) => t.setIfInBounds p v) t).size = n ∧ ∀ i, ((ps.zip vs).foldl (fun t (p, v) => t.setIfInBounds p v) t).getD i undef = updsA e ps vs i
  | [], _, e, t, _, hs, hg => ⟨hs, hg⟩
  | p :: ps, [], e, t, _, hs, hg => ⟨hs, hg⟩
  | p :: ps, v :: vs, e, t, hp, hs, hg => by
    simp only [List.zip_cons_cons, List.foldl_cons, updsA]
    refine fits_fold ps vs (upd e p v) _ (fun q hq => hp q (List.mem_cons_of_mem _ hq)) (by simp [hs]) fun i => ?_
    have hlt : p < t.size := by rw [hs]; exact hp p (List.mem_cons_self ..)
    by_cases hi : i = p
    · subst hi
      rw [upd_same]
      simp [Array.getD_eq_getD_getElem?, hlt]
    · rw [upd_other _ _ hi, ← hg i]
      simp [Array.getD_eq_getD_getElem?, Array.getElem?_setIfInBounds_ne (Ne.symm hi)]

/-- A call of yield that answers true. -/
def YieldOk (P : Program) (l : Nat) (args : List Value) (h : Heap) (R : Heap → Prop) : Prop :=
  ∀ w : World, w.heap = h → ∃ fn tmps assign body, (Instr.yield l args.toArray).run P w = .ok (.round l fn tmps assign body) w ∧
    RoundIn Fence.wide 0 P l fn tmps assign body w (fun x w' => x = .returned (.bool true) ∧ Qt w w' ∧ R w'.heap)
theorem YieldOk.mono {P : Program} {l : Nat} {args : List Value} {h : Heap} {R R' : Heap → Prop} (hy : YieldOk P l args h R) (hm : ∀ h', R h' → R' h') : YieldOk P l args h R' := fun w hw => by
  obtain ⟨fn, tmps, assign, body, h1, h2⟩ := hy w hw
  exact ⟨fn, tmps, assign, body, h1, h2.mono fun x w' ⟨a, b, c⟩ => ⟨a, b, hm _ c⟩⟩

section
variable {P : Program} {n : Nat} {k : List Item} {R : Option Code → Env → Heap → Prop} {e : Env} {h : Heap}

theorem wi_begin {l : Nat} {rc : Loop} {ds : List Deferred} (hl : h[l]? = some (.loop rc)) (hr : rc.state = .ready) (hw : ∀ h2, ChgB l h h2 → h2[l]? = some (.loop { rc with state := .busy }) → WpI ⟨some l, ds⟩ P n k R e h2) :
    WpI ⟨some l, ds⟩ P n (.beginRound :: k) R e h := by
  intro b cs a w hro hf hh
  subst hh
  have hb := run_beginRound (P := P) hl hr
  have hlt : l < w.heap.size := (Array.getElem?_eq_some_iff.1 hl).1
  obtain ⟨j, e', a', w', fr, hf', hq, hR, hla, hs⟩ := hw _ ⟨World.putObj_size, fun i hi => World.putObj_heap_other hi⟩ (World.putObj_heap_same hlt) b cs a _ hro hf rfl
  exact ⟨j, e', a', w', fr, hf', ⟨hq.os, hq.tape, hq.output⟩, hR, hla, .head (stepR_beginRound hro hb) hs⟩

/-- A round. -/
theorem yield_ok {l : Nat} {rc : Loop} {ps : Array Tmp} {assign body : Code} {args : List Value} {Rh : Heap → Prop} (hL : LoopOk n e ps assign body rc) (hl : h[l]? = some (.loop rc)) (hs : args.length = ps.size) (hp : ∀ p ∈ ps.toList, p < n)
    (hw : WpI ⟨some l, []⟩ P n [.code assign, .beginRound, .code body] (fun j _ h' => j = none ∧ h'[l]? = some (.loop { rc with state := .busy }) ∧ ∀ h2, ChgB l h' h2 → h2[l]? = some (.loop rc) → Rh h2) (updsA e ps.toList args) h) : YieldOk P l args h Rh := by
  intro w hh
  subst hh
  obtain ⟨h1, h2, h3, h4, h5, h6, h7⟩ := hL
  subst h3; subst h4; subst h5
  refine ⟨_, _, _, _, run_yield hl (by simpa using hs), trivial, fun c cs _ => ?_⟩
  let b : Frame := { (default : Frame) with fn := rc.fn, kind := .normal, roundOf := some l }
  have hz : (rc.params.zip args.toArray).foldl (fun t (p, v) => t.setIfInBounds p v) rc.tmps = (rc.params.toList.zip args).foldl (fun t (p, v) => t.setIfInBounds p v) rc.tmps := by
    rw [← Array.foldl_toList]; simp
  obtain ⟨f1, f2⟩ := fits_fold rc.params.toList args e rc.tmps hp h6 h7
  have hb0 : Frame.round l rc.fn ((rc.params.zip args.toArray).foldl (fun tmps (t, a) => tmps.setIfInBounds t a) rc.tmps) rc.assign rc.body .normal =
      b.atR { tmps := (rc.params.toList.zip args).foldl (fun t (p, v) => t.setIfInBounds p v) rc.tmps, defers := [] } [.code rc.assign, .beginRound, .code rc.body] := by
    rw [hz]; simp [Frame.round, Frame.atR, b]
  obtain ⟨j, e', a', w', fr, hf', hq, ⟨rfl, hlb, hR⟩, hla, hst⟩ := hw b (c :: cs) { tmps := (rc.params.toList.zip args).foldl (fun t (p, v) => t.setIfInBounds p v) rc.tmps, defers := [] } w rfl ⟨rfl, f1, f2⟩ rfl
  obtain ⟨todo, rfl, rfl⟩ := hla
  rw [← hb0] at hst
  have hend := run_endRound (P := P) none hlb
  have hlt : l < w'.heap.size := (Array.getElem?_eq_some_iff.1 hlb).1
  have hrc : ({ ({ rc with state := .busy } : Loop) with state := (if (none : Option Code).isNone then .ready else .done), pending := none } : Loop) = rc := by
    cases rc; simp only at h1 h2; subst h1; subst h2; rfl
  rw [hrc] at hend
  refine ⟨.returned (.bool true), w'.putObj l (.loop rc), ⟨rfl, ⟨hq.os, hq.tape, hq.output⟩, hR _ ⟨World.putObj_size, fun i hi => World.putObj_heap_other hi⟩ (World.putObj_heap_same hlt)⟩, ?_⟩
  exact stepsIn_wide.2 (Steps.trans hst (.one (stepR_round_end rfl rfl hend)))

/-- The statement. -/
theorem wi_range {g : Operand} {ps : Array Tmp} {assign body : Code} {gf : Nat} {lb : List Value} {Ds : List Nat} (hcall : ∀ args w, (callFunc gf args).run P w = .ok (.enter gf args) w) (hg : ev e g = .func (.func gf) #[] lb.toArray)
    (hw : ∀ (l D : Nat) (h1 : Heap) (rc : Loop), h.size ≤ D → h.size ≤ l → D ≠ l → Ext h.size h h1 → h1[l]? = some (.loop rc) → h1[D]? = some (.deferred (some [])) → LoopOk n e ps assign body rc →
      Fx P gf (.func (.yield l) #[] #[] :: lb) h1 (fun _ h2 => h2[l]? = some (.loop rc) ∧ ∀ h3, ChgB l h2 h3 → WpI ⟨none, (D :: Ds).map markD⟩ P n k R e h3)) :
    WpI ⟨none, Ds.map markD⟩ P n (.code (.rangeFunc g ps assign body) :: k) R e h := by
  intro b cs a w hro hf hh
  subst hh
  obtain ⟨rc, hrc⟩ : ∃ rc : Loop, rc = { state := .ready, pending := none, fn := b.fn, tmps := a.tmps, params := ps, assign, body, defers := w.heap.size } := ⟨_, rfl⟩
  obtain ⟨W1, hW1⟩ : ∃ W1, (w.alloc (.deferred (some []))).alloc (.loop rc) = W1 := ⟨_, rfl⟩
  have hL1 : W1.heap[w.heap.size + 1]? = some (.loop rc) := by
    rw [← hW1]; have := World.alloc_heap_new (w.alloc (.deferred (some []))) (.loop rc); rwa [World.size_alloc] at this
  have hK1 : W1.heap[w.heap.size]? = some (.deferred (some [])) := by
    rw [← hW1]; show ((w.heap.push _).push _)[w.heap.size]? = _; rw [Array.getElem?_push, if_neg (by simp), Array.getElem?_push, if_pos rfl]
  have hX1 : Ext w.heap.size w.heap W1.heap := by
    rw [← hW1]
    exact (ext_push w.heap _).trans2 (ext_push _ _) (by simp)
  have hQ1 : Qt w W1 := by rw [← hW1]; exact ⟨rfl, rfl, rfl⟩
  have hF := hw (w.heap.size + 1) w.heap.size W1.heap rc (Nat.le_refl _) (by omega) (by omega) hX1 hL1 hK1 (by subst hrc; exact ⟨rfl, rfl, rfl, rfl, rfl, hf.size, hf.get⟩) W1 rfl
  have henter : (Instr.enterLoop b.fn a.tmps ps assign body b.roundOf).run P w = .ok (w.heap.size + 1, [markD w.heap.size]) W1 := by
    rw [hro, ← hW1, hrc]; exact run_enterLoop_outer _ _ _ _ _
  have hres : (resolve a.eval (rangeCall g (w.heap.size + 1)) 0).run P W1 = .ok { target := .fn (.func gf) lb.toArray, args := #[.func (.yield (w.heap.size + 1)) #[] #[]] } W1 := by
    have hg' : a.eval g = .func (.func gf) #[] lb.toArray := by rw [hf.ev]; exact hg
    simp only [resolve, hg']
    simp [go_sem]
  have hinv : (invoke (.fn (.func gf) lb.toArray) #[.func (.yield (w.heap.size + 1)) #[] #[]]).run P W1 = .ok (.enter gf (#[.func (.yield (w.heap.size + 1)) #[] #[]] ++ lb.toArray)) W1 := by
    simp [invoke, go_sem, hcall]
  have hst := stepR_rangeFunc (P := P) (b := b) (a := a) (k := k) (cs := cs) (w := w) henter hres hinv
  obtain ⟨x, w2, fr, ⟨v, rfl, hq2, hl2, hW⟩, hcomes, hfn, hleave⟩ := hF (b.atR { a with defers := [markD w.heap.size] ++ a.defers } (.inRangeFunc (w.heap.size + 1) :: k) :: cs)
  have hargs : (Value.func (.yield (w.heap.size + 1)) #[] #[] :: lb).toArray = #[.func (.yield (w.heap.size + 1)) #[] #[]] ++ lb.toArray := by simp
  rw [hargs] at hcomes
  have hend := run_endLoop (P := P) hl2 (by rw [hrc]; simp)
  have hpe : rc.pending = none := by rw [hrc]
  rw [hpe] at hend
  have hback := step_leave_returned (c := b.atR { a with defers := [markD w.heap.size] ++ a.defers } (.inRangeFunc (w.heap.size + 1) :: k)) (cs := cs) hleave
  rw [finish_atR_inRangeFunc] at hback
  have hst2 := stepR_endRangeFunc (b := b) (a := { a with defers := [markD w.heap.size] ++ a.defers }) (k := k) (cs := cs) hend
  obtain ⟨j, e', a', w', fr', hf', hq', hR', hla', hs'⟩ := hW _ ⟨World.putObj_size, fun i hi => World.putObj_heap_other hi⟩ b cs { a with defers := [markD w.heap.size] ++ a.defers } _ hro
    ⟨by simp [hf.defers], hf.size, hf.get⟩ rfl
  refine ⟨j, e', a', w', fr', hf', (hQ1.trans hq2).trans ⟨hq'.os, hq'.tape, hq'.output⟩, hR', hla', ?_⟩
  exact .head hst (Steps.trans hcomes (.head hback (.head hst2 hs')))

/-- The marks are come to at the return. -/
theorem steps_marks {b : Frame} {cs : List Frame} {tmps : Array Value} {todo : List Item} : ∀ (Ds : List Nat) (w : World), Ds.Nodup → DsOk Ds w.heap →
    ∃ w', Qt w w' ∧ Cel w.heap w'.heap ∧ w'.heap.size = w.heap.size ∧ (∀ i : Nat, i ∉ Ds → w'.heap[i]? = w.heap[i]?) ∧
      Steps P (lone { b.atR ⟨tmps, Ds.map markD⟩ todo with mode := .returning } cs w) (lone { b.atR ⟨tmps, []⟩ todo with mode := .returning } cs w')
  | [], w, _, _ => ⟨w, Qt.refl _, Cel.refl _, rfl, fun _ _ => rfl, .refl _ _⟩
  | D :: Ds, w, hnd, hd => by
    rw [List.nodup_cons] at hnd
    have hD := hd D (List.mem_cons_self ..)
    have hlt : D < w.heap.size := (Array.getElem?_eq_some_iff.1 hD).1
    have hk := run_takeDeferred (P := P) hD
    have hd2 : DsOk Ds (w.putObj D (.deferred none)).heap := fun d hd' => (World.putObj_heap_other (fun e => hnd.1 (by rw [← e]; exact hd'))).trans (hd d (List.mem_cons_of_mem _ hd'))
    obtain ⟨w', hq, hc, hsz, hb, hs⟩ := steps_marks Ds (w.putObj D (.deferred none)) hnd.2 hd2
    have h1 := step_collected (P := P) (fr := { b.atR ⟨tmps, (D :: Ds).map markD⟩ todo with mode := .returning }) (cs := cs) (w := w) (d := markD D) (r := D) (ds := Ds.map markD) (by simp) rfl rfl hk
    have hcb : ChgB D w.heap (w.putObj D (.deferred none)).heap := ⟨World.putObj_size, fun i hi => World.putObj_heap_other hi⟩
    refine ⟨w', ⟨hq.os, hq.tape, hq.output⟩, (cel_of_chgB hcb hD (by intro c t f e; cases e)).trans hc, hsz.trans World.putObj_size, fun i hi => ?_, .head h1 hs⟩
    rw [List.mem_cons, not_or] at hi
    rw [hb i hi.2]
    exact World.putObj_heap_other hi.1

/-- The return of a function that has ranged over functions. -/
theorem wi_retD {Ds : List Nat} (hnd : Ds.Nodup) (hd : DsOk Ds h) (hR : ∀ h2, Cel h h2 → h2.size = h.size → (∀ i : Nat, i ∉ Ds → h2[i]? = h[i]?) → R (some .ret) e h2) : WpI ⟨none, Ds.map markD⟩ P n (.code .ret :: k) R e h := by
  intro b cs a w hro hf hh
  subst hh
  obtain ⟨tmps, ds⟩ := a
  have hdf : ds = Ds.map markD := hf.defers
  subst hdf
  obtain ⟨w', hq, hc, hsz, hb, hs⟩ := steps_marks (P := P) (b := b) (cs := cs) (tmps := tmps) (todo := .code .ret :: k) Ds w hnd hd
  exact ⟨some .ret, e, ⟨tmps, []⟩, w', _, ⟨rfl, hf.size, hf.get⟩, hq, hR _ hc hsz hb, ⟨_, rfl⟩, .head (stepR_ret hro) hs⟩
theorem wi_endD {Ds : List Nat} (hnd : Ds.Nodup) (hd : DsOk Ds h) (hR : ∀ h2, Cel h h2 → h2.size = h.size → (∀ i : Nat, i ∉ Ds → h2[i]? = h[i]?) → R none e h2) : WpI ⟨none, Ds.map markD⟩ P n [] R e h := by
  intro b cs a w hro hf hh
  subst hh
  obtain ⟨tmps, ds⟩ := a
  have hdf : ds = Ds.map markD := hf.defers
  subst hdf
  obtain ⟨w', hq, hc, hsz, hb, hs⟩ := steps_marks (P := P) (b := b) (cs := cs) (tmps := tmps) (todo := []) Ds w hnd hd
  exact ⟨none, e, ⟨tmps, []⟩, w', _, ⟨rfl, hf.size, hf.get⟩, hq, hR _ hc hsz hb, ⟨_, rfl⟩, .head (stepR_end hro) hs⟩
/-- What lies below the base lies there still, if the marks' blocks lie beyond. -/
theorem ext_marks {B : Nat} {Ds : List Nat} {h0 h h2 : Heap} (hx : Ext B h0 h) (hB : B ≤ h0.size) (hD : ∀ D ∈ Ds, B ≤ D) (hsz : h2.size = h.size) (hb : ∀ i, i ∉ Ds → h2[i]? = h[i]?) : Ext B h0 h2 :=
  ⟨by have := hx.size; omega, fun i hi => (hb i fun hm => by have := hD i hm; omega).trans (hx.block i hi)⟩

theorem ext_marks2 {B : Nat} {Ds : List Nat} {h0 h h2 : Heap} (hx : Ext B h0 h) (hd : DsOk Ds h) (hD : ∀ D ∈ Ds, B ≤ D) (hsz : h2.size = h.size) (hb : ∀ i : Nat, i ∉ Ds → h2[i]? = h[i]?) : Ext B h0 h2 :=
  ⟨by have := hx.size; omega, fun i hi => (hb i fun hm => by have := hD i hm; omega).trans (hx.block i hi)⟩
/-- A loop whose rounds may leave marks: the marks go with the state. -/
theorem wi_loopD {σ : Type} {body : Code} (W : Nat → Bool) (Ls : σ → List (Nat × Value)) (Dl : σ → List Nat) (I : σ → Heap → Prop) (μ : σ → Nat) (s0 : σ) (hL : Has e (Ls s0)) (h0 : I s0 h)
    (round : ∀ (g : Env) (s : σ) (hh : Heap), I s hh →
      (∀ (e' : Env) (h' : Heap) (s' : σ), Agree W e e' → Has e' (Ls s') → I s' h' → μ s' < μ s → WpI ⟨none, (Dl s').map markD⟩ P n (.inLoop body :: k) R e' h') →
      WpI ⟨none, (Dl s).map markD⟩ P n (.code body :: .inLoop body :: k) R (ups (Ls s) (mixE W g e)) hh) :
    WpI ⟨none, (Dl s0).map markD⟩ P n (.code (.loop body) :: k) R e h := by
  have key : ∀ (m : Nat) (s : σ) (e1 : Env) (hh : Heap), μ s = m → Agree W e e1 → Has e1 (Ls s) → I s hh → WpI ⟨none, (Dl s).map markD⟩ P n (.code body :: .inLoop body :: k) R e1 hh := by
    intro m
    induction m using Nat.strongRecOn with
    | _ m ih =>
      intro s e1 hh hm ha hL1 hI
      have hr := round e1 s hh hI (fun e' h' s' ha' hL' hI' hlt => of_step (fun _ _ _ _ _ => stepR_inLoop) (ih (μ s') (hm ▸ hlt) s' e' h' rfl ha' hL' hI'))
      rwa [mix_agree ha, ups_has hL1] at hr
  exact of_step (fun _ _ _ _ _ => stepR_loop) (key _ s0 e h rfl (fun _ _ => rfl) hL h0)
end

/-! ### Contracts of functions that are ranged over -/

/-- What an iterator leaves alone: all but cells of its type, loops and marks. -/
def Keep (T : Nat) (o : Obj) : Prop := (∀ c f, o ≠ .cells c T f) ∧ (∀ d, o ≠ .deferred d) ∧ ∀ r, o ≠ .loop r
/-- All but cells of the type 'T', loops and marks below block 'N' is as it was. -/
def Qk (T N : Nat) (h h' : Heap) : Prop := h.size ≤ h'.size ∧ ∀ (b : Nat) (o : Obj), b < N → h[b]? = some o → Keep T o → h'[b]? = some o
theorem Qk.refl (T N : Nat) (h : Heap) : Qk T N h h := ⟨Nat.le_refl _, fun _ _ _ hb _ => hb⟩
theorem Qk.trans {T N : Nat} {a b c : Heap} (h : Qk T N a b) (k : Qk T N b c) : Qk T N a c := ⟨Nat.le_trans h.1 k.1, fun i o hi hb ho => k.2 i o hi (h.2 i o hi hb ho) ho⟩
theorem Qk.less {T N M : Nat} {a b : Heap} (h : Qk T N a b) (hM : M ≤ N) : Qk T M a b := ⟨h.1, fun i o hi hb ho => h.2 i o (by omega) hb ho⟩
theorem Qk.of_ext {T N : Nat} {h h' : Heap} (hx : Ext h.size h h') : Qk T N h h' := ⟨hx.size, fun b o _ hb _ => (hx.block b (Array.getElem?_eq_some_iff.1 hb).1).trans hb⟩
theorem Qk.of_chgT {T N : Nat} {h h' : Heap} {bn : Nat} {cs : Array Value} (hx : ChgB bn h h') (hb : Blk h bn cs T) : Qk T N h h' :=
  ⟨Nat.le_of_eq hx.size.symm, fun b o _ ho hn => (hx.block b fun e => by
    subst e
    rw [show h[b]? = _ from hb] at ho
    exact hn.1 _ _ (Option.some.inj ho).symm).trans ho⟩
theorem Qk.of_new {T N : Nat} {h h' : Heap} {bn : Nat} (hx : ChgB bn h h') (hN : N ≤ bn) : Qk T N h h' := ⟨Nat.le_of_eq hx.size.symm, fun b o hb ho _ => (hx.block b (by omega)).trans ho⟩
theorem Qk.of_loop {T N : Nat} {h h' : Heap} {l : Nat} {rc : Loop} (hx : ChgB l h h') (hl : h[l]? = some (.loop rc)) : Qk T N h h' :=
  ⟨Nat.le_of_eq hx.size.symm, fun b o _ ho hn => (hx.block b fun e => by
    subst e
    rw [hl] at ho
    exact hn.2.2 _ (Option.some.inj ho).symm).trans ho⟩
theorem Qk.of_newC {T N : Nat} {h h' : Heap} {v : Value} (hx : Chg v h h') (hN : ∀ g, v.ownBlock = some g → N ≤ g) : Qk T N h h' := ⟨hx.size, fun b o hb ho _ => (hx.block b (Array.getElem?_eq_some_iff.1 ho).1 (fun e => by have := hN b e.symm; omega)).trans ho⟩
theorem Qk.of_marks {T N : Nat} {h h' : Heap} {Ds : List Nat} (hd : DsOk Ds h) (hsz : h'.size = h.size) (hb : ∀ i : Nat, i ∉ Ds → h'[i]? = h[i]?) : Qk T N h h' :=
  ⟨Nat.le_of_eq hsz.symm, fun b o _ ho hn => (hb b fun hm => by
    rw [hd b hm] at ho
    exact hn.2.1 _ (Option.some.inj ho).symm).trans ho⟩
/-- All cells of the type 'T', and all marks, are as they were. -/
def Tk (T : Nat) (h h' : Heap) : Prop := h.size ≤ h'.size ∧ (∀ (b : Nat) (c : Array Value) (f : Nat × Nat), h[b]? = some (.cells c T f) → h'[b]? = some (.cells c T f)) ∧ ∀ (b : Nat) (d : Option (List Deferred)), h[b]? = some (.deferred d) → h'[b]? = some (.deferred d)
theorem Tk.refl (T : Nat) (h : Heap) : Tk T h h := ⟨Nat.le_refl _, fun _ _ _ hb => hb, fun _ _ hb => hb⟩
theorem Tk.trans {T : Nat} {a b c : Heap} (h : Tk T a b) (k : Tk T b c) : Tk T a c := ⟨Nat.le_trans h.1 k.1, fun i c f hb => k.2.1 i c f (h.2.1 i c f hb), fun i d hb => k.2.2 i d (h.2.2 i d hb)⟩
theorem Tk.of_ext {T : Nat} {h h' : Heap} (hx : Ext h.size h h') : Tk T h h' := ⟨hx.size, fun b c f hb => (hx.block b (Array.getElem?_eq_some_iff.1 hb).1).trans hb, fun b d hb => (hx.block b (Array.getElem?_eq_some_iff.1 hb).1).trans hb⟩
theorem Tk.of_chg {α : Type} {E : Enc α} {T : Nat} {h h' : Heap} {v : Value} {B : Nat} {t : TypeId} {xs : List α} (hx : Chg v h h') (ho : OwE E h B t v xs) (hne : t ≠ T) : Tk T h h' := by
  refine ⟨hx.size, fun b c f hb => (hx.block b (Array.getElem?_eq_some_iff.1 hb).1 fun e => ?_).trans hb, fun b d hb => (hx.block b (Array.getElem?_eq_some_iff.1 hb).1 fun e => ?_).trans hb⟩
  · rcases ho.2 with ⟨rfl, _⟩ | ⟨g, cap, cur, rfl, _, hg, _⟩
    · cases e
    · simp only [Value.ownBlock, Option.some.injEq] at e
      subst e
      rw [hb] at hg
      simp only [Option.some.injEq, Obj.cells.injEq] at hg
      exact hne hg.2.1.symm
  · rcases ho.2 with ⟨rfl, _⟩ | ⟨g, cap, cur, rfl, _, hg, _⟩
    · cases e
    · simp only [Value.ownBlock, Option.some.injEq] at e
      subst e
      rw [hb] at hg
      cases hg
theorem Tk.of_chgB {T : Nat} {h h' : Heap} {bn : Nat} {cs : Array Value} {t : TypeId} (hx : ChgB bn h h') (hb : Blk h bn cs t) (hne : t ≠ T) : Tk T h h' :=
  ⟨Nat.le_of_eq hx.size.symm, fun b c f ho => (hx.block b fun e => by
    subst e
    rw [show h[b]? = _ from hb] at ho
    simp only [Option.some.injEq, Obj.cells.injEq] at ho
    exact hne ho.2.1).trans ho, fun b d ho => (hx.block b fun e => by
    subst e
    rw [show h[b]? = _ from hb] at ho
    cases ho).trans ho⟩
theorem Tk.of_loop {T : Nat} {h h' : Heap} {l : Nat} {rc : Loop} (hx : ChgB l h h') (hl : h[l]? = some (.loop rc)) : Tk T h h' :=
  ⟨Nat.le_of_eq hx.size.symm, fun b c f ho => (hx.block b fun e => by subst e; rw [hl] at ho; cases ho).trans ho, fun b d ho => (hx.block b fun e => by subst e; rw [hl] at ho; cases ho).trans ho⟩
theorem Tk.blk {T : Nat} {h h' : Heap} {bn : Nat} {cs : Array Value} (hx : Tk T h h') (hb : Blk h bn cs T) : Blk h' bn cs T := hx.2.1 _ _ _ hb
theorem Tk.dso {T : Nat} {h h' : Heap} {Ds : List Nat} (hx : Tk T h h') (hd : DsOk Ds h) : DsOk Ds h' := fun D hD => hx.2.2 D _ (hd D hD)

/-- What the iterator leaves as it was, between two rounds. -/
def Quiet (T B0 : Nat) (h h' : Heap) : Prop := Ext B0 h h' ∧ Qk T h.size h h'
section
variable {T B0 : Nat} {h h' : Heap}
theorem Quiet.obj (hq : Quiet T B0 h h') {b : Nat} {o : Obj} (ho : h[b]? = some o) (hb : b < B0) : h'[b]? = some o := (hq.1.block b hb).trans ho
theorem Quiet.blk (hq : Quiet T B0 h h') {b : Nat} {cs : Array Value} {t : TypeId} (hb : Blk h b cs t) (hne : t ≠ T) : Blk h' b cs t :=
  hq.2.2 b _ hb.lt hb ⟨fun c f e => by simp only [Obj.cells.injEq] at e; exact hne e.2.1, ⟨fun d e => (by cases e), fun r e => (by cases e)⟩⟩
theorem Quiet.owE {α : Type} {E : Enc α} (hq : Quiet T B0 h h') {v : Value} {B : Nat} {t : TypeId} {xs : List α} (ho : OwE E h B t v xs) (hne : t ≠ T) : OwE E h' B t v xs := by
  refine ⟨ho.1, ?_⟩
  rcases ho.2 with h1 | ⟨g, cap, cur, rfl, hB, hg, r⟩
  · exact .inl h1
  · exact .inr ⟨g, cap, cur, rfl, hB, hq.2.2 g _ (Array.getElem?_eq_some_iff.1 hg).1 hg ⟨fun c f e => by simp only [Obj.cells.injEq] at e; exact hne e.2.1, ⟨fun d e => (by cases e), fun r e => (by cases e)⟩⟩, r⟩
theorem Quiet.dso (hq : Quiet T B0 h h') {Ds : List Nat} (hd : DsOk Ds h) (hb : ∀ d ∈ Ds, d < B0) : DsOk Ds h' := fun D hD => hq.obj (hd D hD) (hb D hD)
theorem Quiet.up (hq : Quiet T B0 h h') {B : Nat} {h0 : Heap} (h1 : Quiet T B h0 h) (hB : B ≤ B0) : Quiet T B h0 h' := ⟨h1.1.trans (hq.1.mono hB), h1.2.trans (hq.2.less h1.2.1)⟩
theorem Quiet.ext (hq : Quiet T B0 h h') {B : Nat} {h0 : Heap} (hx : Ext B h0 h) (hB : B ≤ B0) : Ext B h0 h' := hx.trans (hq.1.mono hB)
end

/-- What is known between rounds, 'k' of which have been. -/
def JS (T B0 : Nat) (J : Nat → Heap → Prop) : Prop := ∀ k h1 h2, J k h1 → Quiet T B0 h1 h2 → J k h2
/-- The rounds' word. -/
def Yields (P : Program) (l T : Nat) (args : Nat → List Value) (N : Nat) (J : Nat → Heap → Prop) : Prop :=
  ∀ k h1, k < N → J k h1 → YieldOk P l (args k) h1 fun h2 => Tk T h1 h2 ∧ J (k + 1) h2
/-- A function that is ranged over: it yields 'args 0', 'args 1', .. as long as 'Cap' holds of what it has captured; it keeps its own state in cells of the type 'T'. -/
def SeqC (P : Program) (gf : Nat) (lb : List Value) (T : Nat) (Cap : Heap → Prop) (N : Nat) (args : Nat → List Value) : Prop :=
  ∀ (l : Nat) (h : Heap) (J : Nat → Heap → Prop), JS T h.size J → (∀ k h1, J k h1 → Cap h1) → Yields P l T args N J → J 0 h →
    Fx P gf (.func (.yield l) #[] #[] :: lb) h fun _ h' => h.size ≤ h'.size ∧ J N h'
theorem DsOk.chgL {Ds : List Nat} {h h' : Heap} {l : Nat} {rc : Loop} (hd : DsOk Ds h) (hl : h[l]? = some (.loop rc)) (hc : ChgB l h h') : DsOk Ds h' := fun D hD => (hc.block D fun e => by
  subst e
  have := hd D hD
  rw [hl] at this; cases this).trans (hd D hD)
theorem cel_loop {h h' : Heap} {l : Nat} {rc : Loop} (hc : ChgB l h h') (hl : h[l]? = some (.loop rc)) : Cel h h' := cel_of_chgB hc hl (by intro c t f e; cases e)
theorem nc_loop {h h' : Heap} {l : Nat} {rc : Loop} (hn : Nc h h') (hl : h[l]? = some (.loop rc)) : h'[l]? = some (.loop rc) := hn.2 l _ hl (by intro c t f e; cases e)

section
variable {P : Program} {S : Heap → Prop} {kd : Oper → Kd} {ops : Array Oper} {rest : List Oper} {K : Env → Heap → Prop} {L : List (Nat × Value)} {b : Env} {h : Heap}
variable {d : Nat} {t : TypeId} {p : String} {af : Array Edge} {g : Option (Nat × Bool)} {x : Operand}
/-- yield is called. -/
theorem lx_yield {args : Array Operand} {tys : Array TypeId} {l : Nat} {Ry : Heap → Prop} (vs : List Value) (hw : Region.wanted ⟨some d, .call { callee := .value x, args, argTypes := tys }, t, p, af, g⟩ (yieldE ops (ups L b)) = true) (hk : kd ⟨some d, .call { callee := .value x, args, argTypes := tys }, t, p, af, g⟩ = .eff)
    (hx : ev (ups L b) x = .func (.yield l) #[] #[]) (hv : args.toList.map (ev (ups L b)) = vs) (hy : YieldOk P l vs h Ry) (hS : ∀ h', S h → S h')
    (hn : ∀ h', Ry h' → Lx P S kd ops rest K (ups ((d, .bool true) :: L) b) h') : Lx P S kd ops (⟨some d, .call { callee := .value x, args, argTypes := tys }, t, p, af, g⟩ :: rest) K (ups L b) h :=
  lx_eff hw hk fun hSh w hh => by
    subst hh; subst hv
    obtain ⟨fn, tmps, assign, body, h1, h2⟩ := hy w rfl
    have e1 : args.map (ev (ups L b)) = (args.toList.map (ev (ups L b))).toArray := by rw [← Array.toList_map]
    have hrun : (execOp (ev (ups L b)) ⟨some d, .call { callee := .value x, args, argTypes := tys }, t, p, af, g⟩).run P w = .ok (.round l fn tmps assign body) w := by
      simp only [execOp, resolve, hx, Deferred.ofValue, invoke, Sem.run_bind, Sem.run_pure, Result.andThen_ok, e1, Array.append_empty, Array.empty_append, h1]
    rw [hrun]
    exact ⟨Qt.refl _, h2.mono fun x' w' ⟨a, b', c⟩ => ⟨_, a, b', hS _ hSh, hn _ c⟩⟩
end
end Go.X
