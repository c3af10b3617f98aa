/-
  Texts in one: XDisj, XRange, XPlain, XTab, OTypes, XOrd, OA, OB.
-/
import Derived.Test.YtdokijbdnajhgaaMBir1
import Derived.Below
import Derived.Test.YtdokijbdnajhgaaRows
import Derived.KernelRfl
set_option linter.unusedSimpArgs false
set_option linter.unusedVariables false
namespace Go.X
def Dj (v w : Value) : Prop := ∀ g, v.ownBlock = some g → w.ownBlock ≠ some g
section
variable {α β : Type} {E : Enc α} {E' : Enc β} {h h' : Heap} {B : Nat} {e e' : TypeId} {v w w' : Value} {xs : List α} {ys : List β} {bn : Nat} {cs : Array Value} {t : TypeId}
theorem Dj.symm (h : Dj v w) : Dj w v := fun g h1 h2 => h g h2 h1
theorem dj_nil_r (v : Value) : Dj v (.slice none 0 0) := fun g _ h2 => by cases h2
theorem dj_nil_l (v : Value) : Dj (.slice none 0 0) v := fun g h1 _ => by cases h1
theorem dj_new (ho : OwE E h B e v xs) (hn : OwE E' h' h.size e' w ys) : Dj v w := fun g h1 h2 => by
  have a := (ho.lt h1).2
  have b := (hn.lt h2).1
  omega
theorem dj_app (h0 : Dj v w) (ho : OwE E h B e v xs) (hg : ∀ g, w'.ownBlock = some g → w.ownBlock = some g ∨ h.size ≤ g) : Dj v w' := fun g h1 h2 => by
  rcases hg g h2 with h3 | h3
  · exact h0 g h1 h3
  · have a := (ho.lt h1).2; omega
theorem nb_new (hb : Blk h bn cs t) (hn : OwE E' h' h.size e' w ys) : w.ownBlock ≠ some bn := fun h2 => by
  have a := hb.lt
  have b := (hn.lt h2).1
  omega
theorem ChgB.owE (hx : ChgB bn h h') (ho : OwE E h B e v xs) (hne : v.ownBlock ≠ some bn) : OwE E h' B e v xs := hx.own ho hne
theorem nb_nil (bn : Nat) : (Value.slice none 0 0).ownBlock ≠ some bn := fun h => by cases h
end
section
variable {M : Mo} {P : Program} {n : Nat} {k : List Item} {R : Option Code → Env → Heap → Prop} {e : Env} {h : Heap}
/-- A cut behind one item; the item's own environment begins anew. -/
theorem wi_cutE {σ : Type} {it : Item} (W : Nat → Bool) (Ls : σ → List (Nat × Value)) (I : σ → Heap → Prop)
    (hw : (∀ (e' : Env) (h' : Heap) (s : σ), Agree W e e' → Has e' (Ls s) → I s h' → WpI M P n k R e' h') → WpI M P n (it :: k) R (ups [] e) h)
    (hk : ∀ (g : Env) (s : σ) (hh : Heap), I s hh → WpI M P n k R (ups (Ls s) (mixE W g e)) hh) : WpI M P n (it :: k) R e h :=
  wi_cut W Ls I hw hk
end
section
variable {P : Program} {S : Heap → Prop} {kd : Oper → Kd} {ops : Array Oper} {rest : List Oper} {K : Env → Heap → Prop} {L : List (Nat × Value)} {b : Env} {h : Heap}
variable {d : Nat} {t tx ty el : TypeId} {p : String} {af : Array Edge} {g : Option (Nat × Bool)} {x y : Operand} {a0 a1 b0 b1 : Int}
variable {α : Type} {E : Enc α} {v : Value} {xs : List α}
/-- A part of an element is read, in any heap of the class. -/
theorem lx_ldF [Inhabited α] {i j : Nat} (u : Value) (hw : Region.wanted ⟨some d, .load t x, ty, p, af, g⟩ (yieldE ops (ups L b)) = true) (hf : Flat P t) (hr : ∀ h', S h' → RdE E h' v xs) (hi : i < xs.length) (hj : (E.f (gt xs i))[j]? = some u) (hx : ev (ups L b) x = ptrAt v (i * E.k + j))
    (hn : Lx P S kd ops rest K (ups ((d, u) :: L) b) h) : Lx P S kd ops (⟨some d, .load t x, ty, p, af, g⟩ :: rest) K (ups L b) h :=
  lx_free u hw (fun w hh => by
    have hjk : j < E.k := by have := (List.getElem?_eq_some_iff.1 hj).1; rwa [E.len] at this
    obtain ⟨a, cap, rfl, _, _, h3⟩ := hr _ hh
    obtain ⟨ad, rfl, hc⟩ := h3 (i * E.k + j) u (by rw [flat_get E xs i j hi hjk]; exact hj)
    simp [execOp, hx, Instr.loadAt, Instr.sureAddr, ptrAt, run_load_flat hf hc]) hn
/-- A cell of a variable is read, in any heap of the class. -/
theorem lx_ldBF {bn o : Nat} {cs : Array Value} {te : TypeId} (u : Value) (hw : Region.wanted ⟨some d, .load t x, ty, p, af, g⟩ (yieldE ops (ups L b)) = true) (hf : Flat P t) (hb : ∀ h', S h' → Blk h' bn cs te) (hj : cs[o]? = some u) (hx : ev (ups L b) x = .pointer (some ⟨bn, o, none⟩))
    (hn : Lx P S kd ops rest K (ups ((d, u) :: L) b) h) : Lx P S kd ops (⟨some d, .load t x, ty, p, af, g⟩ :: rest) K (ups L b) h :=
  lx_free u hw (fun w hh => by
    have hc := (hb _ hh).cell o
    rw [hj] at hc
    simp [execOp, hx, Instr.loadAt, Instr.sureAddr, run_load_flat hf hc]) hn
end
end Go.X
namespace Go.X

/-- All that is no cells is as it was. -/
def Nc (h h' : Heap) : Prop := h.size ≤ h'.size ∧ ∀ (b : Nat) (o : Obj), h[b]? = some o → (∀ c t f, o ≠ .cells c t f) → h'[b]? = some o
/-- All cells are as they were. -/
def Cel (h h' : Heap) : Prop := h.size ≤ h'.size ∧ ∀ (b : Nat) (c : Array Value) (t : TypeId) (f : Nat × Nat), h[b]? = some (.cells c t f) → h'[b]? = some (.cells c t f)

theorem Nc.refl (h : Heap) : Nc h h := ⟨Nat.le_refl _, fun _ _ hb _ => hb⟩
theorem Nc.trans {a b c : Heap} (h : Nc a b) (k : Nc b c) : Nc a c := ⟨Nat.le_trans h.1 k.1, fun i o hi ho => k.2 i o (h.2 i o hi ho) ho⟩
theorem Nc.of_ext {h h' : Heap} (hx : Ext h.size h h') : Nc h h' := ⟨hx.size, fun b o hb _ => (hx.block b (Array.getElem?_eq_some_iff.1 hb).1).trans hb⟩
theorem Nc.of_chg {α : Type} {E : Enc α} {h h' : Heap} {v : Value} {B : Nat} {t : TypeId} {xs : List α} (hx : Chg v h h') (ho : OwE E h B t v xs) : Nc h h' :=
  ⟨hx.size, fun b o hb hn => (hx.block b (Array.getElem?_eq_some_iff.1 hb).1 fun e => by
    rcases ho.2 with ⟨rfl, _⟩ | ⟨g, cap, cur, rfl, _, hg, _⟩
    · cases e
    · simp only [Value.ownBlock, Option.some.injEq] at e
      subst e
      rw [hb] at hg
      exact hn _ _ _ (Option.some.inj hg)).trans hb⟩
theorem Nc.of_chgB {h h' : Heap} {bn : Nat} {cs : Array Value} {t : TypeId} (hx : ChgB bn h h') (hb : Blk h bn cs t) : Nc h h' :=
  ⟨Nat.le_of_eq hx.size.symm, fun b o ho hn => (hx.block b fun e => by
    subst e
    rw [show h[b]? = _ from hb] at ho
    exact hn _ _ _ (Option.some.inj ho).symm).trans ho⟩

theorem Cel.refl (h : Heap) : Cel h h := ⟨Nat.le_refl _, fun _ _ _ _ hb => hb⟩
theorem Cel.trans {a b c : Heap} (h : Cel a b) (k : Cel b c) : Cel a c := ⟨Nat.le_trans h.1 k.1, fun i c t f hi => k.2 i c t f (h.2 i c t f hi)⟩
theorem Cel.blk {h h' : Heap} (hx : Cel h h') {b : Nat} {cs : Array Value} {t : TypeId} (hb : Blk h b cs t) : Blk h' b cs t := hx.2 _ _ _ _ hb
theorem Cel.owE {α : Type} {E : Enc α} {h h' : Heap} (hx : Cel h h') {v : Value} {B : Nat} {t : TypeId} {xs : List α} (ho : OwE E h B t v xs) : OwE E h' B t v xs := by
  refine ⟨ho.1, ?_⟩
  rcases ho.2 with h1 | ⟨g, cap, cur, rfl, hB, hg, r⟩
  · exact .inl h1
  · exact .inr ⟨g, cap, cur, rfl, hB, hx.2 _ _ _ _ hg, r⟩
theorem Cel.cell {h h' : Heap} (hx : Cel h h') {a : Addr} {u : Value} (hc : cellA h a = some u) : cellA h' a = some u := by
  unfold cellA at *
  cases hb : h[a.block]? with
  | none => rw [hb] at hc; cases hc
  | some o =>
    rw [hb] at hc
    cases o with
    | cells c t f => rw [hx.2 _ _ _ _ hb]; exact hc
    | _ => cases hc
theorem Cel.rd {h h' : Heap} (hx : Cel h h') {v : Value} {n : Nat} {cs : List Value} (hr : Rd h v n cs) : Rd h' v n cs := by
  obtain ⟨a, cap, rfl, h1, h2, h3⟩ := hr
  refine ⟨a, cap, rfl, h1, h2, fun j u hj => ?_⟩
  obtain ⟨ad, rfl, hc⟩ := h3 j u hj
  exact ⟨ad, rfl, hx.cell hc⟩
theorem Cel.rdE {α : Type} {E : Enc α} {h h' : Heap} (hx : Cel h h') {v : Value} {xs : List α} (hr : RdE E h v xs) : RdE E h' v xs := hx.rd hr
theorem cel_of_chgB {h h' : Heap} {l : Nat} {o : Obj} (hx : ChgB l h h') (ho : h[l]? = some o) (hn : ∀ c t f, o ≠ .cells c t f) : Cel h h' :=
  ⟨Nat.le_of_eq hx.size.symm, fun b c t f hb => (hx.block b fun e => by
    subst e
    rw [hb] at ho
    exact hn _ _ _ (Option.some.inj ho).symm).trans hb⟩

/-- A mark among the deferred calls. -/
def markD (D : Nat) : Deferred := ⟨.collected D, #[]⟩
/-- The blocks of the marks: no call has been deferred in a round. -/
def DsOk (Ds : List Nat) (h : Heap) : Prop := ∀ D ∈ Ds, h[D]? = some (.deferred (some []))
theorem DsOk.nil (h : Heap) : DsOk [] h := fun D hD => by cases hD
theorem DsOk.nc {Ds : List Nat} {h h' : Heap} (hd : DsOk Ds h) (hx : Nc h h') : DsOk Ds h' := fun D hD => hx.2 D _ (hd D hD) (by intro c t f e; cases e)
theorem DsOk.cons {Ds : List Nat} {D : Nat} {h : Heap} (hD : h[D]? = some (.deferred (some []))) (hd : DsOk Ds h) : DsOk (D :: Ds) h := fun d hd' => by
  rw [List.mem_cons] at hd'
  rcases hd' with rfl | h1
  · exact hD
  · exact hd d h1

/-- What a loop's record says. -/
structure LoopOk (n : Nat) (e : Env) (ps : Array Tmp) (assign body : Code) (rc : Loop) : Prop where
  st : rc.state = .ready
  pe : rc.pending = none
  ps : rc.params = ps
  asg : rc.assign = assign
  bo : rc.body = body
  size : rc.tmps.size = n
  get : ∀ i, rc.tmps.getD i undef = e i

def updsA (e : Env) : List Tmp → List Value → Env
  | p :: ps, v :: vs => updsA (upd e p v) ps vs
  | _, _ => e

theorem fits_fold {n : Nat} : ∀ (ps : List Tmp) (vs : List Value) (e : Env) (t : Array Value), (∀ p ∈ ps, p < n) → t.size = n → (∀ i, t.getD i undef = e i) →
    ((ps.zip vs).foldl (fun t (p, v) => t.setIfInBounds p v) t).size = n ∧ ∀ i, ((ps.zip vs).foldl (fun t (p, v) => t.setIfInBounds p v) t).getD i undef = updsA e ps vs i
  | [], _, e, t, _, hs, hg => ⟨hs, hg⟩
  | p :: ps, [], e, t, _, hs, hg => ⟨hs, hg⟩
  | p :: ps, v :: vs, e, t, hp, hs, hg => by
    simp only [List.zip_cons_cons, List.foldl_cons, updsA]
    refine fits_fold ps vs (upd e p v) _ (fun q hq => hp q (List.mem_cons_of_mem _ hq)) (by simp [hs]) fun i => ?_
    have hlt : p < t.size := by rw [hs]; exact hp p (List.mem_cons_self ..)
    by_cases hi : i = p
    · subst hi
      rw [upd_same]
      simp [Array.getD_eq_getD_getElem?, hlt]
    · rw [upd_other _ _ hi, ← hg i]
      simp [Array.getD_eq_getD_getElem?, Array.getElem?_setIfInBounds_ne (Ne.symm hi)]

/-- A call of yield that answers true. -/
def YieldOk (P : Program) (l : Nat) (args : List Value) (h : Heap) (R : Heap → Prop) : Prop :=
  ∀ w : World, w.heap = h → ∃ fn tmps assign body, (Instr.yield l args.toArray).run P w = .ok (.round l fn tmps assign body) w ∧
    RoundIn Fence.wide 0 P l fn tmps assign body w (fun x w' => x = .returned (.bool true) ∧ Qt w w' ∧ R w'.heap)
theorem YieldOk.mono {P : Program} {l : Nat} {args : List Value} {h : Heap} {R R' : Heap → Prop} (hy : YieldOk P l args h R) (hm : ∀ h', R h' → R' h') : YieldOk P l args h R' := fun w hw => by
  obtain ⟨fn, tmps, assign, body, h1, h2⟩ := hy w hw
  exact ⟨fn, tmps, assign, body, h1, h2.mono fun x w' ⟨a, b, c⟩ => ⟨a, b, hm _ c⟩⟩

section
variable {P : Program} {n : Nat} {k : List Item} {R : Option Code → Env → Heap → Prop} {e : Env} {h : Heap}

theorem wi_begin {l : Nat} {rc : Loop} {ds : List Deferred} (hl : h[l]? = some (.loop rc)) (hr : rc.state = .ready) (hw : ∀ h2, ChgB l h h2 → h2[l]? = some (.loop { rc with state := .busy }) → WpI ⟨some l, ds⟩ P n k R e h2) :
    WpI ⟨some l, ds⟩ P n (.beginRound :: k) R e h := by
  intro b cs a w hro hf hh
  subst hh
  have hb := run_beginRound (P := P) hl hr
  have hlt : l < w.heap.size := (Array.getElem?_eq_some_iff.1 hl).1
  obtain ⟨j, e', a', w', fr, hf', hq, hR, hla, hs⟩ := hw _ ⟨World.putObj_size, fun i hi => World.putObj_heap_other hi⟩ (World.putObj_heap_same hlt) b cs a _ hro hf rfl
  exact ⟨j, e', a', w', fr, hf', ⟨hq.os, hq.tape, hq.output⟩, hR, hla, .head (stepR_beginRound hro hb) hs⟩

/-- A round. -/
theorem yield_ok {l : Nat} {rc : Loop} {ps : Array Tmp} {assign body : Code} {args : List Value} {Rh : Heap → Prop} (hL : LoopOk n e ps assign body rc) (hl : h[l]? = some (.loop rc)) (hs : args.length = ps.size) (hp : ∀ p ∈ ps.toList, p < n)
    (hw : WpI ⟨some l, []⟩ P n [.code assign, .beginRound, .code body] (fun j _ h' => j = none ∧ h'[l]? = some (.loop { rc with state := .busy }) ∧ ∀ h2, ChgB l h' h2 → h2[l]? = some (.loop rc) → Rh h2) (updsA e ps.toList args) h) : YieldOk P l args h Rh := by
  intro w hh
  subst hh
  obtain ⟨h1, h2, h3, h4, h5, h6, h7⟩ := hL
  subst h3; subst h4; subst h5
  refine ⟨_, _, _, _, run_yield hl (by simpa using hs), trivial, fun c cs _ => ?_⟩
  let b : Frame := { (default : Frame) with fn := rc.fn, kind := .normal, roundOf := some l }
  have hz : (rc.params.zip args.toArray).foldl (fun t (p, v) => t.setIfInBounds p v) rc.tmps = (rc.params.toList.zip args).foldl (fun t (p, v) => t.setIfInBounds p v) rc.tmps := by
    rw [← Array.foldl_toList]; simp
  obtain ⟨f1, f2⟩ := fits_fold rc.params.toList args e rc.tmps hp h6 h7
  have hb0 : Frame.round l rc.fn ((rc.params.zip args.toArray).foldl (fun tmps (t, a) => tmps.setIfInBounds t a) rc.tmps) rc.assign rc.body .normal =
      b.atR { tmps := (rc.params.toList.zip args).foldl (fun t (p, v) => t.setIfInBounds p v) rc.tmps, defers := [] } [.code rc.assign, .beginRound, .code rc.body] := by
    rw [hz]; simp [Frame.round, Frame.atR, b]
  obtain ⟨j, e', a', w', fr, hf', hq, ⟨rfl, hlb, hR⟩, hla, hst⟩ := hw b (c :: cs) { tmps := (rc.params.toList.zip args).foldl (fun t (p, v) => t.setIfInBounds p v) rc.tmps, defers := [] } w rfl ⟨rfl, f1, f2⟩ rfl
  obtain ⟨todo, rfl, rfl⟩ := hla
  rw [← hb0] at hst
  have hend := run_endRound (P := P) none hlb
  have hlt : l < w'.heap.size := (Array.getElem?_eq_some_iff.1 hlb).1
  have hrc : ({ ({ rc with state := .busy } : Loop) with state := (if (none : Option Code).isNone then .ready else .done), pending := none } : Loop) = rc := by
    cases rc; simp only at h1 h2; subst h1; subst h2; rfl
  rw [hrc] at hend
  refine ⟨.returned (.bool true), w'.putObj l (.loop rc), ⟨rfl, ⟨hq.os, hq.tape, hq.output⟩, hR _ ⟨World.putObj_size, fun i hi => World.putObj_heap_other hi⟩ (World.putObj_heap_same hlt)⟩, ?_⟩
  exact stepsIn_wide.2 (Steps.trans hst (.one (stepR_round_end rfl rfl hend)))

/-- The statement. -/
theorem wi_range {g : Operand} {ps : Array Tmp} {assign body : Code} {gf : Nat} {lb : List Value} {Ds : List Nat} (hcall : ∀ args w, (callFunc gf args).run P w = .ok (.enter gf args) w) (hg : ev e g = .func (.func gf) #[] lb.toArray)
    (hw : ∀ (l D : Nat) (h1 : Heap) (rc : Loop), h.size ≤ D → h.size ≤ l → D ≠ l → Ext h.size h h1 → h1[l]? = some (.loop rc) → h1[D]? = some (.deferred (some [])) → LoopOk n e ps assign body rc →
      Fx P gf (.func (.yield l) #[] #[] :: lb) h1 (fun _ h2 => h2[l]? = some (.loop rc) ∧ ∀ h3, ChgB l h2 h3 → WpI ⟨none, (D :: Ds).map markD⟩ P n k R e h3)) :
    WpI ⟨none, Ds.map markD⟩ P n (.code (.rangeFunc g ps assign body) :: k) R e h := by
  intro b cs a w hro hf hh
  subst hh
  obtain ⟨rc, hrc⟩ : ∃ rc : Loop, rc = { state := .ready, pending := none, fn := b.fn, tmps := a.tmps, params := ps, assign, body, defers := w.heap.size } := ⟨_, rfl⟩
  obtain ⟨W1, hW1⟩ : ∃ W1, (w.alloc (.deferred (some []))).alloc (.loop rc) = W1 := ⟨_, rfl⟩
  have hL1 : W1.heap[w.heap.size + 1]? = some (.loop rc) := by
    rw [← hW1]; have := World.alloc_heap_new (w.alloc (.deferred (some []))) (.loop rc); rwa [World.size_alloc] at this
  have hK1 : W1.heap[w.heap.size]? = some (.deferred (some [])) := by
    rw [← hW1]; show ((w.heap.push _).push _)[w.heap.size]? = _; rw [Array.getElem?_push, if_neg (by simp), Array.getElem?_push, if_pos rfl]
  have hX1 : Ext w.heap.size w.heap W1.heap := by
    rw [← hW1]
    exact (ext_push w.heap _).trans2 (ext_push _ _) (by simp)
  have hQ1 : Qt w W1 := by rw [← hW1]; exact ⟨rfl, rfl, rfl⟩
  have hF := hw (w.heap.size + 1) w.heap.size W1.heap rc (Nat.le_refl _) (by omega) (by omega) hX1 hL1 hK1 (by subst hrc; exact ⟨rfl, rfl, rfl, rfl, rfl, hf.size, hf.get⟩) W1 rfl
  have henter : (Instr.enterLoop b.fn a.tmps ps assign body b.roundOf).run P w = .ok (w.heap.size + 1, [markD w.heap.size]) W1 := by
    rw [hro, ← hW1, hrc]; exact run_enterLoop_outer _ _ _ _ _
  have hres : (resolve a.eval (rangeCall g (w.heap.size + 1)) 0).run P W1 = .ok { target := .fn (.func gf) lb.toArray, args := #[.func (.yield (w.heap.size + 1)) #[] #[]] } W1 := by
    have hg' : a.eval g = .func (.func gf) #[] lb.toArray := by rw [hf.ev]; exact hg
    simp only [resolve, hg']
    simp [go_sem]
  have hinv : (invoke (.fn (.func gf) lb.toArray) #[.func (.yield (w.heap.size + 1)) #[] #[]]).run P W1 = .ok (.enter gf (#[.func (.yield (w.heap.size + 1)) #[] #[]] ++ lb.toArray)) W1 := by
    simp [invoke, go_sem, hcall]
  have hst := stepR_rangeFunc (P := P) (b := b) (a := a) (k := k) (cs := cs) (w := w) henter hres hinv
  obtain ⟨x, w2, fr, ⟨v, rfl, hq2, hl2, hW⟩, hcomes, hfn, hleave⟩ := hF (b.atR { a with defers := [markD w.heap.size] ++ a.defers } (.inRangeFunc (w.heap.size + 1) :: k) :: cs)
  have hargs : (Value.func (.yield (w.heap.size + 1)) #[] #[] :: lb).toArray = #[.func (.yield (w.heap.size + 1)) #[] #[]] ++ lb.toArray := by simp
  rw [hargs] at hcomes
  have hend := run_endLoop (P := P) hl2 (by rw [hrc]; simp)
  have hpe : rc.pending = none := by rw [hrc]
  rw [hpe] at hend
  have hback := step_leave_returned (c := b.atR { a with defers := [markD w.heap.size] ++ a.defers } (.inRangeFunc (w.heap.size + 1) :: k)) (cs := cs) hleave
  rw [finish_atR_inRangeFunc] at hback
  have hst2 := stepR_endRangeFunc (b := b) (a := { a with defers := [markD w.heap.size] ++ a.defers }) (k := k) (cs := cs) hend
  obtain ⟨j, e', a', w', fr', hf', hq', hR', hla', hs'⟩ := hW _ ⟨World.putObj_size, fun i hi => World.putObj_heap_other hi⟩ b cs { a with defers := [markD w.heap.size] ++ a.defers } _ hro
    ⟨by simp [hf.defers], hf.size, hf.get⟩ rfl
  refine ⟨j, e', a', w', fr', hf', (hQ1.trans hq2).trans ⟨hq'.os, hq'.tape, hq'.output⟩, hR', hla', ?_⟩
  exact .head hst (Steps.trans hcomes (.head hback (.head hst2 hs')))

/-- The marks are come to at the return. -/
theorem steps_marks {b : Frame} {cs : List Frame} {tmps : Array Value} {todo : List Item} : ∀ (Ds : List Nat) (w : World), Ds.Nodup → DsOk Ds w.heap →
    ∃ w', Qt w w' ∧ Cel w.heap w'.heap ∧ w'.heap.size = w.heap.size ∧ (∀ i : Nat, i ∉ Ds → w'.heap[i]? = w.heap[i]?) ∧
      Steps P (lone { b.atR ⟨tmps, Ds.map markD⟩ todo with mode := .returning } cs w) (lone { b.atR ⟨tmps, []⟩ todo with mode := .returning } cs w')
  | [], w, _, _ => ⟨w, Qt.refl _, Cel.refl _, rfl, fun _ _ => rfl, .refl _ _⟩
  | D :: Ds, w, hnd, hd => by
    rw [List.nodup_cons] at hnd
    have hD := hd D (List.mem_cons_self ..)
    have hlt : D < w.heap.size := (Array.getElem?_eq_some_iff.1 hD).1
    have hk := run_takeDeferred (P := P) hD
    have hd2 : DsOk Ds (w.putObj D (.deferred none)).heap := fun d hd' => (World.putObj_heap_other (fun e => hnd.1 (by rw [← e]; exact hd'))).trans (hd d (List.mem_cons_of_mem _ hd'))
    obtain ⟨w', hq, hc, hsz, hb, hs⟩ := steps_marks Ds (w.putObj D (.deferred none)) hnd.2 hd2
    have h1 := step_collected (P := P) (fr := { b.atR ⟨tmps, (D :: Ds).map markD⟩ todo with mode := .returning }) (cs := cs) (w := w) (d := markD D) (r := D) (ds := Ds.map markD) (by simp) rfl rfl hk
    have hcb : ChgB D w.heap (w.putObj D (.deferred none)).heap := ⟨World.putObj_size, fun i hi => World.putObj_heap_other hi⟩
    refine ⟨w', ⟨hq.os, hq.tape, hq.output⟩, (cel_of_chgB hcb hD (by intro c t f e; cases e)).trans hc, hsz.trans World.putObj_size, fun i hi => ?_, .head h1 hs⟩
    rw [List.mem_cons, not_or] at hi
    rw [hb i hi.2]
    exact World.putObj_heap_other hi.1

/-- The return of a function that has ranged over functions. -/
theorem wi_retD {Ds : List Nat} (hnd : Ds.Nodup) (hd : DsOk Ds h) (hR : ∀ h2, Cel h h2 → h2.size = h.size → (∀ i : Nat, i ∉ Ds → h2[i]? = h[i]?) → R (some .ret) e h2) : WpI ⟨none, Ds.map markD⟩ P n (.code .ret :: k) R e h := by
  intro b cs a w hro hf hh
  subst hh
  obtain ⟨tmps, ds⟩ := a
  have hdf : ds = Ds.map markD := hf.defers
  subst hdf
  obtain ⟨w', hq, hc, hsz, hb, hs⟩ := steps_marks (P := P) (b := b) (cs := cs) (tmps := tmps) (todo := .code .ret :: k) Ds w hnd hd
  exact ⟨some .ret, e, ⟨tmps, []⟩, w', _, ⟨rfl, hf.size, hf.get⟩, hq, hR _ hc hsz hb, ⟨_, rfl⟩, .head (stepR_ret hro) hs⟩
theorem ext_marks2 {B : Nat} {Ds : List Nat} {h0 h h2 : Heap} (hx : Ext B h0 h) (hd : DsOk Ds h) (hD : ∀ D ∈ Ds, B ≤ D) (hsz : h2.size = h.size) (hb : ∀ i : Nat, i ∉ Ds → h2[i]? = h[i]?) : Ext B h0 h2 :=
  ⟨by have := hx.size; omega, fun i hi => (hb i fun hm => by have := hD i hm; omega).trans (hx.block i hi)⟩
/-- A loop whose rounds may leave marks: the marks go with the state. -/
theorem wi_loopD {σ : Type} {body : Code} (W : Nat → Bool) (Ls : σ → List (Nat × Value)) (Dl : σ → List Nat) (I : σ → Heap → Prop) (μ : σ → Nat) (s0 : σ) (hL : Has e (Ls s0)) (h0 : I s0 h)
    (round : ∀ (g : Env) (s : σ) (hh : Heap), I s hh →
      (∀ (e' : Env) (h' : Heap) (s' : σ), Agree W e e' → Has e' (Ls s') → I s' h' → μ s' < μ s → WpI ⟨none, (Dl s').map markD⟩ P n (.inLoop body :: k) R e' h') →
      WpI ⟨none, (Dl s).map markD⟩ P n (.code body :: .inLoop body :: k) R (ups (Ls s) (mixE W g e)) hh) :
    WpI ⟨none, (Dl s0).map markD⟩ P n (.code (.loop body) :: k) R e h := by
  have key : ∀ (m : Nat) (s : σ) (e1 : Env) (hh : Heap), μ s = m → Agree W e e1 → Has e1 (Ls s) → I s hh → WpI ⟨none, (Dl s).map markD⟩ P n (.code body :: .inLoop body :: k) R e1 hh := by
    intro m
    induction m using Nat.strongRecOn with
    | _ m ih =>
      intro s e1 hh hm ha hL1 hI
      have hr := round e1 s hh hI (fun e' h' s' ha' hL' hI' hlt => of_step (fun _ _ _ _ _ => stepR_inLoop) (ih (μ s') (hm ▸ hlt) s' e' h' rfl ha' hL' hI'))
      rwa [mix_agree ha, ups_has hL1] at hr
  exact of_step (fun _ _ _ _ _ => stepR_loop) (key _ s0 e h rfl (fun _ _ => rfl) hL h0)
end

/-! ### Contracts of functions that are ranged over -/

/-- What an iterator leaves alone: all but cells of its type, loops and marks. -/
def Keep (T : Nat) (o : Obj) : Prop := (∀ c f, o ≠ .cells c T f) ∧ (∀ d, o ≠ .deferred d) ∧ ∀ r, o ≠ .loop r
/-- All but cells of the type 'T', loops and marks below block 'N' is as it was. -/
def Qk (T N : Nat) (h h' : Heap) : Prop := h.size ≤ h'.size ∧ ∀ (b : Nat) (o : Obj), b < N → h[b]? = some o → Keep T o → h'[b]? = some o
theorem Qk.refl (T N : Nat) (h : Heap) : Qk T N h h := ⟨Nat.le_refl _, fun _ _ _ hb _ => hb⟩
theorem Qk.trans {T N : Nat} {a b c : Heap} (h : Qk T N a b) (k : Qk T N b c) : Qk T N a c := ⟨Nat.le_trans h.1 k.1, fun i o hi hb ho => k.2 i o hi (h.2 i o hi hb ho) ho⟩
theorem Qk.of_ext {T N : Nat} {h h' : Heap} (hx : Ext h.size h h') : Qk T N h h' := ⟨hx.size, fun b o _ hb _ => (hx.block b (Array.getElem?_eq_some_iff.1 hb).1).trans hb⟩
theorem Qk.of_loop {T N : Nat} {h h' : Heap} {l : Nat} {rc : Loop} (hx : ChgB l h h') (hl : h[l]? = some (.loop rc)) : Qk T N h h' :=
  ⟨Nat.le_of_eq hx.size.symm, fun b o _ ho hn => (hx.block b fun e => by
    subst e
    rw [hl] at ho
    exact hn.2.2 _ (Option.some.inj ho).symm).trans ho⟩
/-- All cells of the type 'T', and all marks, are as they were. -/
def Tk (T : Nat) (h h' : Heap) : Prop := h.size ≤ h'.size ∧ (∀ (b : Nat) (c : Array Value) (f : Nat × Nat), h[b]? = some (.cells c T f) → h'[b]? = some (.cells c T f)) ∧ ∀ (b : Nat) (d : Option (List Deferred)), h[b]? = some (.deferred d) → h'[b]? = some (.deferred d)
theorem Tk.refl (T : Nat) (h : Heap) : Tk T h h := ⟨Nat.le_refl _, fun _ _ _ hb => hb, fun _ _ hb => hb⟩
theorem Tk.trans {T : Nat} {a b c : Heap} (h : Tk T a b) (k : Tk T b c) : Tk T a c := ⟨Nat.le_trans h.1 k.1, fun i c f hb => k.2.1 i c f (h.2.1 i c f hb), fun i d hb => k.2.2 i d (h.2.2 i d hb)⟩
theorem Tk.of_ext {T : Nat} {h h' : Heap} (hx : Ext h.size h h') : Tk T h h' := ⟨hx.size, fun b c f hb => (hx.block b (Array.getElem?_eq_some_iff.1 hb).1).trans hb, fun b d hb => (hx.block b (Array.getElem?_eq_some_iff.1 hb).1).trans hb⟩
theorem Tk.of_chg {α : Type} {E : Enc α} {T : Nat} {h h' : Heap} {v : Value} {B : Nat} {t : TypeId} {xs : List α} (hx : Chg v h h') (ho : OwE E h B t v xs) (hne : t ≠ T) : Tk T h h' := by
  refine ⟨hx.size, fun b c f hb => (hx.block b (Array.getElem?_eq_some_iff.1 hb).1 fun e => ?_).trans hb, fun b d hb => (hx.block b (Array.getElem?_eq_some_iff.1 hb).1 fun e => ?_).trans hb⟩
  · rcases ho.2 with ⟨rfl, _⟩ | ⟨g, cap, cur, rfl, _, hg, _⟩
    · cases e
    · simp only [Value.ownBlock, Option.some.injEq] at e
      subst e
      rw [hb] at hg
      simp only [Option.some.injEq, Obj.cells.injEq] at hg
      exact hne hg.2.1.symm
  · rcases ho.2 with ⟨rfl, _⟩ | ⟨g, cap, cur, rfl, _, hg, _⟩
    · cases e
    · simp only [Value.ownBlock, Option.some.injEq] at e
      subst e
      rw [hb] at hg
      cases hg
theorem Tk.of_chgB {T : Nat} {h h' : Heap} {bn : Nat} {cs : Array Value} {t : TypeId} (hx : ChgB bn h h') (hb : Blk h bn cs t) (hne : t ≠ T) : Tk T h h' :=
  ⟨Nat.le_of_eq hx.size.symm, fun b c f ho => (hx.block b fun e => by
    subst e
    rw [show h[b]? = _ from hb] at ho
    simp only [Option.some.injEq, Obj.cells.injEq] at ho
    exact hne ho.2.1).trans ho, fun b d ho => (hx.block b fun e => by
    subst e
    rw [show h[b]? = _ from hb] at ho
    cases ho).trans ho⟩
theorem Tk.of_loop {T : Nat} {h h' : Heap} {l : Nat} {rc : Loop} (hx : ChgB l h h') (hl : h[l]? = some (.loop rc)) : Tk T h h' :=
  ⟨Nat.le_of_eq hx.size.symm, fun b c f ho => (hx.block b fun e => by subst e; rw [hl] at ho; cases ho).trans ho, fun b d ho => (hx.block b fun e => by subst e; rw [hl] at ho; cases ho).trans ho⟩
theorem Tk.blk {T : Nat} {h h' : Heap} {bn : Nat} {cs : Array Value} (hx : Tk T h h') (hb : Blk h bn cs T) : Blk h' bn cs T := hx.2.1 _ _ _ hb
theorem Tk.dso {T : Nat} {h h' : Heap} {Ds : List Nat} (hx : Tk T h h') (hd : DsOk Ds h) : DsOk Ds h' := fun D hD => hx.2.2 D _ (hd D hD)

/-- What the iterator leaves as it was, between two rounds. -/
def Quiet (T B0 : Nat) (h h' : Heap) : Prop := Ext B0 h h' ∧ Qk T h.size h h'
section
variable {T B0 : Nat} {h h' : Heap}
theorem Quiet.obj (hq : Quiet T B0 h h') {b : Nat} {o : Obj} (ho : h[b]? = some o) (hb : b < B0) : h'[b]? = some o := (hq.1.block b hb).trans ho
theorem Quiet.blk (hq : Quiet T B0 h h') {b : Nat} {cs : Array Value} {t : TypeId} (hb : Blk h b cs t) (hne : t ≠ T) : Blk h' b cs t :=
  hq.2.2 b _ hb.lt hb ⟨fun c f e => by simp only [Obj.cells.injEq] at e; exact hne e.2.1, ⟨fun d e => (by cases e), fun r e => (by cases e)⟩⟩
theorem Quiet.owE {α : Type} {E : Enc α} (hq : Quiet T B0 h h') {v : Value} {B : Nat} {t : TypeId} {xs : List α} (ho : OwE E h B t v xs) (hne : t ≠ T) : OwE E h' B t v xs := by
  refine ⟨ho.1, ?_⟩
  rcases ho.2 with h1 | ⟨g, cap, cur, rfl, hB, hg, r⟩
  · exact .inl h1
  · exact .inr ⟨g, cap, cur, rfl, hB, hq.2.2 g _ (Array.getElem?_eq_some_iff.1 hg).1 hg ⟨fun c f e => by simp only [Obj.cells.injEq] at e; exact hne e.2.1, ⟨fun d e => (by cases e), fun r e => (by cases e)⟩⟩, r⟩
theorem Quiet.dso (hq : Quiet T B0 h h') {Ds : List Nat} (hd : DsOk Ds h) (hb : ∀ d ∈ Ds, d < B0) : DsOk Ds h' := fun D hD => hq.obj (hd D hD) (hb D hD)
theorem Quiet.ext (hq : Quiet T B0 h h') {B : Nat} {h0 : Heap} (hx : Ext B h0 h) (hB : B ≤ B0) : Ext B h0 h' := hx.trans (hq.1.mono hB)
end

/-- What is known between rounds, 'k' of which have been. -/
def JS (T B0 : Nat) (J : Nat → Heap → Prop) : Prop := ∀ k h1 h2, J k h1 → Quiet T B0 h1 h2 → J k h2
/-- The rounds' word. -/
def Yields (P : Program) (l T : Nat) (args : Nat → List Value) (N : Nat) (J : Nat → Heap → Prop) : Prop :=
  ∀ k h1, k < N → J k h1 → YieldOk P l (args k) h1 fun h2 => Tk T h1 h2 ∧ J (k + 1) h2
/-- A function that is ranged over: it yields 'args 0', 'args 1', .. as long as 'Cap' holds of what it has captured; it keeps its own state in cells of the type 'T'. -/
def SeqC (P : Program) (gf : Nat) (lb : List Value) (T : Nat) (Cap : Heap → Prop) (N : Nat) (args : Nat → List Value) : Prop :=
  ∀ (l : Nat) (h : Heap) (J : Nat → Heap → Prop), JS T h.size J → (∀ k h1, J k h1 → Cap h1) → Yields P l T args N J → J 0 h →
    Fx P gf (.func (.yield l) #[] #[] :: lb) h fun _ h' => h.size ≤ h'.size ∧ J N h'
theorem DsOk.chgL {Ds : List Nat} {h h' : Heap} {l : Nat} {rc : Loop} (hd : DsOk Ds h) (hl : h[l]? = some (.loop rc)) (hc : ChgB l h h') : DsOk Ds h' := fun D hD => (hc.block D fun e => by
  subst e
  have := hd D hD
  rw [hl] at this; cases this).trans (hd D hD)
theorem cel_loop {h h' : Heap} {l : Nat} {rc : Loop} (hc : ChgB l h h') (hl : h[l]? = some (.loop rc)) : Cel h h' := cel_of_chgB hc hl (by intro c t f e; cases e)
theorem nc_loop {h h' : Heap} {l : Nat} {rc : Loop} (hn : Nc h h') (hl : h[l]? = some (.loop rc)) : h'[l]? = some (.loop rc) := hn.2 l _ hl (by intro c t f e; cases e)

section
variable {P : Program} {S : Heap → Prop} {kd : Oper → Kd} {ops : Array Oper} {rest : List Oper} {K : Env → Heap → Prop} {L : List (Nat × Value)} {b : Env} {h : Heap}
variable {d : Nat} {t : TypeId} {p : String} {af : Array Edge} {g : Option (Nat × Bool)} {x : Operand}
/-- yield is called. -/
theorem lx_yield {args : Array Operand} {tys : Array TypeId} {l : Nat} {Ry : Heap → Prop} (vs : List Value) (hw : Region.wanted ⟨some d, .call { callee := .value x, args, argTypes := tys }, t, p, af, g⟩ (yieldE ops (ups L b)) = true) (hk : kd ⟨some d, .call { callee := .value x, args, argTypes := tys }, t, p, af, g⟩ = .eff)
    (hx : ev (ups L b) x = .func (.yield l) #[] #[]) (hv : args.toList.map (ev (ups L b)) = vs) (hy : YieldOk P l vs h Ry) (hS : ∀ h', S h → S h')
    (hn : ∀ h', Ry h' → Lx P S kd ops rest K (ups ((d, .bool true) :: L) b) h') : Lx P S kd ops (⟨some d, .call { callee := .value x, args, argTypes := tys }, t, p, af, g⟩ :: rest) K (ups L b) h :=
  lx_eff hw hk fun hSh w hh => by
    subst hh; subst hv
    obtain ⟨fn, tmps, assign, body, h1, h2⟩ := hy w rfl
    have e1 : args.map (ev (ups L b)) = (args.toList.map (ev (ups L b))).toArray := by rw [← Array.toList_map]
    have hrun : (execOp (ev (ups L b)) ⟨some d, .call { callee := .value x, args, argTypes := tys }, t, p, af, g⟩).run P w = .ok (.round l fn tmps assign body) w := by
      simp only [execOp, resolve, hx, Deferred.ofValue, invoke, Sem.run_bind, Sem.run_pure, Result.andThen_ok, e1, Array.append_empty, Array.empty_append, h1]
    rw [hrun]
    exact ⟨Qt.refl _, h2.mono fun x' w' ⟨a, b', c⟩ => ⟨_, a, b', hS _ hSh, hn _ c⟩⟩
end
end Go.X
namespace Go.X
theorem gt_ext {α : Type} [Inhabited α] {xs ys : List α} (hl : xs.length = ys.length) (h : ∀ j, j < xs.length → gt xs j = gt ys j) : xs = ys := by
  apply List.ext_getElem hl
  intro i h1 h2
  have := h i h1
  rwa [gt_eq h1, gt_eq h2] at this
theorem gt_set {α : Type} [Inhabited α] {xs : List α} {i j : Nat} {x : α} (hi : i < xs.length) : gt (xs.set i x) j = if j = i then x else gt xs j := by
  unfold gt
  simp only [List.getD_eq_getElem?_getD, List.getElem?_set]
  by_cases h : i = j
  · subst h; simp [hi]
  · rw [if_neg h, if_neg (fun e => h e.symm)]
theorem gt_append_left {α : Type} [Inhabited α] {xs ys : List α} {i : Nat} (hi : i < xs.length) : gt (xs ++ ys) i = gt xs i := by
  simp [gt, List.getElem?_append_left hi]
theorem gt_append_right {α : Type} [Inhabited α] {xs : List α} {y : α} : gt (xs ++ [y]) xs.length = y := by
  simp [gt]
theorem gt_replicate {α : Type} [Inhabited α] {n i : Nat} {a : α} (hi : i < n) : gt (List.replicate n a) i = a := by
  rw [gt_eq (by simpa using hi)]; simp
theorem gt_mem {α : Type} [Inhabited α] {xs : List α} {i : Nat} (hi : i < xs.length) : gt xs i ∈ xs := by rw [gt_eq hi]; exact List.getElem_mem hi
theorem mem_gt {α : Type} [Inhabited α] {xs : List α} {x : α} (h : x ∈ xs) : ∃ i, i < xs.length ∧ gt xs i = x := by
  obtain ⟨i, hi, he⟩ := List.getElem_of_mem h
  exact ⟨i, hi, by rw [gt_eq hi, he]⟩

/-- The elements 'i' and 'j' exchanged. -/
def swp (xs : List Int) (i j : Nat) : List Int := (xs.set i (gt xs j)).set j (gt xs i)
theorem swp_length (xs : List Int) (i j : Nat) : (swp xs i j).length = xs.length := by simp [swp]
theorem gt_swp {xs : List Int} {i j : Nat} (hi : i < xs.length) (hj : j < xs.length) (k : Nat) : gt (swp xs i j) k = if k = j then gt xs i else if k = i then gt xs j else gt xs k := by
  unfold swp
  rw [gt_set (by simpa using hj), gt_set hi]
/-- The elements 'i' and 'j' put in order. -/
def exch (xs : List Int) (i j : Nat) : List Int := if gt xs j < gt xs i then swp xs i j else xs
theorem exch_length (xs : List Int) (i j : Nat) : (exch xs i j).length = xs.length := by unfold exch; split <;> simp [swp_length]

end Go.X
namespace Go.X
/-- A slice's header. -/
structure Hdr where
  a : Option Addr
  n : Nat
  c : Nat
def Hdr.v (x : Hdr) : Value := .slice x.a x.n x.c
instance : Inhabited Hdr := ⟨⟨none, 0, 0⟩⟩
def hdrOf : Value → Hdr
  | .slice a n c => ⟨a, n, c⟩
  | _ => default
def encHd : Enc Hdr := ⟨1, fun x => [.slice x.a x.n x.c], fun _ => rfl, fun _ _ hu => by simp at hu; subst hu; rfl, Nat.one_pos⟩
theorem hdr_rd {h : Heap} {v : Value} {n : Nat} {cs : List Value} (hr : Rd h v n cs) : (hdrOf v).v = v := by
  obtain ⟨a, cap, rfl, _⟩ := hr; rfl
theorem hdr_cells {h : Heap} {v : Value} {n : Nat} {cs : List Value} (hr : Rd h v n cs) : v.cells.toList = encHd.f (hdrOf v) := by
  obtain ⟨a, cap, rfl, _⟩ := hr; rfl
theorem hdr_cells1 {h : Heap} {v : Value} {n : Nat} {cs : List Value} (hr : Rd h v n cs) : [v].map (fun u => u.cells.toList) = [hdrOf v].map encHd.f := by
  obtain ⟨a, cap, rfl, _⟩ := hr; rfl
section
variable {α β : Type} {E : Enc α} {E' : Enc β} {h h' : Heap} {B B' : Nat} {e e' e2 : TypeId} {v w w' : Value} {xs ws : List α} {ys : List β} {bn : Nat} {cs : Array Value} {t : TypeId} {hs : List Hdr} {rows : List (List α)} {i : Nat}

/-- Things of our own whose cells are of different types lie apart. -/
theorem dj_ty (ho : OwE E h B e v xs) (ho' : OwE E' h B' e' w ys) (hne : e ≠ e') : Dj v w := by
  rcases ho.2 with ⟨rfl, _⟩ | ⟨g, cap, cur, rfl, _, hg, _⟩
  · exact dj_nil_l _
  · rcases ho'.2 with ⟨rfl, _⟩ | ⟨g', cap', cur', rfl, _, hg', _⟩
    · exact dj_nil_r _
    · intro k h1 h2
      simp only [Value.ownBlock, Option.some.injEq] at h1 h2
      subst h1; subst h2
      rw [hg] at hg'
      simp only [Option.some.injEq, Obj.cells.injEq] at hg'
      exact hne hg'.2.1
theorem nb_ty (ho : OwE E h B e v xs) (hb : Blk h bn cs t) (hne : e ≠ t) : v.ownBlock ≠ some bn := by
  rcases ho.2 with ⟨rfl, _⟩ | ⟨g, cap, cur, rfl, _, hg, _⟩
  · exact nb_nil _
  · intro h1
    simp only [Value.ownBlock, Option.some.injEq] at h1
    subst h1
    rw [show h[g]? = _ from hb] at hg
    simp only [Option.some.injEq, Obj.cells.injEq] at hg
    exact hne hg.2.1.symm

/-- A table that reads as rows. -/
def RT (E : Enc α) (h : Heap) (hs : List Hdr) (rows : List (List α)) : Prop := hs.length = rows.length ∧ ∀ i, i < rows.length → RdE E h (gt hs i).v (gt rows i)
theorem RT.ext (hr : RT E h hs rows) {B : Nat} (hx : Ext B h h') (hB : h.size ≤ B) : RT E h' hs rows := ⟨hr.1, fun i hi => (hr.2 i hi).ext hx hB⟩
theorem RT.extS (hr : RT E h hs rows) (hx : Ext h.size h h') : RT E h' hs rows := hr.ext hx (Nat.le_refl _)
theorem RT.cel (hr : RT E h hs rows) (hx : Cel h h') : RT E h' hs rows := ⟨hr.1, fun i hi => hx.rdE (hr.2 i hi)⟩

/-- A table whose rows are our own, each apart from the others. -/
def OT (E : Enc α) (h : Heap) (B : Nat) (e2 : TypeId) (hs : List Hdr) (rows : List (List α)) : Prop :=
  hs.length = rows.length ∧ (∀ i, i < rows.length → OwE E h B e2 (gt hs i).v (gt rows i)) ∧ (∀ i j, i < j → j < rows.length → Dj (gt hs i).v (gt hs j).v)
theorem OT.rt (ho : OT E h B e2 hs rows) : RT E h hs rows := ⟨ho.1, fun i hi => (ho.2.1 i hi).rd⟩
theorem OT.extS (ho : OT E h B e2 hs rows) (hx : Ext h.size h h') : OT E h' B e2 hs rows := ⟨ho.1, fun i hi => (ho.2.1 i hi).extS hx, ho.2.2⟩
theorem OT.cel (ho : OT E h B e2 hs rows) (hx : Cel h h') : OT E h' B e2 hs rows := ⟨ho.1, fun i hi => hx.owE (ho.2.1 i hi), ho.2.2⟩
theorem OT.base (ho : OT E h B e2 hs rows) (hB : B' ≤ B) : OT E h B' e2 hs rows := ⟨ho.1, fun i hi => (ho.2.1 i hi).base hB, ho.2.2⟩
theorem Quiet.ot {T B0 : Nat} (hq : Quiet T B0 h h') (ho : OT E h B e2 hs rows) (hne : e2 ≠ T) : OT E h' B e2 hs rows := ⟨ho.1, fun i hi => hq.owE (ho.2.1 i hi) hne, ho.2.2⟩
/-- All rows lie apart from a slice. -/
def Djt (hs : List Hdr) (w : Value) : Prop := ∀ i, i < hs.length → Dj (gt hs i).v w
def Nbt (hs : List Hdr) (bn : Nat) : Prop := ∀ i, i < hs.length → (gt hs i).v.ownBlock ≠ some bn
theorem OT.chg (ho : OT E h B e2 hs rows) (hx : Chg w h h') (hd : Djt hs w) : OT E h' B e2 hs rows := ⟨ho.1, fun i hi => (ho.2.1 i hi).chg hx (hd i (by rw [ho.1]; exact hi)), ho.2.2⟩
theorem OT.chgB (ho : OT E h B e2 hs rows) (hx : ChgB bn h h') (hd : Nbt hs bn) : OT E h' B e2 hs rows := ⟨ho.1, fun i hi => hx.owE (ho.2.1 i hi) (hd i (by rw [ho.1]; exact hi)), ho.2.2⟩
theorem OT.nil (E : Enc α) (h : Heap) (B : Nat) (e2 : TypeId) : OT E h B e2 [] [] := ⟨rfl, fun i hi => by simp at hi, fun i j _ hj => by simp at hj⟩
theorem OT.rep (E : Enc α) (h : Heap) (B : Nat) (e2 : TypeId) (n : Nat) : OT E h B e2 (List.replicate n default) (List.replicate n []) :=
  ⟨by simp, fun i hi => by
    simp only [List.length_replicate] at hi
    rw [gt_replicate hi, gt_replicate hi]; exact owE_nil E h B e2, fun i j hij hj => by
    simp only [List.length_replicate] at hj
    rw [gt_replicate hj]; exact dj_nil_r _⟩
theorem djt_ty (ho : OT E h B e2 hs rows) (ho' : OwE E' h B' e' w ys) (hne : e2 ≠ e') : Djt hs w := fun i hi => dj_ty (ho.2.1 i (by rw [← ho.1]; exact hi)) ho' hne
theorem nbt_ty (ho : OT E h B e2 hs rows) (hb : Blk h bn cs t) (hne : e2 ≠ t) : Nbt hs bn := fun i hi => nb_ty (ho.2.1 i (by rw [← ho.1]; exact hi)) hb hne
theorem nbt_new (ho : OT E h B e2 hs rows) (hb : h.size ≤ bn) : Nbt hs bn := fun i hi h1 => by
  have := ((ho.2.1 i (by rw [← ho.1]; exact hi)).lt h1).2
  omega
theorem djt_new (ho : OT E h B e2 hs rows) (hn : OwE E' h' h.size e' w ys) : Djt hs w := fun i hi => dj_new (ho.2.1 i (by rw [← ho.1]; exact hi)) hn
theorem djt_app (h0 : Djt hs w) (ho : OT E h B e2 hs rows) (hg : ∀ g, w'.ownBlock = some g → w.ownBlock = some g ∨ h.size ≤ g) : Djt hs w' := fun i hi => dj_app (h0 i hi) (ho.2.1 i (by rw [← ho.1]; exact hi)) hg
theorem djt_nil (hs : List Hdr) : Djt hs (.slice none 0 0) := fun i hi => dj_nil_r _
theorem nbt_set (h0 : Nbt hs bn) (hr : (hdrOf w').v = w') (hd : w'.ownBlock ≠ some bn) : Nbt (hs.set i (hdrOf w')) bn := fun j hj => by
  simp only [List.length_set] at hj
  by_cases c : i < hs.length
  · rw [gt_set c]
    split
    · rw [hr]; exact hd
    · exact h0 j hj
  · rw [List.set_eq_of_length_le (by omega)]; exact h0 j hj
/-- One more row. -/
theorem OT.snoc (ho : OT E h B e2 hs rows) (hw : OwE E h B e2 w ws) (hd : Djt hs w) : OT E h B e2 (hs ++ [hdrOf w]) (rows ++ [ws]) := by
  obtain ⟨h1, h2, h3⟩ := ho
  have hr := hdr_rd hw.rd
  refine ⟨by simp [h1], fun i hi => ?_, fun i j hij hj => ?_⟩
  · simp only [List.length_append, List.length_cons, List.length_nil] at hi
    by_cases c : i < rows.length
    · rw [gt_append_left c, gt_append_left (by omega)]; exact h2 i c
    · have e1 : i = rows.length := by omega
      subst e1
      rw [gt_append_right, ← h1, gt_append_right, hr]; exact hw
  · simp only [List.length_append, List.length_cons, List.length_nil] at hj
    rw [gt_append_left (by omega : i < hs.length)]
    by_cases c : j < rows.length
    · rw [gt_append_left (by omega)]; exact h3 i j hij c
    · have e1 : j = hs.length := by omega
      subst e1
      rw [gt_append_right, hr]; exact hd i (by omega)
/-- A row is put into its place. -/
theorem OT.set (ho : OT E h B e2 hs rows) (hi : i < rows.length) (hw : OwE E h B e2 w ws) (hd : ∀ j, j < hs.length → j ≠ i → Dj (gt hs j).v w) : OT E h B e2 (hs.set i (hdrOf w)) (rows.set i ws) := by
  obtain ⟨h1, h2, h3⟩ := ho
  have hr := hdr_rd hw.rd
  refine ⟨by simp [h1], fun j hj => ?_, fun j k hjk hk => ?_⟩
  · simp only [List.length_set] at hj
    rw [gt_set (by omega), gt_set hi]
    split
    · rw [hr]; exact hw
    · exact h2 j hj
  · simp only [List.length_set] at hk
    rw [gt_set (by omega), gt_set (by omega)]
    by_cases c1 : j = i
    · rw [if_pos c1, if_neg (by omega), hr]; exact (hd k (by omega) (by omega)).symm
    · rw [if_neg c1]
      by_cases c2 : k = i
      · rw [if_pos c2, hr]; exact hd j (by omega) c1
      · rw [if_neg c2]; exact h3 j k hjk hk
/-- A row's cells have turned. -/
theorem OT.cell (ho : OT E h B e2 hs rows) (hi : i < rows.length) (hc : Chg (gt hs i).v h h') (hw : OwE E h' B e2 (gt hs i).v ws) : OT E h' B e2 hs (rows.set i ws) := by
  obtain ⟨h1, h2, h3⟩ := ho
  refine ⟨by simp [h1], fun j hj => ?_, fun j k hjk hk => h3 j k hjk (by simpa using hk)⟩
  simp only [List.length_set] at hj
  rw [gt_set hi]
  split
  · rename_i e1; subst e1; exact hw
  · rename_i e1
    refine (h2 j hj).chg hc ?_
    rcases Nat.lt_or_gt_of_ne e1 with c | c
    · exact h3 j i c hi
    · exact (h3 i j c hj).symm
/-- A row has grown. -/
theorem OT.app (ho : OT E h B e2 hs rows) (hi : i < rows.length) (hc : Chg (gt hs i).v h h') (hw : OwE E h' B e2 w ws) (hg : ∀ g, w.ownBlock = some g → (gt hs i).v.ownBlock = some g ∨ h.size ≤ g) : OT E h' B e2 (hs.set i (hdrOf w)) (rows.set i ws) := by
  obtain ⟨h1, h2, h3⟩ := ho
  have hr := hdr_rd hw.rd
  have hne : ∀ j, j < rows.length → j ≠ i → Dj (gt hs j).v (gt hs i).v := fun j hj hji => by
    rcases Nat.lt_or_gt_of_ne hji with c | c
    · exact h3 j i c hi
    · exact (h3 i j c hj).symm
  have hd : ∀ j, j < rows.length → j ≠ i → Dj (gt hs j).v w := fun j hj hji => dj_app (hne j hj hji) (h2 j hj) hg
  refine ⟨by simp [h1], fun j hj => ?_, fun j k hjk hk => ?_⟩
  · simp only [List.length_set] at hj
    rw [gt_set (by omega), gt_set hi]
    split
    · rw [hr]; exact hw
    · rename_i c; exact (h2 j hj).chg hc (hne j hj c)
  · simp only [List.length_set] at hk
    rw [gt_set (by omega), gt_set (by omega)]
    by_cases c1 : j = i
    · rw [if_pos c1, if_neg (by omega), hr]; exact (hd k hk (by omega)).symm
    · rw [if_neg c1]
      by_cases c2 : k = i
      · rw [if_pos c2, hr]; exact hd j (by omega) c1
      · rw [if_neg c2]; exact h3 j k hjk hk
theorem djt_ne (h0 : Djt hs w) : ∀ j, j < hs.length → j ≠ i → Dj (gt hs j).v w := fun j hj _ => h0 j hj
end
end Go.X
namespace Go.Proofs.Ytdokijbdnajhgaa
open Go Go.X

theorem mo : Try.prog.follows .mixedOrders = true := by decide +kernel

theorem fl2 : Flat Try.prog 2 := Try.isAgg2

theorem fl3 : Flat Try.prog 3 := Try.isAgg3

theorem fl4 : Flat Try.prog 4 := Try.isAgg4

theorem eI22 : (Try.prog.info? 85).map (fun i => (i.zero, i.size, i.bytes)) = some (some (.agg #[.int .i64 0, .int .i64 0]), 2, 16) := by kernel_rfl

theorem eT22 : ElemT Try.prog 22 85 2 16 := elemT Try.underlying22 eI22 rfl

theorem eI23 : (Try.prog.info? 70).map (fun i => (i.zero, i.size, i.bytes)) = some (some (.slice none 0 0), 1, 24) := by kernel_rfl

theorem eT23 : ElemT Try.prog 23 70 1 24 := elemT Try.underlying23 eI23 rfl

theorem eI25 : (Try.prog.info? 3).map (fun i => (i.zero, i.size, i.bytes)) = some (some (.int .i64 0), 1, 8) := by kernel_rfl

theorem eT25 : ElemT Try.prog 25 3 1 8 := elemT Try.underlying25 eI25 rfl

theorem eZ25 : ∃ i z, Try.prog.info? 3 = some i ∧ i.zero = some z ∧ i.size = 1 ∧ i.bytes = 8 ∧ z.cells.toList = [.int .i64 0] := by obtain ⟨i, h1, h2, h3, h4⟩ := info_parts eI25; exact ⟨i, _, h1, h2, h3, h4, rfl⟩

theorem fl25 : Flat Try.prog 25 := Try.isAgg25

theorem eI29 : (Try.prog.info? 70).map (fun i => (i.zero, i.size, i.bytes)) = some (some (.slice none 0 0), 1, 24) := by kernel_rfl

theorem eT29 : ElemT Try.prog 29 70 1 24 := elemT Try.underlying29 eI29 rfl

theorem eZ29 : ∃ i z, Try.prog.info? 70 = some i ∧ i.zero = some z ∧ i.size = 1 ∧ i.bytes = 24 ∧ z.cells.toList = [.slice none 0 0] := by obtain ⟨i, h1, h2, h3, h4⟩ := info_parts eI29; exact ⟨i, _, h1, h2, h3, h4, rfl⟩

theorem fl29 : Flat Try.prog 29 := Try.isAgg29

theorem wd48 : Wide Try.prog 48 5 := ⟨Try.isAgg48, Try.sizeOf48⟩

theorem eI49 : (Try.prog.info? 25).map (fun i => (i.zero, i.size, i.bytes)) = some (some (.slice none 0 0), 1, 24) := by kernel_rfl

theorem eT49 : ElemT Try.prog 49 25 1 24 := elemT Try.underlying49 eI49 rfl

theorem eZ49 : ∃ i z, Try.prog.info? 25 = some i ∧ i.zero = some z ∧ i.size = 1 ∧ i.bytes = 24 ∧ z.cells.toList = [.slice none 0 0] := by obtain ⟨i, h1, h2, h3, h4⟩ := info_parts eI49; exact ⟨i, _, h1, h2, h3, h4, rfl⟩

theorem fl49 : Flat Try.prog 49 := Try.isAgg49

theorem eI58 : (Try.prog.info? 2).map (fun i => (i.zero, i.size, i.bytes)) = some (some (.int .i64 0), 1, 8) := by kernel_rfl

theorem eT58 : ElemT Try.prog 58 2 1 8 := elemT Try.underlying58 eI58 rfl

theorem eZ58 : ∃ i z, Try.prog.info? 2 = some i ∧ i.zero = some z ∧ i.size = 1 ∧ i.bytes = 8 ∧ z.cells.toList = [.int .i64 0] := by obtain ⟨i, h1, h2, h3, h4⟩ := info_parts eI58; exact ⟨i, _, h1, h2, h3, h4, rfl⟩

theorem fl58 : Flat Try.prog 58 := Try.isAgg58

theorem eI70 : (Try.prog.info? 4).map (fun i => (i.zero, i.size, i.bytes)) = some (some (.bool false), 1, 1) := by kernel_rfl

theorem eT70 : ElemT Try.prog 70 4 1 1 := elemT Try.underlying70 eI70 rfl

theorem eZ70 : ∃ i z, Try.prog.info? 4 = some i ∧ i.zero = some z ∧ i.size = 1 ∧ i.bytes = 1 ∧ z.cells.toList = [.bool false] := by obtain ⟨i, h1, h2, h3, h4⟩ := info_parts eI70; exact ⟨i, _, h1, h2, h3, h4, rfl⟩

theorem fl70 : Flat Try.prog 70 := Try.isAgg70

theorem wd85 : Wide Try.prog 85 2 := ⟨Try.isAgg85, Try.sizeOf85⟩

theorem bld85_2 (x y : Int) (w : World) : (Instr.build 85 #[(0, .int .i64 x), (1, .int .i64 y)]).run Try.prog w = .ok (.agg #[.int .i64 x, .int .i64 y]) w := bld2 Try.underlying85 Try.zeroValue85 Try.sizeOf3 x y w

theorem fl111 : Flat Try.prog 111 := Try.isAgg111

theorem wd119 : Wide Try.prog 119 2 := ⟨Try.isAgg119, Try.sizeOf119⟩

end Go.Proofs.Ytdokijbdnajhgaa
namespace Go.X
abbrev pb (p : List (List Bool)) (x y : Nat) : Bool := gt (gt p x) y
def Sq (p : List (List Bool)) (n : Nat) : Prop := p.length = n ∧ ∀ i, i < n → (gt p i).length = n
def rowF (n : Nat) (g : Nat → Bool) : List Bool := (List.range n).map g
def tabF (n : Nat) (f : Nat → Nat → Bool) : List (List Bool) := (List.range n).map fun x => rowF n (f x)
theorem rowF_length (n : Nat) (g : Nat → Bool) : (rowF n g).length = n := by simp [rowF]
theorem gt_rowF {n j : Nat} {g : Nat → Bool} (h : j < n) : gt (rowF n g) j = g j := by rw [gt_eq (by rw [rowF_length]; exact h)]; simp [rowF]
theorem tabF_length (n : Nat) (f : Nat → Nat → Bool) : (tabF n f).length = n := by simp [tabF]
theorem gt_tabF {n x : Nat} {f : Nat → Nat → Bool} (h : x < n) : gt (tabF n f) x = rowF n (f x) := by rw [gt_eq (by rw [tabF_length]; exact h)]; simp [tabF]
theorem tabF_sq (n : Nat) (f : Nat → Nat → Bool) : Sq (tabF n f) n := ⟨tabF_length n f, fun i hi => by rw [gt_tabF hi, rowF_length]⟩
theorem pb_tabF {n x y : Nat} {f : Nat → Nat → Bool} (hx : x < n) (hy : y < n) : pb (tabF n f) x y = f x y := by
  show gt (gt (tabF n f) x) y = _
  rw [gt_tabF hx, gt_rowF hy]
theorem row_ext {n : Nat} {g : Nat → Bool} {r : List Bool} (hl : r.length = n) (h : ∀ j, j < n → gt r j = g j) : r = rowF n g :=
  gt_ext (by rw [hl, rowF_length]) fun j hj => by rw [gt_rowF (by omega)]; exact h j (by omega)
theorem tab_ext {n : Nat} {f : Nat → Nat → Bool} {p : List (List Bool)} (hs : Sq p n) (h : ∀ x y, x < n → y < n → pb p x y = f x y) : p = tabF n f :=
  gt_ext (by rw [hs.1, tabF_length]) fun x hx => by
    rw [hs.1] at hx
    rw [gt_tabF hx]
    exact row_ext (hs.2 x hx) fun y hy => h x y hx hy
theorem tab_rows {n : Nat} {f : Nat → Nat → Bool} {p : List (List Bool)} (hl : p.length = n) (h : ∀ i, i < n → gt p i = rowF n (f i)) : p = tabF n f :=
  gt_ext (by rw [hl, tabF_length]) fun x hx => by rw [gt_tabF (by omega)]; exact h x (by omega)
theorem tabF_congr {n : Nat} {f g : Nat → Nat → Bool} (h : ∀ x y, x < n → y < n → f x y = g x y) : tabF n f = tabF n g :=
  tab_ext (tabF_sq n f) fun x y hx hy => by rw [pb_tabF hx hy]; exact h x y hx hy
theorem sq_self {p : List (List Bool)} {n : Nat} (hs : Sq p n) : p = tabF n (pb p) := tab_ext hs fun _ _ _ _ => rfl
theorem sq_set {p : List (List Bool)} {n x z : Nat} {b : Bool} (hs : Sq p n) (hx : x < n) : Sq (p.set x ((gt p x).set z b)) n := ⟨by rw [List.length_set]; exact hs.1, fun i hi => by
  rw [gt_set (by rw [hs.1]; exact hx)]
  split
  · rw [List.length_set]; exact hs.2 x hx
  · exact hs.2 i hi⟩
theorem pb_set {p : List (List Bool)} {n x z a c : Nat} {b : Bool} (hs : Sq p n) (hx : x < n) (hz : z < n) : pb (p.set x ((gt p x).set z b)) a c = if a = x ∧ c = z then b else pb p a c := by
  show gt (gt _ a) c = _
  rw [gt_set (by rw [hs.1]; exact hx)]
  by_cases h1 : a = x
  · subst h1
    rw [if_pos rfl, gt_set (by rw [hs.2 a hx]; exact hz)]
    by_cases h2 : c = z
    · rw [if_pos h2, if_pos ⟨rfl, h2⟩]
    · rw [if_neg h2, if_neg (fun h => h2 h.2)]
  · rw [if_neg h1, if_neg (fun h => h1 h.1)]
theorem id_row {n x : Nat} (hx : x < n) : (List.replicate n false).set x true = rowF n fun j => decide (x = j) :=
  row_ext (by simp) fun j hj => by
    rw [gt_set (by simpa using hx), gt_replicate hj]
    by_cases h : j = x
    · subst h; simp
    · rw [if_neg h]; symm; simp; omega

/-! ### What an order is -/
def okP (n : Nat) (f : Nat → Nat → Bool) (x y : Nat) : Prop := (x = y → f x y = true) ∧ (x ≠ y → f x y = true → f y x = false) ∧ ∀ z, z < n → f x y = true → f y z = true → f x z = true
def IsO (n : Nat) (f : Nat → Nat → Bool) : Prop := ∀ x y, x < n → y < n → okP n f x y
theorem IsO.refl {n : Nat} {f : Nat → Nat → Bool} (h : IsO n f) {x : Nat} (hx : x < n) : f x x = true := (h x x hx hx).1 rfl
theorem IsO.anti {n : Nat} {f : Nat → Nat → Bool} (h : IsO n f) {x y : Nat} (hx : x < n) (hy : y < n) (h1 : f x y = true) (h2 : f y x = true) : x = y :=
  Classical.byContradiction fun hne => by have := (h x y hx hy).2.1 hne h1; rw [h2] at this; cases this
theorem IsO.trans {n : Nat} {f : Nat → Nat → Bool} (h : IsO n f) {x y z : Nat} (hx : x < n) (hy : y < n) (hz : z < n) (h1 : f x y = true) (h2 : f y z = true) : f x z = true := (h x y hx hy).2.2 z hz h1 h2
theorem isO_mk {n : Nat} {f : Nat → Nat → Bool} (h1 : ∀ x, x < n → f x x = true) (h2 : ∀ x y, x < n → y < n → f x y = true → f y x = true → x = y) (h3 : ∀ x y z, x < n → y < n → z < n → f x y = true → f y z = true → f x z = true) : IsO n f := fun x y hx hy =>
  ⟨fun e => by subst e; exact h1 x hx, fun hne h => by
    cases hf : f y x
    · rfl
    · exact absurd (h2 x y hx hy h hf) hne, fun z hz a b => h3 x y z hx hy hz a b⟩
theorem IsO.congr {n : Nat} {f g : Nat → Nat → Bool} (h : IsO n f) (he : ∀ x y, x < n → y < n → f x y = g x y) : IsO n g :=
  isO_mk (fun x hx => by rw [← he x x hx hx]; exact h.refl hx) (fun x y hx hy a b => h.anti hx hy (by rw [he x y hx hy]; exact a) (by rw [he y x hy hx]; exact b))
    (fun x y z hx hy hz a b => by rw [← he x z hx hz]; exact h.trans hx hy hz (by rw [he x y hx hy]; exact a) (by rw [he y z hy hz]; exact b))
def ordB (n : Nat) (f : Nat → Nat → Bool) : Bool := (List.range n).all fun x => (List.range n).all fun y =>
  (!decide (x = y) || f x y) && (decide (x = y) || !f x y || !f y x) && (List.range n).all fun z => !f x y || !f y z || f x z
theorem ordB_iff {n : Nat} {f : Nat → Nat → Bool} : ordB n f = true ↔ IsO n f := by
  unfold ordB IsO
  constructor
  · intro h x y hx hy
    have h1 := List.all_eq_true.1 (List.all_eq_true.1 h x (List.mem_range.2 hx)) y (List.mem_range.2 hy)
    simp only [Bool.and_eq_true, List.all_eq_true, List.mem_range] at h1
    obtain ⟨⟨h2, h3⟩, h4⟩ := h1
    refine ⟨fun e => by simpa [e] using h2, fun hne a => ?_, fun z hz a b => ?_⟩
    · have : decide (x = y) = false := decide_eq_false hne
      rw [this, a] at h3; simpa using h3
    · have := h4 z hz
      rw [a, b] at this; simpa using this
  · intro h
    rw [List.all_eq_true]
    intro x hx
    rw [List.all_eq_true]
    intro y hy
    rw [List.mem_range] at hx hy
    obtain ⟨h1, h2, h3⟩ := h x y hx hy
    simp only [Bool.and_eq_true, List.all_eq_true, List.mem_range]
    refine ⟨⟨?_, ?_⟩, fun z hz => ?_⟩
    · by_cases e : x = y
      · rw [h1 e]; simp
      · simp [e]
    · by_cases e : x = y
      · simp [e]
      · cases a : f x y
        · simp
        · rw [h2 e a]; simp
    · cases a : f x y
      · simp
      · cases b : f y z
        · simp
        · rw [h3 z hz a b]; simp
def sqB (p : List (List Bool)) : Bool := (List.range p.length).all fun i => decide ((gt p i).length = p.length)
theorem sqB_iff {p : List (List Bool)} : sqB p = true ↔ Sq p p.length := by
  unfold sqB Sq
  rw [List.all_eq_true]
  exact ⟨fun h => ⟨rfl, fun i hi => by simpa using h i (List.mem_range.2 hi)⟩, fun h i hi => by simpa using h.2 i (List.mem_range.1 hi)⟩
def isT (p : List (List Bool)) : Bool := sqB p && ordB p.length (pb p)
theorem isT_iff {p : List (List Bool)} : isT p = true ↔ Sq p p.length ∧ IsO p.length (pb p) := by
  unfold isT
  rw [Bool.and_eq_true, sqB_iff, ordB_iff]
theorem isT_sq {p : List (List Bool)} (h : isT p = true) : Sq p p.length := (isT_iff.1 h).1
theorem isT_o {p : List (List Bool)} (h : isT p = true) : IsO p.length (pb p) := (isT_iff.1 h).2
theorem isT_tabF {n : Nat} {f : Nat → Nat → Bool} (h : IsO n f) : isT (tabF n f) = true := by
  rw [isT_iff, tabF_length]
  exact ⟨tabF_sq n f, h.congr fun x y hx hy => (pb_tabF hx hy).symm⟩
theorem ntb {b : Bool} (h : b = false) : ¬ (b = true) := by rw [h]; simp
theorem nbf {b : Bool} (h : (!b) = false) : b = true := by simpa using h
theorem nbt {b : Bool} (h : (!b) = true) : b = false := by simpa using h
theorem bad_tri {n x y z : Nat} {f : Nat → Nat → Bool} (hz : z < n) (h1 : f x y = true) (h2 : f y z = true) (h3 : f x z = false) : ¬ okP n f x y := fun o => ntb h3 (o.2.2 z hz h1 h2)
theorem bad_refl {n x y : Nat} {f : Nat → Nat → Bool} (e : x = y) (h : f x y = false) : ¬ okP n f x y := fun o => ntb h (o.1 e)
theorem bad_anti {n x y : Nat} {f : Nat → Nat → Bool} (e : x ≠ y) (h1 : f x y = true) (h2 : f y x = true) : ¬ okP n f x y := fun o => ntb (o.2.1 e h1) h2
/-- What Check answers. -/
def chkT (p : List (List Bool)) : Int := if p.length < 1 ∨ 12 < p.length then 90 else if isT p then 0 else 90
theorem chkT_ok {p : List (List Bool)} (h : chkT p = 0) : 1 ≤ p.length ∧ p.length ≤ 12 ∧ isT p = true := by
  unfold chkT at h
  split at h
  · cases h
  · split at h
    · rename_i h1 h2; exact ⟨by omega, by omega, h2⟩
    · cases h
theorem ok_chkT {p : List (List Bool)} (h1 : 1 ≤ p.length) (h2 : p.length ≤ 12) (h : isT p = true) : chkT p = 0 := by
  unfold chkT; rw [if_neg (by omega), if_pos h]
theorem chkT_size {p : List (List Bool)} (h : p.length < 1 ∨ 12 < p.length) : chkT p = 90 := if_pos h
theorem chkT_bad {p : List (List Bool)} (h : isT p = false) : chkT p = 90 := by
  unfold chkT
  split
  · rfl
  · rw [h]; rfl
theorem not_isT {p : List (List Bool)} (h : ¬ (Sq p p.length ∧ IsO p.length (pb p))) : isT p = false := by
  rw [Bool.eq_false_iff]; exact fun h' => h (isT_iff.1 h')
theorem bad_sq {p : List (List Bool)} {i : Nat} (hi : i < p.length) (h : (gt p i).length ≠ p.length) : isT p = false := not_isT fun h' => h (h'.1.2 i hi)
theorem bad_ok {p : List (List Bool)} {x y : Nat} (hx : x < p.length) (hy : y < p.length) (h : ¬ okP p.length (pb p) x y) : isT p = false := not_isT fun h' => h (h'.2 x y hx hy)
theorem chkT_cases (p : List (List Bool)) : chkT p = 0 ∨ chkT p = 90 := by
  unfold chkT; split
  · exact .inr rfl
  · split
    · exact .inl rfl
    · exact .inr rfl

/-! ### The closure of pairs -/
def warY (W : Nat → Nat → Bool) (y x z : Nat) : Bool := W x z || (W x y && W y z)
def warN (W : Nat → Nat → Bool) : Nat → Nat → Nat → Bool
  | 0 => W
  | k + 1 => warY (warN W k) k
theorem warY_col (W : Nat → Nat → Bool) (y x : Nat) : warY W y x y = W x y := by unfold warY; cases W x y <;> simp
theorem warY_row (W : Nat → Nat → Bool) (y z : Nat) : warY W y y z = W y z := by unfold warY; cases W y z <;> simp
/-- Within the pass of 'y', as far as the row 'x' and the place 'z'. -/
def warS (W : Nat → Nat → Bool) (y x z a c : Nat) : Bool := if a < x ∨ (a = x ∧ c < z) then warY W y a c else W a c
theorem warS_zero (W : Nat → Nat → Bool) (y a c : Nat) : warS W y 0 0 a c = W a c := by unfold warS; rw [if_neg (by omega)]
theorem warS_next (W : Nat → Nat → Bool) {y n x a c : Nat} (hc : c < n) : warS W y x n a c = warS W y (x + 1) 0 a c := by
  unfold warS
  by_cases h : a < x ∨ (a = x ∧ c < n)
  · rw [if_pos h, if_pos (by omega)]
  · rw [if_neg h, if_neg (by omega)]
theorem warS_end (W : Nat → Nat → Bool) {y n a c : Nat} (ha : a < n) : warS W y n 0 a c = warY W y a c := by unfold warS; rw [if_pos (.inl ha)]
theorem warS_xz (W : Nat → Nat → Bool) (y x z : Nat) : warS W y x z x z = W x z := by unfold warS; rw [if_neg (by omega)]
theorem warS_xy (W : Nat → Nat → Bool) (y x z a : Nat) : warS W y x z a y = W a y := by unfold warS; split; exact warY_col W y a; rfl
theorem warS_yz (W : Nat → Nat → Bool) (y x z c : Nat) : warS W y x z y c = W y c := by unfold warS; split; exact warY_row W y c; rfl
theorem warS_step {W : Nat → Nat → Bool} {y n x z : Nat} {r : List (List Bool)} {b : Bool} (hs : Sq r n) (hx : x < n) (hz : z < n) (hr : ∀ a c, a < n → c < n → pb r a c = warS W y x z a c) (hb : b = warY W y x z) :
    ∀ a c, a < n → c < n → pb (r.set x ((gt r x).set z b)) a c = warS W y x (z + 1) a c := fun a c ha hc => by
  rw [pb_set hs hx hz, hr a c ha hc]
  unfold warS
  by_cases h : a = x ∧ c = z
  · rw [if_pos h, if_pos (by omega), hb, h.1, h.2]
  · rw [if_neg h]
    by_cases h2 : a < x ∨ (a = x ∧ c < z)
    · rw [if_pos h2, if_pos (by omega)]
    · rw [if_neg h2, if_neg (by omega)]
/-- The value that is stored. -/
theorem warS_val {W : Nat → Nat → Bool} {y n x z : Nat} {r : List (List Bool)} (hx : x < n) (hy : y < n) (hz : z < n) (hr : ∀ a c, a < n → c < n → pb r a c = warS W y x z a c) :
    warY W y x z = (pb r x z || (pb r x y && pb r y z)) := by
  rw [hr x z hx hz, hr x y hx hy, hr y z hy hz, warS_xz, warS_xy, warS_yz]; rfl
theorem or_t {a b c : Bool} (h : a = true) : true = (a || (b && c)) := by rw [h]; rfl
theorem or_f {a b c : Bool} (h : a = false) (hb : b = false) : false = (a || (b && c)) := by rw [h, hb]; rfl
theorem or_v {a b c : Bool} (h : a = false) (hb : b = true) : c = (a || (b && c)) := by rw [h, hb]; rfl
theorem warN_trans (W : Nat → Nat → Bool) : ∀ k y, y < k → ∀ x z, warN W k x y = true → warN W k y z = true → warN W k x z = true
  | 0, y, h => absurd h (by omega)
  | k + 1, y, h => fun x z h1 h2 => by
    have ih := warN_trans W k
    show warY (warN W k) k x z = true
    have h1 : warY (warN W k) k x y = true := h1
    have h2 : warY (warN W k) k y z = true := h2
    by_cases e : y = k
    · subst e
      rw [warY_col] at h1; rw [warY_row] at h2
      unfold warY; rw [h1, h2]; simp
    · have hy : y < k := by omega
      unfold warY at h1 h2 ⊢
      rw [Bool.or_eq_true, Bool.and_eq_true] at h1 h2 ⊢
      rcases h1 with h1 | ⟨h1, h1'⟩ <;> rcases h2 with h2 | ⟨h2, h2'⟩
      · exact .inl (ih y hy x z h1 h2)
      · exact .inr ⟨ih y hy x k h1 h2, h2'⟩
      · exact .inr ⟨h1, ih y hy k z h1' h2⟩
      · exact .inr ⟨h1, h2'⟩
theorem warN_le (W : Nat → Nat → Bool) : ∀ k x z, W x z = true → warN W k x z = true
  | 0, _, _, h => h
  | k + 1, x, z, h => by show warY _ _ _ _ = true; unfold warY; rw [warN_le W k x z h]; rfl
theorem warN_in {W : Nat → Nat → Bool} {R : Nat → Nat → Prop} (ht : ∀ x y z, R x y → R y z → R x z) (h0 : ∀ x z, W x z = true → R x z) : ∀ k x z, warN W k x z = true → R x z
  | 0, x, z, h => h0 x z h
  | k + 1, x, z, h => by
    have h : warY (warN W k) k x z = true := h
    unfold warY at h
    rw [Bool.or_eq_true, Bool.and_eq_true] at h
    rcases h with h | ⟨h1, h2⟩
    · exact warN_in ht h0 k x z h
    · exact ht x k z (warN_in ht h0 k x k h1) (warN_in ht h0 k k z h2)
/-- The pairs, with all elements at most themselves. -/
def pairW (ls : List (Int × Int)) (k : Nat) (x y : Nat) : Bool := decide (x = y) || (ls.take k).any fun c => decide (c.1 = (x : Int) ∧ c.2 = (y : Int))
theorem pairW_zero (ls : List (Int × Int)) (x y : Nat) : pairW ls 0 x y = decide (x = y) := by simp [pairW]
theorem pairW_succ {ls : List (Int × Int)} {k : Nat} (hk : k < ls.length) (x y : Nat) : pairW ls (k + 1) x y = (pairW ls k x y || decide ((gt ls k).1 = (x : Int) ∧ (gt ls k).2 = (y : Int))) := by
  unfold pairW
  rw [show ls.take (k + 1) = ls.take k ++ [gt ls k] from by rw [List.take_add_one, gt_some hk]; rfl, List.any_append, Bool.or_assoc]
  simp
def closW (n : Nat) (ls : List (Int × Int)) : Nat → Nat → Bool := warN (pairW ls ls.length) n
theorem pairW_iff {ls : List (Int × Int)} {x y : Nat} : pairW ls ls.length x y = true ↔ x = y ∨ ((x : Int), (y : Int)) ∈ ls := by
  unfold pairW
  rw [List.take_length, Bool.or_eq_true, List.any_eq_true, decide_eq_true_iff]
  constructor
  · rintro (h | ⟨c, hc, h⟩)
    · exact .inl h
    · have := of_decide_eq_true h
      exact .inr (by rw [← this.1, ← this.2]; exact hc)
  · rintro (h | h)
    · exact .inl h
    · exact .inr ⟨_, h, by simp⟩
/-- A closure of pairs along which a rank rises is an order. -/
theorem clos_order {n : Nat} {ls : List (Int × Int)} (rk : Nat → Nat) (hi : ∀ x y, x < n → y < n → rk x = rk y → x = y) (hr : ∀ x y : Nat, ((x : Int), (y : Int)) ∈ ls → rk x ≤ rk y) : IsO n (closW n ls) := by
  have hle : ∀ x y, closW n ls x y = true → rk x ≤ rk y := warN_in (R := fun x y => rk x ≤ rk y) (fun _ _ _ => Nat.le_trans) (fun x z h => by
    rcases pairW_iff.1 h with h | h
    · rw [h]; exact Nat.le_refl _
    · exact hr x z h) n
  exact isO_mk (fun x hx => warN_le _ _ _ _ (pairW_iff.2 (.inl rfl))) (fun x y hx hy a b => hi x y hx hy (Nat.le_antisymm (hle x y a) (hle y x b)))
    (fun x y z hx hy hz a b => warN_trans _ n y hy x z a b)
def inR (n : Int) (c : Int × Int) : Bool := decide (0 ≤ c.1 ∧ 0 ≤ c.2 ∧ c.1 < n ∧ c.2 < n)
theorem inR_iff {n : Int} {c : Int × Int} : inR n c = true ↔ 0 ≤ c.1 ∧ 0 ≤ c.2 ∧ c.1 < n ∧ c.2 < n := by simp [inR]
/-- What Closure answers. -/
def closE (n : Int) (ls : List (Int × Int)) : Int := if n < 1 ∨ 12 < n then 1 else if ls.all (inR n) then (if ordB n.toNat (closW n.toNat ls) then 0 else 90) else 1
theorem closE_size {n : Int} {ls : List (Int × Int)} (h : n < 1 ∨ 12 < n) : closE n ls = 1 := if_pos h
theorem closE_out {n : Int} {ls : List (Int × Int)} {i : Nat} (hi : i < ls.length) (h : ¬ (0 ≤ (gt ls i).1 ∧ 0 ≤ (gt ls i).2 ∧ (gt ls i).1 < n ∧ (gt ls i).2 < n)) : closE n ls = 1 := by
  unfold closE
  split
  · rfl
  · rw [if_neg]
    intro h9
    exact h (inR_iff.1 (List.all_eq_true.1 h9 _ (gt_mem hi)))
theorem all_inR {n : Int} {ls : List (Int × Int)} (h : ∀ i, i < ls.length → inR n (gt ls i) = true) : ls.all (inR n) = true := by
  rw [List.all_eq_true]
  intro c hc
  obtain ⟨i, hi, rfl⟩ := mem_gt hc
  exact h i hi
theorem closE_ok {m : Nat} {ls : List (Int × Int)} (h1 : 1 ≤ m) (h2 : m ≤ 12) (h : ∀ i, i < ls.length → inR m (gt ls i) = true) : closE m ls = if ordB m (closW m ls) then 0 else 90 := by
  unfold closE
  rw [if_neg (by omega), if_pos (all_inR h), Int.toNat_natCast]
theorem chkT_tabF {m : Nat} {f : Nat → Nat → Bool} (h1 : 1 ≤ m) (h2 : m ≤ 12) : chkT (tabF m f) = if ordB m f then 0 else 90 := by
  have hs : sqB (tabF m f) = true := sqB_iff.2 (by rw [tabF_length]; exact tabF_sq m f)
  have ho : ordB m (pb (tabF m f)) = ordB m f := by
    rw [Bool.eq_iff_iff, ordB_iff, ordB_iff]
    exact ⟨fun h => h.congr fun x y hx hy => pb_tabF hx hy, fun h => h.congr fun x y hx hy => (pb_tabF hx hy).symm⟩
  unfold chkT isT
  rw [tabF_length, if_neg (by omega), hs, ho]
  rfl
theorem pairW_step {ls : List (Int × Int)} {p : List (List Bool)} {m k a b : Nat} (hk : k < ls.length) (hs : Sq p m) (ha : a < m) (hb : b < m) (hg : gt ls k = ((a : Int), (b : Int))) (hp : ∀ x y, x < m → y < m → pb p x y = pairW ls k x y) :
    ∀ x y, x < m → y < m → pb (p.set a ((gt p a).set b true)) x y = pairW ls (k + 1) x y := fun x y hx hy => by
  rw [pb_set hs ha hb, pairW_succ hk, hg, hp x y hx hy]
  by_cases h : x = a ∧ y = b
  · rw [if_pos h, h.1, h.2]; simp
  · rw [if_neg h, decide_eq_false (by dsimp only; omega)]; simp
theorem warN_congr {V W : Nat → Nat → Bool} {n : Nat} (h : ∀ x y, x < n → y < n → V x y = W x y) : ∀ k, k ≤ n → ∀ x y, x < n → y < n → warN V k x y = warN W k x y
  | 0, _, x, y, hx, hy => h x y hx hy
  | k + 1, hk, x, y, hx, hy => by
    have ih := warN_congr h k (by omega)
    show warY _ _ _ _ = warY _ _ _ _
    unfold warY
    rw [ih x y hx hy, ih x k hx (by omega), ih k y (by omega) hy]
theorem clos_tab {ls : List (Int × Int)} {p : List (List Bool)} {m k : Nat} (hs : Sq p m) (hk : k = ls.length) (hp : ∀ x y, x < m → y < m → pb p x y = pairW ls k x y) : tabF p.length (warN (pb p) p.length) = tabF m (closW m ls) := by
  rw [hs.1]
  subst hk
  exact tabF_congr (warN_congr hp m (Nat.le_refl m))
theorem isT_tab {m : Nat} {f : Nat → Nat → Bool} {r : List (List Bool)} (h : r = tabF m f) : isT r = ordB m f := by
  subst h
  have hs : sqB (tabF m f) = true := sqB_iff.2 (by rw [tabF_length]; exact tabF_sq m f)
  have ho : ordB m (pb (tabF m f)) = ordB m f := by
    rw [Bool.eq_iff_iff, ordB_iff, ordB_iff]
    exact ⟨fun h => h.congr fun x y hx hy => pb_tabF hx hy, fun h => h.congr fun x y hx hy => (pb_tabF hx hy).symm⟩
  unfold isT
  rw [hs, tabF_length, ho]; rfl
end Go.X
namespace Go.Proofs.Ytdokijbdnajhgaa
open Go Go.X

set_option maxRecDepth 10000 in
theorem ochk1_spec (h : Heap) (vr : Value) (xs : List Bool) (vp : Value) (hs : List Hdr) (p : List (List Bool)) (bx : Nat) (hb_bx : Blk h bx (#[vp]) 29) (hr_vp : RdE encHd h vp hs) (ht_vp : RT encB h hs p) (hr_vr : RdE encB h vr xs) (hp1 : xs.length ≤ 4611686018427387904) : Fx Try.prog 114 [vr, .pointer (some ⟨bx, 0, none⟩)] h (fun v h' => v = .bool (decide (((xs.length : Nat) : Int) ≠ ((hs.length : Nat) : Int))) ∧ h = h') := by
  have hl_vp := ht_vp.1
  refine fx_intro (n := 9) [(0, vr), (1, .pointer (some ⟨bx, 0, none⟩))] Try.func114 rfl rfl (by simp) ⟨rfl, rfl, trivial⟩ fun g0 => ?_
  refine wi_seq <| wi_reg rfl <| lx_assign (.bool false) rfl rfl <| lx_nil <| wi_seq <| wi_reg rfl <| lx_move (vr) rfl rfl <| lx_len rfl Try.underlying70 hr_vr rfl <| lx_ldB (vp) rfl rfl fl29 hb_bx rfl rfl <| lx_len rfl Try.underlying29 hr_vp rfl <| lx_neq rfl rfl rfl <| lx_assign (.bool (decide (((xs.length : Nat) : Int) ≠ ((hs.length : Nat) : Int)))) rfl rfl <| lx_nil <| ?_
  -- R1
  refine wi_ret ⟨.bool (decide (((xs.length : Nat) : Int) ≠ ((hs.length : Nat) : Int))), (res_one rfl rfl), ⟨rfl, rfl⟩⟩

set_option maxRecDepth 10000 in
theorem oindex_spec (h : Heap) (vp : Value) (hs : List Hdr) (p : List (List Bool)) (bx : Nat) (hb_bx : Blk h bx (#[vp]) 29) (hr_vp : RdE encHd h vp hs) (ht_vp : RT encB h hs p) (hp1 : p.length ≤ 1000000) (hp2 : ∀ i, i < p.length → (gt p i).length ≤ 1000000) : Fx Try.prog 146 [vp, .func (.func 114) #[] #[.pointer (some ⟨bx, 0, none⟩)]] h (fun v h' => ∃ (r : Int), v = .int .i64 r ∧ ((r = -1 ∧ ∀ i, i < p.length → (gt p i).length = p.length) ∨ (0 ≤ r ∧ ∃ i, i < p.length ∧ (gt p i).length ≠ p.length)) ∧ h = h') := by
  have hl_vp := ht_vp.1
  refine fx_intro (n := 19) [(0, vp), (1, .func (.func 114) #[] #[.pointer (some ⟨bx, 0, none⟩)])] Try.func146 rfl rfl (by simp) ⟨rfl, rfl, trivial⟩ fun g0 => ?_
  refine wi_seq <| wi_reg rfl <| lx_assign (.int .i64 0) rfl rfl <| lx_nil <| wi_seq <| wi_seq <| wi_reg rfl <| lx_move (vp) rfl rfl <| lx_len rfl Try.underlying29 hr_vp rfl <| lx_move (.int .i64 0) rfl rfl <| lx_nil <| wi_block <| ?_
  refine wi_loop (σ := Nat) (rngB 8 19 [4, 5]) (fun (i : Nat) => [(8, .int .i64 ((i : Nat) : Int))]) (fun (i : Nat) (hh : Heap) => h = hh ∧ (i ≤ p.length) ∧ (∀ j, j < i → (gt p j).length = p.length)) (fun (i : Nat) => p.length - i) 0 ⟨rfl, trivial⟩ ⟨rfl, ?_, ?_⟩ ?_
  · try dsimp only
    omega
  · try dsimp only
    intro j hj; omega
  rintro g1 i hh1 ⟨rfl, hi, he⟩ IH1
  refine wi_seq <| wi_reg rfl <| lx_lssS rfl rfl rfl (fun c1 => ?_) (fun c1 => ?_)
  · refine lx_nil <| wi_seq <| wi_true rfl <| wi_skip <| wi_seq <| wi_block <| wi_seq <| wi_reg rfl <| lx_move (.int .i64 ((i : Nat) : Int)) rfl rfl <| lx_assign (.int .i64 ((i : Nat) : Int)) rfl rfl <| lx_nil <| wi_seq <| wi_reg rfl <| ?_
    have hgl := hp2 i (by omega)
    refine lx_move (.func (.func 114) #[] #[.pointer (some ⟨bx, 0, none⟩)]) rfl rfl <| lx_move (vp) rfl rfl <| lx_move (.int .i64 ((i : Nat) : Int)) rfl rfl <| lx_ix (i := i) rfl eT29 hr_vp rfl rfl (by omega) <| lx_ld (i := i) (j := 0) ((gt hs i).v) rfl rfl fl70 hr_vp (by omega) rfl rfl <| lx_callV [] [.pointer (some ⟨bx, 0, none⟩)] [(gt hs i).v] rfl rfl Try.call114 rfl rfl (ochk1_spec h ((gt hs i).v) (gt p i) vp hs p bx hb_bx hr_vp ht_vp (ht_vp.2 i (by omega)) (by omega)) (fun _ _ _ => trivial) ?_
    rintro _ h1 ⟨rfl, rfl⟩
    refine lx_nil <| wi_condS (t := decide ((((gt p i).length : Nat) : Int) ≠ ((hs.length : Nat) : Int))) rfl (fun c2 => ?_) (fun c2 => ?_)
    · refine wi_seq <| wi_reg rfl <| lx_move (.int .i64 ((i : Nat) : Int)) rfl rfl <| lx_assign (.int .i64 ((i : Nat) : Int)) rfl rfl <| lx_nil <| ?_
      -- R1
      refine wi_ret ⟨.int .i64 ((i : Nat) : Int), (res_one rfl rfl), ⟨((i : Nat) : Int), ?_, ?_, rfl⟩⟩
      · first | rfl | (simp; done) | (simp; omega)
      · refine .inr ⟨by omega, i, by omega, ?_⟩
        have h9 := of_decide_eq_true c2; omega
    · refine wi_skip <| wi_inBlock <| wi_reg rfl <| lx_add (((i + 1 : Nat) : Int)) rfl rfl rfl (by omega) (by omega) (by omega) <| lx_move (.int .i64 ((i + 1 : Nat) : Int)) rfl rfl <| lx_nil <| ?_
      -- L0.1
      refine IH1 _ _ (i + 1) (agree_ups rfl agree_self) ⟨rfl, trivial⟩ ⟨rfl, ?_, ?_⟩ ?_
      · try dsimp only
        omega
      · try dsimp only
        intro j hj; by_cases e : j = i
        · subst e; have h9 := of_decide_eq_false c2; omega
        · exact he j (by omega)
      · first | omega | (dsimp only; omega)
  · refine lx_nil <| wi_seq <| wi_false rfl <| wi_exit rfl <| wi_seq <| wi_reg rfl <| lx_assign (.int .i64 (-1)) rfl rfl <| lx_nil <| ?_
    -- R2
    refine wi_ret ⟨.int .i64 (-1), (res_one rfl rfl), ⟨(-1), ?_, ?_, rfl⟩⟩
    · first | rfl | (simp; done) | (simp; omega)
    · exact .inl ⟨rfl, fun j hj => he j (by omega)⟩

set_option maxRecDepth 10000 in
theorem ocontains_spec (h : Heap) (vp : Value) (hs : List Hdr) (p : List (List Bool)) (bx : Nat) (hb_bx : Blk h bx (#[vp]) 29) (hr_vp : RdE encHd h vp hs) (ht_vp : RT encB h hs p) (hp1 : p.length ≤ 1000000) (hp2 : ∀ i, i < p.length → (gt p i).length ≤ 1000000) : Fx Try.prog 113 [vp, .func (.func 114) #[] #[.pointer (some ⟨bx, 0, none⟩)]] h (fun v h' => v = .bool (!sqB p) ∧ h = h') := by
  have hl_vp := ht_vp.1
  refine fx_intro (n := 9) [(0, vp), (1, .func (.func 114) #[] #[.pointer (some ⟨bx, 0, none⟩)])] Try.func113 rfl rfl (by simp) ⟨rfl, rfl, trivial⟩ fun g0 => ?_
  refine wi_seq <| wi_reg rfl <| lx_assign (.bool false) rfl rfl <| lx_nil <| wi_seq <| wi_reg rfl <| lx_move (vp) rfl rfl <| lx_move (.func (.func 114) #[] #[.pointer (some ⟨bx, 0, none⟩)]) rfl rfl <| lx_call [vp, .func (.func 114) #[] #[.pointer (some ⟨bx, 0, none⟩)]] rfl rfl Try.call146 rfl (oindex_spec h vp hs p bx hb_bx hr_vp ht_vp (by omega) hp2) (fun _ _ _ => trivial) ?_
  rintro _ h1 ⟨r_1, rfl, hr_1, rfl⟩
  refine lx_geq rfl rfl rfl <| lx_assign (.bool (decide ((0 : Int) ≤ r_1))) rfl rfl <| lx_nil <| ?_
  -- R1
  refine wi_ret ⟨.bool (decide ((0 : Int) ≤ r_1)), (res_one rfl rfl), ⟨?_, rfl⟩⟩
  · congr 1
    rcases hr_1 with ⟨h1, h2⟩ | ⟨h1, j, h2, h3⟩
    · rw [decide_eq_false (by omega), sqB_iff.2 ⟨rfl, h2⟩]; rfl
    · rw [decide_eq_true (by omega)]
      symm
      rw [Bool.not_eq_true', Bool.eq_false_iff]
      exact fun h => h3 ((sqB_iff.1 h).2 j h2)

set_option maxRecDepth 10000 in
theorem ocheck_spec (h : Heap) (vp : Value) (hs : List Hdr) (p : List (List Bool)) (hr_vp : RdE encHd h vp hs) (ht_vp : RT encB h hs p) (hp1 : p.length ≤ 1000000) (hp2 : ∀ i, i < p.length → (gt p i).length ≤ 1000000) : Fx Try.prog 62 [vp] h (fun v h' => v = .int .i64 (chkT p) ∧ Ext h.size h h') := by
  have hl_vp := ht_vp.1
  refine fx_intro (n := 99) [(0, vp)] Try.func62 rfl rfl (by simp) ⟨rfl, trivial⟩ fun g0 => ?_
  refine wi_seq <| wi_reg rfl <| lx_box #[vp] rfl rfl (sl_cells hr_vp) (fun _ _ _ => trivial) fun bn1 h1 hbn1 hbk1 hx1 hsz1 => ?_
  have hbb1 : h.size ≤ bn1 := by have := (Nat.le_refl h.size); omega
  refine lx_assign (.int .i64 0) rfl rfl <| lx_nil <| wi_seq <| wi_seq <| wi_reg rfl <| lx_ldB (vp) rfl rfl fl29 hbk1 rfl rfl <| lx_len rfl Try.underlying29 hr_vp rfl <| lx_lssS rfl rfl rfl (fun c1 => ?_) (fun c1 => ?_)
  · refine lx_move (.bool true) rfl rfl <| lx_skip rfl <| lx_skip rfl <| lx_skip rfl <| lx_pick true (.bool true) rfl rfl rfl <| lx_move (.bool true) rfl rfl <| lx_skip rfl <| lx_skip rfl <| lx_skip rfl <| lx_pick true (.bool true) rfl rfl rfl <| lx_nil <| wi_true rfl <| wi_seq <| wi_reg rfl <| lx_assign (.int .i64 90) rfl rfl <| lx_nil <| ?_
    -- R1
    refine wi_ret ⟨.int .i64 90, (res_one rfl rfl), ⟨?_, hx1⟩⟩
    · first
      | (rw [chkT_size (by omega)]; done)
      | rw [chkT_bad (bad_ok (x := x) (y := y) (by omega) (by omega) (by first | exact bad_tri (z := z) (by omega) (by first | assumption | exact nbf (by assumption) | exact nbt (by assumption)) (by first | assumption | exact nbf (by assumption) | exact nbt (by assumption)) (by first | assumption | exact nbf (by assumption) | exact nbt (by assumption)) | exact bad_refl (by omega) (by first | assumption | exact nbf (by assumption) | exact nbt (by assumption)) | exact bad_anti (by omega) (by first | assumption | exact nbf (by assumption) | exact nbt (by assumption)) (by first | assumption | exact nbf (by assumption) | exact nbt (by assumption))))]
      | (have h9 : isT p = false := by
           unfold isT; rw [show sqB p = false from by simpa using ‹(!sqB p) = true›]; rfl
         rw [chkT_bad h9])
      | (have h9 : isT p = true := isT_iff.2 ⟨hsQ, fun a b ha hb => hA a (by omega) b hb⟩
         rw [ok_chkT (by omega) (by omega) h9])
  · refine lx_move (.bool false) rfl rfl <| lx_ldB (vp) rfl rfl fl29 hbk1 rfl rfl <| lx_len rfl Try.underlying29 hr_vp rfl <| lx_gtrS rfl rfl rfl (fun c2 => ?_) (fun c2 => ?_)
    · refine lx_pick false (.bool true) rfl rfl rfl <| lx_move (.bool true) rfl rfl <| lx_skip rfl <| lx_skip rfl <| lx_skip rfl <| lx_pick true (.bool true) rfl rfl rfl <| lx_nil <| wi_true rfl <| wi_seq <| wi_reg rfl <| lx_assign (.int .i64 90) rfl rfl <| lx_nil <| ?_
      -- R2
      refine wi_ret ⟨.int .i64 90, (res_one rfl rfl), ⟨?_, hx1⟩⟩
      · first
        | (rw [chkT_size (by omega)]; done)
        | rw [chkT_bad (bad_ok (x := x) (y := y) (by omega) (by omega) (by first | exact bad_tri (z := z) (by omega) (by first | assumption | exact nbf (by assumption) | exact nbt (by assumption)) (by first | assumption | exact nbf (by assumption) | exact nbt (by assumption)) (by first | assumption | exact nbf (by assumption) | exact nbt (by assumption)) | exact bad_refl (by omega) (by first | assumption | exact nbf (by assumption) | exact nbt (by assumption)) | exact bad_anti (by omega) (by first | assumption | exact nbf (by assumption) | exact nbt (by assumption)) (by first | assumption | exact nbf (by assumption) | exact nbt (by assumption))))]
        | (have h9 : isT p = false := by
             unfold isT; rw [show sqB p = false from by simpa using ‹(!sqB p) = true›]; rfl
           rw [chkT_bad h9])
        | (have h9 : isT p = true := isT_iff.2 ⟨hsQ, fun a b ha hb => hA a (by omega) b hb⟩
           rw [ok_chkT (by omega) (by omega) h9])
    · refine lx_pick false (.bool false) rfl rfl rfl <| lx_move (.bool false) rfl rfl <| lx_ldB (vp) rfl rfl fl29 hbk1 rfl rfl <| lx_makeFunc [] [.pointer (some ⟨bn1, 0, none⟩)] rfl rfl rfl <| lx_call [vp, .func (.func 114) #[] #[.pointer (some ⟨bn1, 0, none⟩)]] rfl rfl Try.call113 rfl (ocontains_spec h1 vp hs p bn1 hbk1 (hr_vp.extS hx1) (ht_vp.extS hx1) (by omega) hp2) (fun _ _ _ => trivial) ?_
      rintro _ h2 ⟨rfl, rfl⟩
      refine lx_pick false (.bool (!sqB p)) rfl rfl rfl <| lx_nil <| wi_condS (t := !sqB p) rfl (fun c3 => ?_) (fun c3 => ?_)
      · refine wi_seq <| wi_reg rfl <| lx_assign (.int .i64 90) rfl rfl <| lx_nil <| ?_
        -- R3
        refine wi_ret ⟨.int .i64 90, (res_one rfl rfl), ⟨?_, hx1⟩⟩
        · first
          | (rw [chkT_size (by omega)]; done)
          | rw [chkT_bad (bad_ok (x := x) (y := y) (by omega) (by omega) (by first | exact bad_tri (z := z) (by omega) (by first | assumption | exact nbf (by assumption) | exact nbt (by assumption)) (by first | assumption | exact nbf (by assumption) | exact nbt (by assumption)) (by first | assumption | exact nbf (by assumption) | exact nbt (by assumption)) | exact bad_refl (by omega) (by first | assumption | exact nbf (by assumption) | exact nbt (by assumption)) | exact bad_anti (by omega) (by first | assumption | exact nbf (by assumption) | exact nbt (by assumption)) (by first | assumption | exact nbf (by assumption) | exact nbt (by assumption))))]
          | (have h9 : isT p = false := by
               unfold isT; rw [show sqB p = false from by simpa using ‹(!sqB p) = true›]; rfl
             rw [chkT_bad h9])
          | (have h9 : isT p = true := isT_iff.2 ⟨hsQ, fun a b ha hb => hA a (by omega) b hb⟩
             rw [ok_chkT (by omega) (by omega) h9])
      · refine wi_skip <| wi_seq <| wi_seq <| wi_reg rfl <| ?_
        have hsB : sqB p = true := by simpa using ‹(!sqB p) = false›
        have hsQ := sqB_iff.1 hsB
        have hsq : ∀ i, i < p.length → (gt p i).length = p.length := hsQ.2
        refine lx_ldB (vp) rfl rfl fl29 hbk1 rfl rfl <| lx_len rfl Try.underlying29 hr_vp rfl <| lx_move (.int .i64 0) rfl rfl <| lx_nil <| wi_block <| ?_
        refine wi_loop (σ := Nat) (rngB 21 99 [2, 3, 4, 5]) (fun (x : Nat) => [(21, .int .i64 ((x : Nat) : Int))]) (fun (x : Nat) (hh : Heap) => h1 = hh ∧ (x ≤ p.length) ∧ (∀ a, a < x → ∀ b, b < p.length → okP p.length (pb p) a b)) (fun (x : Nat) => p.length - x) 0 ⟨rfl, trivial⟩ ⟨rfl, ?_, ?_⟩ ?_
        · try dsimp only
          omega
        · try dsimp only
          intro a ha; omega
        rintro g1 x hh1 ⟨rfl, hx, hA⟩ IH1
        refine wi_seq <| wi_reg rfl <| lx_lssS rfl rfl rfl (fun c4 => ?_) (fun c4 => ?_)
        · refine lx_nil <| wi_seq <| wi_true rfl <| wi_skip <| wi_seq <| wi_block <| wi_seq <| wi_reg rfl <| lx_move (.int .i64 ((x : Nat) : Int)) rfl rfl <| lx_assign (.int .i64 ((x : Nat) : Int)) rfl rfl <| lx_nil <| wi_seq <| wi_reg rfl <| lx_ldB (vp) rfl rfl fl29 hbk1 rfl rfl <| lx_len rfl Try.underlying29 hr_vp rfl <| lx_move (.int .i64 0) rfl rfl <| lx_nil <| wi_block <| ?_
          refine wi_loop (σ := Nat) (rngB 26 98 [2, 4, 5]) (fun (y : Nat) => [(26, .int .i64 ((y : Nat) : Int))]) (fun (y : Nat) (hh : Heap) => h1 = hh ∧ (y ≤ p.length) ∧ (∀ b, b < y → okP p.length (pb p) x b)) (fun (y : Nat) => p.length - y) 0 ⟨rfl, trivial⟩ ⟨rfl, ?_, ?_⟩ ?_
          · try dsimp only
            omega
          · try dsimp only
            intro b hb; omega
          rintro g2 y hh2 ⟨rfl, hy, hB⟩ IH2
          refine wi_seq <| wi_reg rfl <| lx_lssS rfl rfl rfl (fun c5 => ?_) (fun c5 => ?_)
          · refine lx_nil <| wi_seq <| wi_true rfl <| wi_skip <| wi_seq <| wi_block <| wi_seq <| wi_reg rfl <| lx_move (.int .i64 ((y : Nat) : Int)) rfl rfl <| lx_assign (.int .i64 ((y : Nat) : Int)) rfl rfl <| lx_nil <| wi_seq <| wi_seq <| wi_reg rfl <| lx_move (.int .i64 ((x : Nat) : Int)) rfl rfl <| lx_move (.int .i64 ((y : Nat) : Int)) rfl rfl <| lx_eqlS rfl rfl rfl (fun c6 => ?_) (fun c6 => ?_)
            · refine lx_move (.bool true) rfl rfl <| lx_ldB (vp) rfl rfl fl29 hbk1 rfl rfl <| lx_move (.int .i64 ((x : Nat) : Int)) rfl rfl <| lx_ix (i := x) rfl eT29 hr_vp rfl rfl (by omega) <| lx_ld (i := x) (j := 0) ((gt hs x).v) rfl rfl fl70 (hr_vp.extS hx1) (by omega) rfl rfl <| lx_move (.int .i64 ((y : Nat) : Int)) rfl rfl <| lx_ix (i := y) rfl eT70 (ht_vp.2 x (by omega)) rfl rfl (by rw [hsq x (by omega)]; omega) <| lx_ld (i := y) (j := 0) (.bool (gt (gt p x) y)) rfl rfl fl4 ((ht_vp.extS hx1).2 x (by omega)) (by rw [hsq x (by omega)]; omega) rfl rfl <| lx_not rfl rfl <| lx_pick true (.bool (!(gt (gt p x) y))) rfl rfl rfl <| lx_move (.bool (!(gt (gt p x) y))) rfl rfl <| ?_
              cases c7 : (gt (gt p x) y)
              · refine lx_skip rfl <| lx_skip rfl <| lx_skip rfl <| lx_skip rfl <| lx_skip rfl <| lx_skip rfl <| lx_skip rfl <| lx_skip rfl <| lx_skip rfl <| lx_skip rfl <| lx_skip rfl <| lx_skip rfl <| lx_skip rfl <| lx_skip rfl <| lx_skip rfl <| lx_skip rfl <| lx_skip rfl <| lx_skip rfl <| lx_skip rfl <| lx_skip rfl <| lx_skip rfl <| lx_pick true (.bool true) rfl rfl rfl <| lx_nil <| wi_true rfl <| wi_seq <| wi_reg rfl <| lx_assign (.int .i64 90) rfl rfl <| lx_nil <| ?_
                -- R4
                refine wi_ret ⟨.int .i64 90, (res_one rfl rfl), ⟨?_, hx1⟩⟩
                · first
                  | (rw [chkT_size (by omega)]; done)
                  | rw [chkT_bad (bad_ok (x := x) (y := y) (by omega) (by omega) (by first | exact bad_tri (z := z) (by omega) (by first | assumption | exact nbf (by assumption) | exact nbt (by assumption)) (by first | assumption | exact nbf (by assumption) | exact nbt (by assumption)) (by first | assumption | exact nbf (by assumption) | exact nbt (by assumption)) | exact bad_refl (by omega) (by first | assumption | exact nbf (by assumption) | exact nbt (by assumption)) | exact bad_anti (by omega) (by first | assumption | exact nbf (by assumption) | exact nbt (by assumption)) (by first | assumption | exact nbf (by assumption) | exact nbt (by assumption))))]
                  | (have h9 : isT p = false := by
                       unfold isT; rw [show sqB p = false from by simpa using ‹(!sqB p) = true›]; rfl
                     rw [chkT_bad h9])
                  | (have h9 : isT p = true := isT_iff.2 ⟨hsQ, fun a b ha hb => hA a (by omega) b hb⟩
                     rw [ok_chkT (by omega) (by omega) h9])
              · refine lx_move (.int .i64 ((x : Nat) : Int)) rfl rfl <| lx_move (.int .i64 ((y : Nat) : Int)) rfl rfl <| lx_neqS rfl rfl rfl (fun c8 => ?_) (fun c8 => ?_)
                · refine lx_move (.bool true) rfl rfl <| lx_ldB (vp) rfl rfl fl29 hbk1 rfl rfl <| lx_move (.int .i64 ((x : Nat) : Int)) rfl rfl <| lx_ix (i := x) rfl eT29 hr_vp rfl rfl (by omega) <| lx_ld (i := x) (j := 0) ((gt hs x).v) rfl rfl fl70 (hr_vp.extS hx1) (by omega) rfl rfl <| lx_move (.int .i64 ((y : Nat) : Int)) rfl rfl <| lx_ix (i := y) rfl eT70 (ht_vp.2 x (by omega)) rfl rfl (by rw [hsq x (by omega)]; omega) <| lx_ld (i := y) (j := 0) (.bool true) rfl rfl fl4 ((ht_vp.extS hx1).2 x (by omega)) (by rw [hsq x (by omega)]; omega) (by show some (Value.bool (gt (gt p x) y)) = _; rw [c7]) rfl <| lx_pick true (.bool true) rfl rfl rfl <| lx_move (.bool true) rfl rfl <| lx_ldB (vp) rfl rfl fl29 hbk1 rfl rfl <| lx_move (.int .i64 ((y : Nat) : Int)) rfl rfl <| lx_ix (i := y) rfl eT29 hr_vp rfl rfl (by omega) <| lx_ld (i := y) (j := 0) ((gt hs y).v) rfl rfl fl70 (hr_vp.extS hx1) (by omega) rfl rfl <| lx_move (.int .i64 ((x : Nat) : Int)) rfl rfl <| lx_ix (i := x) rfl eT70 (ht_vp.2 y (by omega)) rfl rfl (by rw [hsq y (by omega)]; omega) <| lx_ld (i := x) (j := 0) (.bool (gt (gt p y) x)) rfl rfl fl4 ((ht_vp.extS hx1).2 y (by omega)) (by rw [hsq y (by omega)]; omega) rfl rfl <| lx_pick true (.bool (gt (gt p y) x)) rfl rfl rfl <| lx_pick false (.bool (gt (gt p y) x)) rfl rfl rfl <| lx_nil <| wi_condS (t := gt (gt p y) x) rfl (fun c9 => ?_) (fun c9 => ?_)
                  · refine wi_seq <| wi_reg rfl <| lx_assign (.int .i64 90) rfl rfl <| lx_nil <| ?_
                    -- R5
                    refine wi_ret ⟨.int .i64 90, (res_one rfl rfl), ⟨?_, hx1⟩⟩
                    · first
                      | (rw [chkT_size (by omega)]; done)
                      | rw [chkT_bad (bad_ok (x := x) (y := y) (by omega) (by omega) (by first | exact bad_tri (z := z) (by omega) (by first | assumption | exact nbf (by assumption) | exact nbt (by assumption)) (by first | assumption | exact nbf (by assumption) | exact nbt (by assumption)) (by first | assumption | exact nbf (by assumption) | exact nbt (by assumption)) | exact bad_refl (by omega) (by first | assumption | exact nbf (by assumption) | exact nbt (by assumption)) | exact bad_anti (by omega) (by first | assumption | exact nbf (by assumption) | exact nbt (by assumption)) (by first | assumption | exact nbf (by assumption) | exact nbt (by assumption))))]
                      | (have h9 : isT p = false := by
                           unfold isT; rw [show sqB p = false from by simpa using ‹(!sqB p) = true›]; rfl
                         rw [chkT_bad h9])
                      | (have h9 : isT p = true := isT_iff.2 ⟨hsQ, fun a b ha hb => hA a (by omega) b hb⟩
                         rw [ok_chkT (by omega) (by omega) h9])
                  · refine wi_skip <| wi_seq <| wi_reg rfl <| lx_ldB (vp) rfl rfl fl29 hbk1 rfl rfl <| lx_len rfl Try.underlying29 hr_vp rfl <| lx_move (.int .i64 0) rfl rfl <| lx_nil <| wi_block <| ?_
                    refine wi_loop (σ := Nat) (rngB 67 97 [2, 5]) (fun (z : Nat) => [(67, .int .i64 ((z : Nat) : Int))]) (fun (z : Nat) (hh : Heap) => h1 = hh ∧ (z ≤ p.length) ∧ (∀ c, c < z → pb p x y = true → pb p y c = true → pb p x c = true)) (fun (z : Nat) => p.length - z) 0 ⟨rfl, trivial⟩ ⟨rfl, ?_, ?_⟩ ?_
                    · try dsimp only
                      omega
                    · try dsimp only
                      intro c hc; omega
                    rintro g3 z hh3 ⟨rfl, hz, hC⟩ IH3
                    refine wi_seq <| wi_reg rfl <| lx_lssS rfl rfl rfl (fun c10 => ?_) (fun c10 => ?_)
                    · refine lx_nil <| wi_seq <| wi_true rfl <| wi_skip <| wi_seq <| wi_block <| wi_seq <| wi_reg rfl <| lx_move (.int .i64 ((z : Nat) : Int)) rfl rfl <| lx_assign (.int .i64 ((z : Nat) : Int)) rfl rfl <| lx_nil <| wi_seq <| wi_reg rfl <| lx_ldB (vp) rfl rfl fl29 hbk1 rfl rfl <| lx_move (.int .i64 ((x : Nat) : Int)) rfl rfl <| lx_ix (i := x) rfl eT29 hr_vp rfl rfl (by omega) <| lx_ld (i := x) (j := 0) ((gt hs x).v) rfl rfl fl70 (hr_vp.extS hx1) (by omega) rfl rfl <| lx_move (.int .i64 ((y : Nat) : Int)) rfl rfl <| lx_ix (i := y) rfl eT70 (ht_vp.2 x (by omega)) rfl rfl (by rw [hsq x (by omega)]; omega) <| lx_ld (i := y) (j := 0) (.bool true) rfl rfl fl4 ((ht_vp.extS hx1).2 x (by omega)) (by rw [hsq x (by omega)]; omega) (by show some (Value.bool (gt (gt p x) y)) = _; rw [c7]) rfl <| lx_move (.bool true) rfl rfl <| lx_ldB (vp) rfl rfl fl29 hbk1 rfl rfl <| lx_move (.int .i64 ((y : Nat) : Int)) rfl rfl <| lx_ix (i := y) rfl eT29 hr_vp rfl rfl (by omega) <| lx_ld (i := y) (j := 0) ((gt hs y).v) rfl rfl fl70 (hr_vp.extS hx1) (by omega) rfl rfl <| lx_move (.int .i64 ((z : Nat) : Int)) rfl rfl <| lx_ix (i := z) rfl eT70 (ht_vp.2 y (by omega)) rfl rfl (by rw [hsq y (by omega)]; omega) <| lx_ld (i := z) (j := 0) (.bool (gt (gt p y) z)) rfl rfl fl4 ((ht_vp.extS hx1).2 y (by omega)) (by rw [hsq y (by omega)]; omega) rfl rfl <| lx_pick true (.bool (gt (gt p y) z)) rfl rfl rfl <| lx_move (.bool (gt (gt p y) z)) rfl rfl <| ?_
                      cases c11 : (gt (gt p y) z)
                      · refine lx_skip rfl <| lx_skip rfl <| lx_skip rfl <| lx_skip rfl <| lx_skip rfl <| lx_skip rfl <| lx_skip rfl <| lx_skip rfl <| lx_pick false (.bool false) rfl rfl rfl <| lx_nil <| wi_false rfl <| wi_skip <| wi_inBlock <| wi_reg rfl <| lx_add (((z + 1 : Nat) : Int)) rfl rfl rfl (by omega) (by omega) (by omega) <| lx_move (.int .i64 ((z + 1 : Nat) : Int)) rfl rfl <| lx_nil <| ?_
                        -- L4.1
                        refine IH3 _ _ (z + 1) (agree_ups rfl agree_self) ⟨rfl, trivial⟩ ⟨rfl, ?_, ?_⟩ ?_
                        · try dsimp only
                          omega
                        · try dsimp only
                          intro c hc h1 h2
                          by_cases e : c = z
                          · subst e; first | assumption | exact nbf (by assumption) | exact absurd h1 (ntb (by first | assumption | exact nbt (by assumption))) | exact absurd h2 (ntb (by first | assumption | exact nbt (by assumption)))
                          · exact hC c (by omega) h1 h2
                        · first | omega | (dsimp only; omega)
                      · refine lx_ldB (vp) rfl rfl fl29 hbk1 rfl rfl <| lx_move (.int .i64 ((x : Nat) : Int)) rfl rfl <| lx_ix (i := x) rfl eT29 hr_vp rfl rfl (by omega) <| lx_ld (i := x) (j := 0) ((gt hs x).v) rfl rfl fl70 (hr_vp.extS hx1) (by omega) rfl rfl <| lx_move (.int .i64 ((z : Nat) : Int)) rfl rfl <| lx_ix (i := z) rfl eT70 (ht_vp.2 x (by omega)) rfl rfl (by rw [hsq x (by omega)]; omega) <| lx_ld (i := z) (j := 0) (.bool (gt (gt p x) z)) rfl rfl fl4 ((ht_vp.extS hx1).2 x (by omega)) (by rw [hsq x (by omega)]; omega) rfl rfl <| lx_not rfl rfl <| lx_pick true (.bool (!(gt (gt p x) z))) rfl rfl rfl <| lx_nil <| wi_condS (t := !(gt (gt p x) z)) rfl (fun c12 => ?_) (fun c12 => ?_)
                        · refine wi_seq <| wi_reg rfl <| lx_assign (.int .i64 90) rfl rfl <| lx_nil <| ?_
                          -- R6
                          refine wi_ret ⟨.int .i64 90, (res_one rfl rfl), ⟨?_, hx1⟩⟩
                          · first
                            | (rw [chkT_size (by omega)]; done)
                            | rw [chkT_bad (bad_ok (x := x) (y := y) (by omega) (by omega) (by first | exact bad_tri (z := z) (by omega) (by first | assumption | exact nbf (by assumption) | exact nbt (by assumption)) (by first | assumption | exact nbf (by assumption) | exact nbt (by assumption)) (by first | assumption | exact nbf (by assumption) | exact nbt (by assumption)) | exact bad_refl (by omega) (by first | assumption | exact nbf (by assumption) | exact nbt (by assumption)) | exact bad_anti (by omega) (by first | assumption | exact nbf (by assumption) | exact nbt (by assumption)) (by first | assumption | exact nbf (by assumption) | exact nbt (by assumption))))]
                            | (have h9 : isT p = false := by
                                 unfold isT; rw [show sqB p = false from by simpa using ‹(!sqB p) = true›]; rfl
                               rw [chkT_bad h9])
                            | (have h9 : isT p = true := isT_iff.2 ⟨hsQ, fun a b ha hb => hA a (by omega) b hb⟩
                               rw [ok_chkT (by omega) (by omega) h9])
                        · refine wi_skip <| wi_inBlock <| wi_reg rfl <| lx_add (((z + 1 : Nat) : Int)) rfl rfl rfl (by omega) (by omega) (by omega) <| lx_move (.int .i64 ((z + 1 : Nat) : Int)) rfl rfl <| lx_nil <| ?_
                          -- L4.2
                          refine IH3 _ _ (z + 1) (agree_ups rfl agree_self) ⟨rfl, trivial⟩ ⟨rfl, ?_, ?_⟩ ?_
                          · try dsimp only
                            omega
                          · try dsimp only
                            intro c hc h1 h2
                            by_cases e : c = z
                            · subst e; first | assumption | exact nbf (by assumption) | exact absurd h1 (ntb (by first | assumption | exact nbt (by assumption))) | exact absurd h2 (ntb (by first | assumption | exact nbt (by assumption)))
                            · exact hC c (by omega) h1 h2
                          · first | omega | (dsimp only; omega)
                    · refine lx_nil <| wi_seq <| wi_false rfl <| wi_exit rfl <| wi_inBlock <| wi_reg rfl <| lx_add (((y + 1 : Nat) : Int)) rfl rfl rfl (by omega) (by omega) (by omega) <| lx_move (.int .i64 ((y + 1 : Nat) : Int)) rfl rfl <| lx_nil <| ?_
                      -- L2.1
                      refine IH2 _ _ (y + 1) (agree_ups rfl (agree_mix (rngB_sub (by decide) (by decide) rfl) (agree_ups rfl agree_self))) ⟨rfl, trivial⟩ ⟨rfl, ?_, ?_⟩ ?_
                      · try dsimp only
                        omega
                      · try dsimp only
                        intro b hb
                        by_cases e : b = y
                        · subst e; exact ⟨fun e => (by first | assumption | exact nbf (by assumption) | (exfalso; omega)), fun h1 h2 => (by first | (exfalso; omega) | assumption | exact nbt (by assumption) | exact absurd h2 (ntb (by assumption))), fun c hc h1 h2 => hC c (by omega) h1 h2⟩
                        · exact hB b (by omega)
                      · first | omega | (dsimp only; omega)
                · refine lx_move (.bool false) rfl rfl <| lx_skip rfl <| lx_skip rfl <| lx_skip rfl <| lx_skip rfl <| lx_skip rfl <| lx_skip rfl <| lx_skip rfl <| lx_pick false (.bool false) rfl rfl rfl <| lx_move (.bool false) rfl rfl <| lx_skip rfl <| lx_skip rfl <| lx_skip rfl <| lx_skip rfl <| lx_skip rfl <| lx_skip rfl <| lx_skip rfl <| lx_pick false (.bool false) rfl rfl rfl <| lx_pick false (.bool false) rfl rfl rfl <| lx_nil <| wi_false rfl <| wi_skip <| wi_seq <| wi_reg rfl <| lx_ldB (vp) rfl rfl fl29 hbk1 rfl rfl <| lx_len rfl Try.underlying29 hr_vp rfl <| lx_move (.int .i64 0) rfl rfl <| lx_nil <| wi_block <| ?_
                  refine wi_loop (σ := Nat) (rngB 67 97 [2, 5]) (fun (z : Nat) => [(67, .int .i64 ((z : Nat) : Int))]) (fun (z : Nat) (hh : Heap) => h1 = hh ∧ (z ≤ p.length) ∧ (∀ c, c < z → pb p x y = true → pb p y c = true → pb p x c = true)) (fun (z : Nat) => p.length - z) 0 ⟨rfl, trivial⟩ ⟨rfl, ?_, ?_⟩ ?_
                  · try dsimp only
                    omega
                  · try dsimp only
                    intro c hc; omega
                  rintro g4 z hh4 ⟨rfl, hz, hC⟩ IH4
                  refine wi_seq <| wi_reg rfl <| lx_lssS rfl rfl rfl (fun c13 => ?_) (fun c13 => ?_)
                  · refine lx_nil <| wi_seq <| wi_true rfl <| wi_skip <| wi_seq <| wi_block <| wi_seq <| wi_reg rfl <| lx_move (.int .i64 ((z : Nat) : Int)) rfl rfl <| lx_assign (.int .i64 ((z : Nat) : Int)) rfl rfl <| lx_nil <| wi_seq <| wi_reg rfl <| lx_ldB (vp) rfl rfl fl29 hbk1 rfl rfl <| lx_move (.int .i64 ((x : Nat) : Int)) rfl rfl <| lx_ix (i := x) rfl eT29 hr_vp rfl rfl (by omega) <| lx_ld (i := x) (j := 0) ((gt hs x).v) rfl rfl fl70 (hr_vp.extS hx1) (by omega) rfl rfl <| lx_move (.int .i64 ((y : Nat) : Int)) rfl rfl <| lx_ix (i := y) rfl eT70 (ht_vp.2 x (by omega)) rfl rfl (by rw [hsq x (by omega)]; omega) <| lx_ld (i := y) (j := 0) (.bool true) rfl rfl fl4 ((ht_vp.extS hx1).2 x (by omega)) (by rw [hsq x (by omega)]; omega) (by show some (Value.bool (gt (gt p x) y)) = _; rw [c7]) rfl <| lx_move (.bool true) rfl rfl <| lx_ldB (vp) rfl rfl fl29 hbk1 rfl rfl <| lx_move (.int .i64 ((y : Nat) : Int)) rfl rfl <| lx_ix (i := y) rfl eT29 hr_vp rfl rfl (by omega) <| lx_ld (i := y) (j := 0) ((gt hs y).v) rfl rfl fl70 (hr_vp.extS hx1) (by omega) rfl rfl <| lx_move (.int .i64 ((z : Nat) : Int)) rfl rfl <| lx_ix (i := z) rfl eT70 (ht_vp.2 y (by omega)) rfl rfl (by rw [hsq y (by omega)]; omega) <| lx_ld (i := z) (j := 0) (.bool (gt (gt p y) z)) rfl rfl fl4 ((ht_vp.extS hx1).2 y (by omega)) (by rw [hsq y (by omega)]; omega) rfl rfl <| lx_pick true (.bool (gt (gt p y) z)) rfl rfl rfl <| lx_move (.bool (gt (gt p y) z)) rfl rfl <| ?_
                    cases c14 : (gt (gt p y) z)
                    · refine lx_skip rfl <| lx_skip rfl <| lx_skip rfl <| lx_skip rfl <| lx_skip rfl <| lx_skip rfl <| lx_skip rfl <| lx_skip rfl <| lx_pick false (.bool false) rfl rfl rfl <| lx_nil <| wi_false rfl <| wi_skip <| wi_inBlock <| wi_reg rfl <| lx_add (((z + 1 : Nat) : Int)) rfl rfl rfl (by omega) (by omega) (by omega) <| lx_move (.int .i64 ((z + 1 : Nat) : Int)) rfl rfl <| lx_nil <| ?_
                      -- L4.1
                      refine IH4 _ _ (z + 1) (agree_ups rfl agree_self) ⟨rfl, trivial⟩ ⟨rfl, ?_, ?_⟩ ?_
                      · try dsimp only
                        omega
                      · try dsimp only
                        intro c hc h1 h2
                        by_cases e : c = z
                        · subst e; first | assumption | exact nbf (by assumption) | exact absurd h1 (ntb (by first | assumption | exact nbt (by assumption))) | exact absurd h2 (ntb (by first | assumption | exact nbt (by assumption)))
                        · exact hC c (by omega) h1 h2
                      · first | omega | (dsimp only; omega)
                    · refine lx_ldB (vp) rfl rfl fl29 hbk1 rfl rfl <| lx_move (.int .i64 ((x : Nat) : Int)) rfl rfl <| lx_ix (i := x) rfl eT29 hr_vp rfl rfl (by omega) <| lx_ld (i := x) (j := 0) ((gt hs x).v) rfl rfl fl70 (hr_vp.extS hx1) (by omega) rfl rfl <| lx_move (.int .i64 ((z : Nat) : Int)) rfl rfl <| lx_ix (i := z) rfl eT70 (ht_vp.2 x (by omega)) rfl rfl (by rw [hsq x (by omega)]; omega) <| lx_ld (i := z) (j := 0) (.bool (gt (gt p x) z)) rfl rfl fl4 ((ht_vp.extS hx1).2 x (by omega)) (by rw [hsq x (by omega)]; omega) rfl rfl <| lx_not rfl rfl <| lx_pick true (.bool (!(gt (gt p x) z))) rfl rfl rfl <| lx_nil <| wi_condS (t := !(gt (gt p x) z)) rfl (fun c15 => ?_) (fun c15 => ?_)
                      · refine wi_seq <| wi_reg rfl <| lx_assign (.int .i64 90) rfl rfl <| lx_nil <| ?_
                        -- R7
                        refine wi_ret ⟨.int .i64 90, (res_one rfl rfl), ⟨?_, hx1⟩⟩
                        · first
                          | (rw [chkT_size (by omega)]; done)
                          | rw [chkT_bad (bad_ok (x := x) (y := y) (by omega) (by omega) (by first | exact bad_tri (z := z) (by omega) (by first | assumption | exact nbf (by assumption) | exact nbt (by assumption)) (by first | assumption | exact nbf (by assumption) | exact nbt (by assumption)) (by first | assumption | exact nbf (by assumption) | exact nbt (by assumption)) | exact bad_refl (by omega) (by first | assumption | exact nbf (by assumption) | exact nbt (by assumption)) | exact bad_anti (by omega) (by first | assumption | exact nbf (by assumption) | exact nbt (by assumption)) (by first | assumption | exact nbf (by assumption) | exact nbt (by assumption))))]
                          | (have h9 : isT p = false := by
                               unfold isT; rw [show sqB p = false from by simpa using ‹(!sqB p) = true›]; rfl
                             rw [chkT_bad h9])
                          | (have h9 : isT p = true := isT_iff.2 ⟨hsQ, fun a b ha hb => hA a (by omega) b hb⟩
                             rw [ok_chkT (by omega) (by omega) h9])
                      · refine wi_skip <| wi_inBlock <| wi_reg rfl <| lx_add (((z + 1 : Nat) : Int)) rfl rfl rfl (by omega) (by omega) (by omega) <| lx_move (.int .i64 ((z + 1 : Nat) : Int)) rfl rfl <| lx_nil <| ?_
                        -- L4.2
                        refine IH4 _ _ (z + 1) (agree_ups rfl agree_self) ⟨rfl, trivial⟩ ⟨rfl, ?_, ?_⟩ ?_
                        · try dsimp only
                          omega
                        · try dsimp only
                          intro c hc h1 h2
                          by_cases e : c = z
                          · subst e; first | assumption | exact nbf (by assumption) | exact absurd h1 (ntb (by first | assumption | exact nbt (by assumption))) | exact absurd h2 (ntb (by first | assumption | exact nbt (by assumption)))
                          · exact hC c (by omega) h1 h2
                        · first | omega | (dsimp only; omega)
                  · refine lx_nil <| wi_seq <| wi_false rfl <| wi_exit rfl <| wi_inBlock <| wi_reg rfl <| lx_add (((y + 1 : Nat) : Int)) rfl rfl rfl (by omega) (by omega) (by omega) <| lx_move (.int .i64 ((y + 1 : Nat) : Int)) rfl rfl <| lx_nil <| ?_
                    -- L2.2
                    refine IH2 _ _ (y + 1) (agree_ups rfl (agree_mix (rngB_sub (by decide) (by decide) rfl) (agree_ups rfl agree_self))) ⟨rfl, trivial⟩ ⟨rfl, ?_, ?_⟩ ?_
                    · try dsimp only
                      omega
                    · try dsimp only
                      intro b hb
                      by_cases e : b = y
                      · subst e; exact ⟨fun e => (by first | assumption | exact nbf (by assumption) | (exfalso; omega)), fun h1 h2 => (by first | (exfalso; omega) | assumption | exact nbt (by assumption) | exact absurd h2 (ntb (by assumption))), fun c hc h1 h2 => hC c (by omega) h1 h2⟩
                      · exact hB b (by omega)
                    · first | omega | (dsimp only; omega)
            · refine lx_move (.bool false) rfl rfl <| lx_skip rfl <| lx_skip rfl <| lx_skip rfl <| lx_skip rfl <| lx_skip rfl <| lx_skip rfl <| lx_skip rfl <| lx_skip rfl <| lx_pick false (.bool false) rfl rfl rfl <| lx_move (.bool false) rfl rfl <| lx_move (.int .i64 ((x : Nat) : Int)) rfl rfl <| lx_move (.int .i64 ((y : Nat) : Int)) rfl rfl <| lx_neqS rfl rfl rfl (fun c16 => ?_) (fun c16 => ?_)
              · refine lx_move (.bool true) rfl rfl <| lx_ldB (vp) rfl rfl fl29 hbk1 rfl rfl <| lx_move (.int .i64 ((x : Nat) : Int)) rfl rfl <| lx_ix (i := x) rfl eT29 hr_vp rfl rfl (by omega) <| lx_ld (i := x) (j := 0) ((gt hs x).v) rfl rfl fl70 (hr_vp.extS hx1) (by omega) rfl rfl <| lx_move (.int .i64 ((y : Nat) : Int)) rfl rfl <| lx_ix (i := y) rfl eT70 (ht_vp.2 x (by omega)) rfl rfl (by rw [hsq x (by omega)]; omega) <| lx_ld (i := y) (j := 0) (.bool (gt (gt p x) y)) rfl rfl fl4 ((ht_vp.extS hx1).2 x (by omega)) (by rw [hsq x (by omega)]; omega) rfl rfl <| lx_pick true (.bool (gt (gt p x) y)) rfl rfl rfl <| lx_move (.bool (gt (gt p x) y)) rfl rfl <| ?_
                cases c17 : (gt (gt p x) y)
                · refine lx_skip rfl <| lx_skip rfl <| lx_skip rfl <| lx_skip rfl <| lx_skip rfl <| lx_skip rfl <| lx_skip rfl <| lx_pick false (.bool false) rfl rfl rfl <| lx_pick false (.bool false) rfl rfl rfl <| lx_nil <| wi_false rfl <| wi_skip <| wi_seq <| wi_reg rfl <| lx_ldB (vp) rfl rfl fl29 hbk1 rfl rfl <| lx_len rfl Try.underlying29 hr_vp rfl <| lx_move (.int .i64 0) rfl rfl <| lx_nil <| wi_block <| ?_
                  refine wi_loop (σ := Nat) (rngB 67 97 [2, 5]) (fun (z : Nat) => [(67, .int .i64 ((z : Nat) : Int))]) (fun (z : Nat) (hh : Heap) => h1 = hh ∧ (z ≤ p.length) ∧ (∀ c, c < z → pb p x y = true → pb p y c = true → pb p x c = true)) (fun (z : Nat) => p.length - z) 0 ⟨rfl, trivial⟩ ⟨rfl, ?_, ?_⟩ ?_
                  · try dsimp only
                    omega
                  · try dsimp only
                    intro c hc; omega
                  rintro g5 z hh5 ⟨rfl, hz, hC⟩ IH5
                  refine wi_seq <| wi_reg rfl <| lx_lssS rfl rfl rfl (fun c18 => ?_) (fun c18 => ?_)
                  · refine lx_nil <| wi_seq <| wi_true rfl <| wi_skip <| wi_seq <| wi_block <| wi_seq <| wi_reg rfl <| lx_move (.int .i64 ((z : Nat) : Int)) rfl rfl <| lx_assign (.int .i64 ((z : Nat) : Int)) rfl rfl <| lx_nil <| wi_seq <| wi_reg rfl <| lx_ldB (vp) rfl rfl fl29 hbk1 rfl rfl <| lx_move (.int .i64 ((x : Nat) : Int)) rfl rfl <| lx_ix (i := x) rfl eT29 hr_vp rfl rfl (by omega) <| lx_ld (i := x) (j := 0) ((gt hs x).v) rfl rfl fl70 (hr_vp.extS hx1) (by omega) rfl rfl <| lx_move (.int .i64 ((y : Nat) : Int)) rfl rfl <| lx_ix (i := y) rfl eT70 (ht_vp.2 x (by omega)) rfl rfl (by rw [hsq x (by omega)]; omega) <| lx_ld (i := y) (j := 0) (.bool false) rfl rfl fl4 ((ht_vp.extS hx1).2 x (by omega)) (by rw [hsq x (by omega)]; omega) (by show some (Value.bool (gt (gt p x) y)) = _; rw [c17]) rfl <| lx_move (.bool false) rfl rfl <| lx_skip rfl <| lx_skip rfl <| lx_skip rfl <| lx_skip rfl <| lx_skip rfl <| lx_skip rfl <| lx_skip rfl <| lx_pick false (.bool false) rfl rfl rfl <| lx_move (.bool false) rfl rfl <| lx_skip rfl <| lx_skip rfl <| lx_skip rfl <| lx_skip rfl <| lx_skip rfl <| lx_skip rfl <| lx_skip rfl <| lx_skip rfl <| lx_pick false (.bool false) rfl rfl rfl <| lx_nil <| wi_false rfl <| wi_skip <| wi_inBlock <| wi_reg rfl <| lx_add (((z + 1 : Nat) : Int)) rfl rfl rfl (by omega) (by omega) (by omega) <| lx_move (.int .i64 ((z + 1 : Nat) : Int)) rfl rfl <| lx_nil <| ?_
                    -- L4.1
                    refine IH5 _ _ (z + 1) (agree_ups rfl agree_self) ⟨rfl, trivial⟩ ⟨rfl, ?_, ?_⟩ ?_
                    · try dsimp only
                      omega
                    · try dsimp only
                      intro c hc h1 h2
                      by_cases e : c = z
                      · subst e; first | assumption | exact nbf (by assumption) | exact absurd h1 (ntb (by first | assumption | exact nbt (by assumption))) | exact absurd h2 (ntb (by first | assumption | exact nbt (by assumption)))
                      · exact hC c (by omega) h1 h2
                    · first | omega | (dsimp only; omega)
                  · refine lx_nil <| wi_seq <| wi_false rfl <| wi_exit rfl <| wi_inBlock <| wi_reg rfl <| lx_add (((y + 1 : Nat) : Int)) rfl rfl rfl (by omega) (by omega) (by omega) <| lx_move (.int .i64 ((y + 1 : Nat) : Int)) rfl rfl <| lx_nil <| ?_
                    -- L2.3
                    refine IH2 _ _ (y + 1) (agree_ups rfl (agree_mix (rngB_sub (by decide) (by decide) rfl) (agree_ups rfl agree_self))) ⟨rfl, trivial⟩ ⟨rfl, ?_, ?_⟩ ?_
                    · try dsimp only
                      omega
                    · try dsimp only
                      intro b hb
                      by_cases e : b = y
                      · subst e; exact ⟨fun e => (by first | assumption | exact nbf (by assumption) | (exfalso; omega)), fun h1 h2 => (by first | (exfalso; omega) | assumption | exact nbt (by assumption) | exact absurd h2 (ntb (by assumption))), fun c hc h1 h2 => hC c (by omega) h1 h2⟩
                      · exact hB b (by omega)
                    · first | omega | (dsimp only; omega)
                · refine lx_ldB (vp) rfl rfl fl29 hbk1 rfl rfl <| lx_move (.int .i64 ((y : Nat) : Int)) rfl rfl <| lx_ix (i := y) rfl eT29 hr_vp rfl rfl (by omega) <| lx_ld (i := y) (j := 0) ((gt hs y).v) rfl rfl fl70 (hr_vp.extS hx1) (by omega) rfl rfl <| lx_move (.int .i64 ((x : Nat) : Int)) rfl rfl <| lx_ix (i := x) rfl eT70 (ht_vp.2 y (by omega)) rfl rfl (by rw [hsq y (by omega)]; omega) <| lx_ld (i := x) (j := 0) (.bool (gt (gt p y) x)) rfl rfl fl4 ((ht_vp.extS hx1).2 y (by omega)) (by rw [hsq y (by omega)]; omega) rfl rfl <| lx_pick true (.bool (gt (gt p y) x)) rfl rfl rfl <| lx_pick false (.bool (gt (gt p y) x)) rfl rfl rfl <| lx_nil <| wi_condS (t := gt (gt p y) x) rfl (fun c19 => ?_) (fun c19 => ?_)
                  · refine wi_seq <| wi_reg rfl <| lx_assign (.int .i64 90) rfl rfl <| lx_nil <| ?_
                    -- R8
                    refine wi_ret ⟨.int .i64 90, (res_one rfl rfl), ⟨?_, hx1⟩⟩
                    · first
                      | (rw [chkT_size (by omega)]; done)
                      | rw [chkT_bad (bad_ok (x := x) (y := y) (by omega) (by omega) (by first | exact bad_tri (z := z) (by omega) (by first | assumption | exact nbf (by assumption) | exact nbt (by assumption)) (by first | assumption | exact nbf (by assumption) | exact nbt (by assumption)) (by first | assumption | exact nbf (by assumption) | exact nbt (by assumption)) | exact bad_refl (by omega) (by first | assumption | exact nbf (by assumption) | exact nbt (by assumption)) | exact bad_anti (by omega) (by first | assumption | exact nbf (by assumption) | exact nbt (by assumption)) (by first | assumption | exact nbf (by assumption) | exact nbt (by assumption))))]
                      | (have h9 : isT p = false := by
                           unfold isT; rw [show sqB p = false from by simpa using ‹(!sqB p) = true›]; rfl
                         rw [chkT_bad h9])
                      | (have h9 : isT p = true := isT_iff.2 ⟨hsQ, fun a b ha hb => hA a (by omega) b hb⟩
                         rw [ok_chkT (by omega) (by omega) h9])
                  · refine wi_skip <| wi_seq <| wi_reg rfl <| lx_ldB (vp) rfl rfl fl29 hbk1 rfl rfl <| lx_len rfl Try.underlying29 hr_vp rfl <| lx_move (.int .i64 0) rfl rfl <| lx_nil <| wi_block <| ?_
                    refine wi_loop (σ := Nat) (rngB 67 97 [2, 5]) (fun (z : Nat) => [(67, .int .i64 ((z : Nat) : Int))]) (fun (z : Nat) (hh : Heap) => h1 = hh ∧ (z ≤ p.length) ∧ (∀ c, c < z → pb p x y = true → pb p y c = true → pb p x c = true)) (fun (z : Nat) => p.length - z) 0 ⟨rfl, trivial⟩ ⟨rfl, ?_, ?_⟩ ?_
                    · try dsimp only
                      omega
                    · try dsimp only
                      intro c hc; omega
                    rintro g6 z hh6 ⟨rfl, hz, hC⟩ IH6
                    refine wi_seq <| wi_reg rfl <| lx_lssS rfl rfl rfl (fun c20 => ?_) (fun c20 => ?_)
                    · refine lx_nil <| wi_seq <| wi_true rfl <| wi_skip <| wi_seq <| wi_block <| wi_seq <| wi_reg rfl <| lx_move (.int .i64 ((z : Nat) : Int)) rfl rfl <| lx_assign (.int .i64 ((z : Nat) : Int)) rfl rfl <| lx_nil <| wi_seq <| wi_reg rfl <| lx_ldB (vp) rfl rfl fl29 hbk1 rfl rfl <| lx_move (.int .i64 ((x : Nat) : Int)) rfl rfl <| lx_ix (i := x) rfl eT29 hr_vp rfl rfl (by omega) <| lx_ld (i := x) (j := 0) ((gt hs x).v) rfl rfl fl70 (hr_vp.extS hx1) (by omega) rfl rfl <| lx_move (.int .i64 ((y : Nat) : Int)) rfl rfl <| lx_ix (i := y) rfl eT70 (ht_vp.2 x (by omega)) rfl rfl (by rw [hsq x (by omega)]; omega) <| lx_ld (i := y) (j := 0) (.bool true) rfl rfl fl4 ((ht_vp.extS hx1).2 x (by omega)) (by rw [hsq x (by omega)]; omega) (by show some (Value.bool (gt (gt p x) y)) = _; rw [c17]) rfl <| lx_move (.bool true) rfl rfl <| lx_ldB (vp) rfl rfl fl29 hbk1 rfl rfl <| lx_move (.int .i64 ((y : Nat) : Int)) rfl rfl <| lx_ix (i := y) rfl eT29 hr_vp rfl rfl (by omega) <| lx_ld (i := y) (j := 0) ((gt hs y).v) rfl rfl fl70 (hr_vp.extS hx1) (by omega) rfl rfl <| lx_move (.int .i64 ((z : Nat) : Int)) rfl rfl <| lx_ix (i := z) rfl eT70 (ht_vp.2 y (by omega)) rfl rfl (by rw [hsq y (by omega)]; omega) <| lx_ld (i := z) (j := 0) (.bool (gt (gt p y) z)) rfl rfl fl4 ((ht_vp.extS hx1).2 y (by omega)) (by rw [hsq y (by omega)]; omega) rfl rfl <| lx_pick true (.bool (gt (gt p y) z)) rfl rfl rfl <| lx_move (.bool (gt (gt p y) z)) rfl rfl <| ?_
                      cases c21 : (gt (gt p y) z)
                      · refine lx_skip rfl <| lx_skip rfl <| lx_skip rfl <| lx_skip rfl <| lx_skip rfl <| lx_skip rfl <| lx_skip rfl <| lx_skip rfl <| lx_pick false (.bool false) rfl rfl rfl <| lx_nil <| wi_false rfl <| wi_skip <| wi_inBlock <| wi_reg rfl <| lx_add (((z + 1 : Nat) : Int)) rfl rfl rfl (by omega) (by omega) (by omega) <| lx_move (.int .i64 ((z + 1 : Nat) : Int)) rfl rfl <| lx_nil <| ?_
                        -- L4.1
                        refine IH6 _ _ (z + 1) (agree_ups rfl agree_self) ⟨rfl, trivial⟩ ⟨rfl, ?_, ?_⟩ ?_
                        · try dsimp only
                          omega
                        · try dsimp only
                          intro c hc h1 h2
                          by_cases e : c = z
                          · subst e; first | assumption | exact nbf (by assumption) | exact absurd h1 (ntb (by first | assumption | exact nbt (by assumption))) | exact absurd h2 (ntb (by first | assumption | exact nbt (by assumption)))
                          · exact hC c (by omega) h1 h2
                        · first | omega | (dsimp only; omega)
                      · refine lx_ldB (vp) rfl rfl fl29 hbk1 rfl rfl <| lx_move (.int .i64 ((x : Nat) : Int)) rfl rfl <| lx_ix (i := x) rfl eT29 hr_vp rfl rfl (by omega) <| lx_ld (i := x) (j := 0) ((gt hs x).v) rfl rfl fl70 (hr_vp.extS hx1) (by omega) rfl rfl <| lx_move (.int .i64 ((z : Nat) : Int)) rfl rfl <| lx_ix (i := z) rfl eT70 (ht_vp.2 x (by omega)) rfl rfl (by rw [hsq x (by omega)]; omega) <| lx_ld (i := z) (j := 0) (.bool (gt (gt p x) z)) rfl rfl fl4 ((ht_vp.extS hx1).2 x (by omega)) (by rw [hsq x (by omega)]; omega) rfl rfl <| lx_not rfl rfl <| lx_pick true (.bool (!(gt (gt p x) z))) rfl rfl rfl <| lx_nil <| wi_condS (t := !(gt (gt p x) z)) rfl (fun c22 => ?_) (fun c22 => ?_)
                        · refine wi_seq <| wi_reg rfl <| lx_assign (.int .i64 90) rfl rfl <| lx_nil <| ?_
                          -- R9
                          refine wi_ret ⟨.int .i64 90, (res_one rfl rfl), ⟨?_, hx1⟩⟩
                          · first
                            | (rw [chkT_size (by omega)]; done)
                            | rw [chkT_bad (bad_ok (x := x) (y := y) (by omega) (by omega) (by first | exact bad_tri (z := z) (by omega) (by first | assumption | exact nbf (by assumption) | exact nbt (by assumption)) (by first | assumption | exact nbf (by assumption) | exact nbt (by assumption)) (by first | assumption | exact nbf (by assumption) | exact nbt (by assumption)) | exact bad_refl (by omega) (by first | assumption | exact nbf (by assumption) | exact nbt (by assumption)) | exact bad_anti (by omega) (by first | assumption | exact nbf (by assumption) | exact nbt (by assumption)) (by first | assumption | exact nbf (by assumption) | exact nbt (by assumption))))]
                            | (have h9 : isT p = false := by
                                 unfold isT; rw [show sqB p = false from by simpa using ‹(!sqB p) = true›]; rfl
                               rw [chkT_bad h9])
                            | (have h9 : isT p = true := isT_iff.2 ⟨hsQ, fun a b ha hb => hA a (by omega) b hb⟩
                               rw [ok_chkT (by omega) (by omega) h9])
                        · refine wi_skip <| wi_inBlock <| wi_reg rfl <| lx_add (((z + 1 : Nat) : Int)) rfl rfl rfl (by omega) (by omega) (by omega) <| lx_move (.int .i64 ((z + 1 : Nat) : Int)) rfl rfl <| lx_nil <| ?_
                          -- L4.2
                          refine IH6 _ _ (z + 1) (agree_ups rfl agree_self) ⟨rfl, trivial⟩ ⟨rfl, ?_, ?_⟩ ?_
                          · try dsimp only
                            omega
                          · try dsimp only
                            intro c hc h1 h2
                            by_cases e : c = z
                            · subst e; first | assumption | exact nbf (by assumption) | exact absurd h1 (ntb (by first | assumption | exact nbt (by assumption))) | exact absurd h2 (ntb (by first | assumption | exact nbt (by assumption)))
                            · exact hC c (by omega) h1 h2
                          · first | omega | (dsimp only; omega)
                    · refine lx_nil <| wi_seq <| wi_false rfl <| wi_exit rfl <| wi_inBlock <| wi_reg rfl <| lx_add (((y + 1 : Nat) : Int)) rfl rfl rfl (by omega) (by omega) (by omega) <| lx_move (.int .i64 ((y + 1 : Nat) : Int)) rfl rfl <| lx_nil <| ?_
                      -- L2.4
                      refine IH2 _ _ (y + 1) (agree_ups rfl (agree_mix (rngB_sub (by decide) (by decide) rfl) (agree_ups rfl agree_self))) ⟨rfl, trivial⟩ ⟨rfl, ?_, ?_⟩ ?_
                      · try dsimp only
                        omega
                      · try dsimp only
                        intro b hb
                        by_cases e : b = y
                        · subst e; exact ⟨fun e => (by first | assumption | exact nbf (by assumption) | (exfalso; omega)), fun h1 h2 => (by first | (exfalso; omega) | assumption | exact nbt (by assumption) | exact absurd h2 (ntb (by assumption))), fun c hc h1 h2 => hC c (by omega) h1 h2⟩
                        · exact hB b (by omega)
                      · first | omega | (dsimp only; omega)
              · refine lx_move (.bool false) rfl rfl <| lx_skip rfl <| lx_skip rfl <| lx_skip rfl <| lx_skip rfl <| lx_skip rfl <| lx_skip rfl <| lx_skip rfl <| lx_pick false (.bool false) rfl rfl rfl <| lx_move (.bool false) rfl rfl <| lx_skip rfl <| lx_skip rfl <| lx_skip rfl <| lx_skip rfl <| lx_skip rfl <| lx_skip rfl <| lx_skip rfl <| lx_pick false (.bool false) rfl rfl rfl <| lx_pick false (.bool false) rfl rfl rfl <| lx_nil <| wi_false rfl <| wi_skip <| wi_seq <| wi_reg rfl <| lx_ldB (vp) rfl rfl fl29 hbk1 rfl rfl <| lx_len rfl Try.underlying29 hr_vp rfl <| lx_move (.int .i64 0) rfl rfl <| lx_nil <| wi_block <| ?_
                refine wi_loop (σ := Nat) (rngB 67 97 [2, 5]) (fun (z : Nat) => [(67, .int .i64 ((z : Nat) : Int))]) (fun (z : Nat) (hh : Heap) => h1 = hh ∧ (z ≤ p.length) ∧ (∀ c, c < z → pb p x y = true → pb p y c = true → pb p x c = true)) (fun (z : Nat) => p.length - z) 0 ⟨rfl, trivial⟩ ⟨rfl, ?_, ?_⟩ ?_
                · try dsimp only
                  omega
                · try dsimp only
                  intro c hc; omega
                rintro g7 z hh7 ⟨rfl, hz, hC⟩ IH7
                refine wi_seq <| wi_reg rfl <| lx_lssS rfl rfl rfl (fun c23 => ?_) (fun c23 => ?_)
                · refine lx_nil <| wi_seq <| wi_true rfl <| wi_skip <| wi_seq <| wi_block <| wi_seq <| wi_reg rfl <| lx_move (.int .i64 ((z : Nat) : Int)) rfl rfl <| lx_assign (.int .i64 ((z : Nat) : Int)) rfl rfl <| lx_nil <| wi_seq <| wi_reg rfl <| lx_ldB (vp) rfl rfl fl29 hbk1 rfl rfl <| lx_move (.int .i64 ((x : Nat) : Int)) rfl rfl <| lx_ix (i := x) rfl eT29 hr_vp rfl rfl (by omega) <| lx_ld (i := x) (j := 0) ((gt hs x).v) rfl rfl fl70 (hr_vp.extS hx1) (by omega) rfl rfl <| lx_move (.int .i64 ((y : Nat) : Int)) rfl rfl <| lx_ix (i := y) rfl eT70 (ht_vp.2 x (by omega)) rfl rfl (by rw [hsq x (by omega)]; omega) <| lx_ld (i := y) (j := 0) (.bool (gt (gt p x) y)) rfl rfl fl4 ((ht_vp.extS hx1).2 x (by omega)) (by rw [hsq x (by omega)]; omega) rfl rfl <| lx_move (.bool (gt (gt p x) y)) rfl rfl <| ?_
                  cases c24 : (gt (gt p x) y)
                  · refine lx_skip rfl <| lx_skip rfl <| lx_skip rfl <| lx_skip rfl <| lx_skip rfl <| lx_skip rfl <| lx_skip rfl <| lx_pick false (.bool false) rfl rfl rfl <| lx_move (.bool false) rfl rfl <| lx_skip rfl <| lx_skip rfl <| lx_skip rfl <| lx_skip rfl <| lx_skip rfl <| lx_skip rfl <| lx_skip rfl <| lx_skip rfl <| lx_pick false (.bool false) rfl rfl rfl <| lx_nil <| wi_false rfl <| wi_skip <| wi_inBlock <| wi_reg rfl <| lx_add (((z + 1 : Nat) : Int)) rfl rfl rfl (by omega) (by omega) (by omega) <| lx_move (.int .i64 ((z + 1 : Nat) : Int)) rfl rfl <| lx_nil <| ?_
                    -- L4.1
                    refine IH7 _ _ (z + 1) (agree_ups rfl agree_self) ⟨rfl, trivial⟩ ⟨rfl, ?_, ?_⟩ ?_
                    · try dsimp only
                      omega
                    · try dsimp only
                      intro c hc h1 h2
                      by_cases e : c = z
                      · subst e; first | assumption | exact nbf (by assumption) | exact absurd h1 (ntb (by first | assumption | exact nbt (by assumption))) | exact absurd h2 (ntb (by first | assumption | exact nbt (by assumption)))
                      · exact hC c (by omega) h1 h2
                    · first | omega | (dsimp only; omega)
                  · refine lx_ldB (vp) rfl rfl fl29 hbk1 rfl rfl <| lx_move (.int .i64 ((y : Nat) : Int)) rfl rfl <| lx_ix (i := y) rfl eT29 hr_vp rfl rfl (by omega) <| lx_ld (i := y) (j := 0) ((gt hs y).v) rfl rfl fl70 (hr_vp.extS hx1) (by omega) rfl rfl <| lx_move (.int .i64 ((z : Nat) : Int)) rfl rfl <| lx_ix (i := z) rfl eT70 (ht_vp.2 y (by omega)) rfl rfl (by rw [hsq y (by omega)]; omega) <| lx_ld (i := z) (j := 0) (.bool (gt (gt p y) z)) rfl rfl fl4 ((ht_vp.extS hx1).2 y (by omega)) (by rw [hsq y (by omega)]; omega) rfl rfl <| lx_pick true (.bool (gt (gt p y) z)) rfl rfl rfl <| lx_move (.bool (gt (gt p y) z)) rfl rfl <| ?_
                    cases c25 : (gt (gt p y) z)
                    · refine lx_skip rfl <| lx_skip rfl <| lx_skip rfl <| lx_skip rfl <| lx_skip rfl <| lx_skip rfl <| lx_skip rfl <| lx_skip rfl <| lx_pick false (.bool false) rfl rfl rfl <| lx_nil <| wi_false rfl <| wi_skip <| wi_inBlock <| wi_reg rfl <| lx_add (((z + 1 : Nat) : Int)) rfl rfl rfl (by omega) (by omega) (by omega) <| lx_move (.int .i64 ((z + 1 : Nat) : Int)) rfl rfl <| lx_nil <| ?_
                      -- L4.2
                      refine IH7 _ _ (z + 1) (agree_ups rfl agree_self) ⟨rfl, trivial⟩ ⟨rfl, ?_, ?_⟩ ?_
                      · try dsimp only
                        omega
                      · try dsimp only
                        intro c hc h1 h2
                        by_cases e : c = z
                        · subst e; first | assumption | exact nbf (by assumption) | exact absurd h1 (ntb (by first | assumption | exact nbt (by assumption))) | exact absurd h2 (ntb (by first | assumption | exact nbt (by assumption)))
                        · exact hC c (by omega) h1 h2
                      · first | omega | (dsimp only; omega)
                    · refine lx_ldB (vp) rfl rfl fl29 hbk1 rfl rfl <| lx_move (.int .i64 ((x : Nat) : Int)) rfl rfl <| lx_ix (i := x) rfl eT29 hr_vp rfl rfl (by omega) <| lx_ld (i := x) (j := 0) ((gt hs x).v) rfl rfl fl70 (hr_vp.extS hx1) (by omega) rfl rfl <| lx_move (.int .i64 ((z : Nat) : Int)) rfl rfl <| lx_ix (i := z) rfl eT70 (ht_vp.2 x (by omega)) rfl rfl (by rw [hsq x (by omega)]; omega) <| lx_ld (i := z) (j := 0) (.bool (gt (gt p x) z)) rfl rfl fl4 ((ht_vp.extS hx1).2 x (by omega)) (by rw [hsq x (by omega)]; omega) rfl rfl <| lx_not rfl rfl <| lx_pick true (.bool (!(gt (gt p x) z))) rfl rfl rfl <| lx_nil <| wi_condS (t := !(gt (gt p x) z)) rfl (fun c26 => ?_) (fun c26 => ?_)
                      · refine wi_seq <| wi_reg rfl <| lx_assign (.int .i64 90) rfl rfl <| lx_nil <| ?_
                        -- R10
                        refine wi_ret ⟨.int .i64 90, (res_one rfl rfl), ⟨?_, hx1⟩⟩
                        · first
                          | (rw [chkT_size (by omega)]; done)
                          | rw [chkT_bad (bad_ok (x := x) (y := y) (by omega) (by omega) (by first | exact bad_tri (z := z) (by omega) (by first | assumption | exact nbf (by assumption) | exact nbt (by assumption)) (by first | assumption | exact nbf (by assumption) | exact nbt (by assumption)) (by first | assumption | exact nbf (by assumption) | exact nbt (by assumption)) | exact bad_refl (by omega) (by first | assumption | exact nbf (by assumption) | exact nbt (by assumption)) | exact bad_anti (by omega) (by first | assumption | exact nbf (by assumption) | exact nbt (by assumption)) (by first | assumption | exact nbf (by assumption) | exact nbt (by assumption))))]
                          | (have h9 : isT p = false := by
                               unfold isT; rw [show sqB p = false from by simpa using ‹(!sqB p) = true›]; rfl
                             rw [chkT_bad h9])
                          | (have h9 : isT p = true := isT_iff.2 ⟨hsQ, fun a b ha hb => hA a (by omega) b hb⟩
                             rw [ok_chkT (by omega) (by omega) h9])
                      · refine wi_skip <| wi_inBlock <| wi_reg rfl <| lx_add (((z + 1 : Nat) : Int)) rfl rfl rfl (by omega) (by omega) (by omega) <| lx_move (.int .i64 ((z + 1 : Nat) : Int)) rfl rfl <| lx_nil <| ?_
                        -- L4.3
                        refine IH7 _ _ (z + 1) (agree_ups rfl agree_self) ⟨rfl, trivial⟩ ⟨rfl, ?_, ?_⟩ ?_
                        · try dsimp only
                          omega
                        · try dsimp only
                          intro c hc h1 h2
                          by_cases e : c = z
                          · subst e; first | assumption | exact nbf (by assumption) | exact absurd h1 (ntb (by first | assumption | exact nbt (by assumption))) | exact absurd h2 (ntb (by first | assumption | exact nbt (by assumption)))
                          · exact hC c (by omega) h1 h2
                        · first | omega | (dsimp only; omega)
                · refine lx_nil <| wi_seq <| wi_false rfl <| wi_exit rfl <| wi_inBlock <| wi_reg rfl <| lx_add (((y + 1 : Nat) : Int)) rfl rfl rfl (by omega) (by omega) (by omega) <| lx_move (.int .i64 ((y + 1 : Nat) : Int)) rfl rfl <| lx_nil <| ?_
                  -- L2.5
                  refine IH2 _ _ (y + 1) (agree_ups rfl (agree_mix (rngB_sub (by decide) (by decide) rfl) (agree_ups rfl agree_self))) ⟨rfl, trivial⟩ ⟨rfl, ?_, ?_⟩ ?_
                  · try dsimp only
                    omega
                  · try dsimp only
                    intro b hb
                    by_cases e : b = y
                    · subst e; exact ⟨fun e => (by first | assumption | exact nbf (by assumption) | (exfalso; omega)), fun h1 h2 => (by first | (exfalso; omega) | assumption | exact nbt (by assumption) | exact absurd h2 (ntb (by assumption))), fun c hc h1 h2 => hC c (by omega) h1 h2⟩
                    · exact hB b (by omega)
                  · first | omega | (dsimp only; omega)
          · refine lx_nil <| wi_seq <| wi_false rfl <| wi_exit rfl <| wi_inBlock <| wi_reg rfl <| lx_add (((x + 1 : Nat) : Int)) rfl rfl rfl (by omega) (by omega) (by omega) <| lx_move (.int .i64 ((x + 1 : Nat) : Int)) rfl rfl <| lx_nil <| ?_
            -- L0.1
            refine IH1 _ _ (x + 1) (agree_ups rfl (agree_mix (rngB_sub (by decide) (by decide) rfl) (agree_ups rfl agree_self))) ⟨rfl, trivial⟩ ⟨rfl, ?_, ?_⟩ ?_
            · try dsimp only
              omega
            · try dsimp only
              intro a ha b hb
              by_cases e : a = x
              · subst e; exact hB b (by omega)
              · exact hA a (by omega) b hb
            · first | omega | (dsimp only; omega)
        · refine lx_nil <| wi_seq <| wi_false rfl <| wi_exit rfl <| wi_seq <| wi_reg rfl <| lx_assign (.int .i64 0) rfl rfl <| lx_nil <| ?_
          -- R11
          refine wi_ret ⟨.int .i64 0, (res_one rfl rfl), ⟨?_, hx1⟩⟩
          · first
            | (rw [chkT_size (by omega)]; done)
            | rw [chkT_bad (bad_ok (x := x) (y := y) (by omega) (by omega) (by first | exact bad_tri (z := z) (by omega) (by first | assumption | exact nbf (by assumption) | exact nbt (by assumption)) (by first | assumption | exact nbf (by assumption) | exact nbt (by assumption)) (by first | assumption | exact nbf (by assumption) | exact nbt (by assumption)) | exact bad_refl (by omega) (by first | assumption | exact nbf (by assumption) | exact nbt (by assumption)) | exact bad_anti (by omega) (by first | assumption | exact nbf (by assumption) | exact nbt (by assumption)) (by first | assumption | exact nbf (by assumption) | exact nbt (by assumption))))]
            | (have h9 : isT p = false := by
                 unfold isT; rw [show sqB p = false from by simpa using ‹(!sqB p) = true›]; rfl
               rw [chkT_bad h9])
            | (have h9 : isT p = true := isT_iff.2 ⟨hsQ, fun a b ha hb => hA a (by omega) b hb⟩
               rw [ok_chkT (by omega) (by omega) h9])

end Go.Proofs.Ytdokijbdnajhgaa
namespace Go.Proofs.Ytdokijbdnajhgaa
open Go Go.X

set_option maxRecDepth 10000 in
theorem obare_spec (h : Heap) (n : Nat) (hp1 : n ≤ 1000000) : Fx Try.prog 115 [.int .i64 ((n : Nat) : Int)] h (fun v h' => ∃ (s : Value) (hs : List Hdr), v = s ∧ OwE encHd h' h.size 70 s hs ∧ OT encB h' h.size 4 hs (tabF n (fun x y => decide (x = y))) ∧ Ext h.size h h') := by
  refine fx_intro (n := 25) [(0, .int .i64 ((n : Nat) : Int))] Try.func115 rfl rfl (by simp) ⟨rfl, trivial⟩ fun g0 => ?_
  refine wi_seq <| wi_reg rfl <| lx_assign (.slice none 0 0) rfl rfl <| lx_nil <| wi_seq <| wi_reg rfl <| lx_move (.int .i64 ((n : Nat) : Int)) rfl rfl <| lx_make (E := encHd) (n := n) (B := h.size) (default : Hdr) rfl rfl Try.underlying29 (eZ29) rfl rfl (by omega) (by omega) (Nat.le_refl _) (fun _ _ => trivial) fun v1 h1 ho1 hx1 hvb1 => ?_
  have ho2 := ho1.base (Nat.le_refl h.size)
  have hot1 := OT.rep encB h1 h.size 4 n
  have hl_hot1 := hot1.1
  refine lx_assign (v1) rfl rfl <| lx_nil <| wi_seq <| wi_seq <| wi_reg rfl <| lx_move (v1) rfl rfl <| lx_len rfl Try.underlying29 ho2.rd rfl <| lx_move (.int .i64 0) rfl rfl <| lx_nil <| wi_block <| ?_
  refine wi_loop (σ := Nat × (List Hdr) × (List (List Bool))) (rngB 9 24 [4]) (fun (ss : Nat × (List Hdr) × (List (List Bool))) => [(9, .int .i64 ((ss.1 : Nat) : Int))]) (fun (ss : Nat × (List Hdr) × (List (List Bool))) (hh : Heap) => OwE encHd hh h.size 70 v1 ss.2.1 ∧ OT encB hh h.size 4 ss.2.1 ss.2.2 ∧ Ext h.size h hh ∧ (ss.1 ≤ n) ∧ (ss.2.2.length = n) ∧ (∀ i, i < ss.1 → gt ss.2.2 i = rowF n fun j => decide (i = j))) (fun (ss : Nat × (List Hdr) × (List (List Bool))) => n - ss.1) (0, List.replicate n default, List.replicate n []) ⟨rfl, trivial⟩ ⟨?_, ?_, hx1, ?_, ?_, ?_⟩ ?_
  · first | exact ho2 | (simpa using ho2)
  · first | exact hot1 | (simpa using hot1)
  · try dsimp only
    omega
  · try dsimp only
    simp
  · try dsimp only
    intro i hi; omega
  rintro g1 ⟨x, hs, rows⟩ hh1 ⟨ho3, hot2, hx0_1, hx, hrl, hrw⟩ IH1
  dsimp only at *
  have hrr : (List.replicate n ([] : List Bool)).length = n := by simp
  have hrr2 : (List.replicate n (default : Hdr)).length = n := by simp
  have hl_hot2 := hot2.1
  refine wi_seq <| wi_reg rfl <| lx_lssS rfl rfl rfl (fun c1 => ?_) (fun c1 => ?_)
  · refine lx_nil <| wi_seq <| wi_true rfl <| wi_skip <| wi_seq <| wi_block <| wi_seq <| wi_reg rfl <| lx_move (.int .i64 ((x : Nat) : Int)) rfl rfl <| lx_assign (.int .i64 ((x : Nat) : Int)) rfl rfl <| lx_nil <| wi_seq <| wi_reg rfl <| lx_move (v1) rfl rfl <| lx_move (.int .i64 ((x : Nat) : Int)) rfl rfl <| lx_move (.int .i64 ((n : Nat) : Int)) rfl rfl <| lx_make (E := encB) (n := n) (B := hh1.size) false rfl rfl Try.underlying70 (eZ70) rfl rfl (by omega) (by omega) (Nat.le_refl _) (fun _ _ => trivial) fun v2 h2 ho4 hx2 hvb2 => ?_
    have hx0_2 := hx0_1.trans2 hx2 hx0_1.size
    have ho5 := ho3.extS hx2
    have hot3 := hot2.extS hx2
    have ho6 := ho4.base hx0_1.size
    have hot4 : OT encB h2 h.size 4 (hs.set x (hdrOf v2)) (rows.set x (List.replicate n false)) := OT.set hot3 (by omega) ho6 (djt_ne (djt_new hot2 ho4))
    refine lx_ix (i := x) rfl eT29 ho5.rd rfl rfl (by omega) <| lx_st (i := x) (hdrOf v2) rfl rfl Try.sizeOf70 ho5 (by omega) rfl (hdr_cells ho6.rd) (fun _ _ _ _ _ => trivial) fun h3 ho7 hc1 hsz1 => ?_
    have hx0_3 := hx0_2.trans (ho5.ext hc1 hx0_2.size)
    have hot5 : OT encB h3 h.size 4 (hs.set x (hdrOf v2)) (rows.set x (List.replicate n false)) := hot4.chg hc1 (djt_ty hot4 ho5 (by decide))
    have hl_hot5 := hot5.1
    have ho7 : OwE encHd h3 h.size 70 v1 (hs.set x (hdrOf v2)) := ho7
    refine lx_nil <| wi_reg rfl <| ?_
    have hgx : (gt (rows.set x (List.replicate n false)) x).length = n := by rw [gt_set (by omega), if_pos rfl]; simp
    refine lx_move (v1) rfl rfl <| lx_move (.int .i64 ((x : Nat) : Int)) rfl rfl <| lx_ix (i := x) rfl eT29 ho7.rd rfl rfl (by first | omega | (simp only [List.length_set, List.length_append, List.length_cons, List.length_nil, List.length_replicate, List.length_take, swp_length, exch_length]; omega)) <| lx_ld (i := x) (j := 0) ((gt (hs.set x (hdrOf v2)) x).v) rfl rfl fl70 ho7.rd (by first | omega | (simp only [List.length_set, List.length_append, List.length_cons, List.length_nil, List.length_replicate, List.length_take, swp_length, exch_length]; omega)) rfl rfl <| lx_move (.int .i64 ((x : Nat) : Int)) rfl rfl <| lx_ix (i := x) rfl eT70 (hot5.2.1 x (by first | omega | (simp only [List.length_set, List.length_append, List.length_cons, List.length_nil, List.length_replicate, List.length_take, swp_length, exch_length]; omega))).rd rfl rfl (by first | omega | (simp only [List.length_set, List.length_append, List.length_cons, List.length_nil, List.length_replicate, List.length_take, swp_length, exch_length]; omega)) <| lx_st (i := x) true rfl rfl Try.sizeOf4 (hot5.2.1 x (by first | omega | (simp only [List.length_set, List.length_append, List.length_cons, List.length_nil, List.length_replicate, List.length_take, swp_length, exch_length]; omega))) (by first | omega | (simp only [List.length_set, List.length_append, List.length_cons, List.length_nil, List.length_replicate, List.length_take, swp_length, exch_length]; omega)) rfl rfl (fun _ _ _ _ _ => trivial) fun h4 ho8 hc2 hsz2 => ?_
    have hx0_4 := hx0_3.trans ((hot5.2.1 x (by first | omega | (simp only [List.length_set, List.length_append, List.length_cons, List.length_nil, List.length_replicate, List.length_take, swp_length, exch_length]; omega))).ext hc2 hx0_3.size)
    have ho9 := ho7.chg hc2 (Dj.symm ((djt_ty hot5 ho7 (by decide)) x (by rw [hot5.1]; exact (by first | omega | (simp only [List.length_set, List.length_append, List.length_cons, List.length_nil, List.length_replicate, List.length_take, swp_length, exch_length]; omega)))))
    have hot6 := OT.cell hot5 (by first | omega | (simp only [List.length_set, List.length_append, List.length_cons, List.length_nil, List.length_replicate, List.length_take, swp_length, exch_length]; omega)) hc2 ho8
    have hl_hot6 := hot6.1
    refine lx_nil <| wi_inBlock <| wi_reg rfl <| lx_add (((x + 1 : Nat) : Int)) rfl rfl rfl (by omega) (by omega) (by omega) <| lx_move (.int .i64 ((x + 1 : Nat) : Int)) rfl rfl <| lx_nil <| ?_
    -- L0.1
    refine IH1 _ _ (x + 1, hs.set x (hdrOf v2), (rows.set x (List.replicate n false)).set x ((gt (rows.set x (List.replicate n false)) x).set x true)) (agree_ups rfl agree_self) ⟨rfl, trivial⟩ ⟨?_, ?_, hx0_4, ?_, ?_, ?_⟩ ?_
    · first | exact ho9 | (simpa using ho9)
    · first | exact hot6 | (simpa using hot6)
    · try dsimp only
      omega
    · try dsimp only
      simpa using hrl
    · try dsimp only
      intro i hi
      rw [gt_set (by simpa using by omega)]
      split
      · rename_i e; subst e; rw [gt_set (by omega), if_pos rfl]; exact id_row (by omega)
      · rename_i e; rw [gt_set (by omega), if_neg e]; exact hrw i (by omega)
    · first | omega | (dsimp only; omega)
  · refine lx_nil <| wi_seq <| wi_false rfl <| wi_exit rfl <| wi_seq <| wi_reg rfl <| lx_move (v1) rfl rfl <| lx_assign (v1) rfl rfl <| lx_nil <| ?_
    -- R1
    refine wi_ret ⟨v1, (res_one rfl rfl), ⟨v1, hs, rfl, ?_, ?_, hx0_1⟩⟩
    · exact ho3
    · rw [← tab_rows hrl (fun i hi => hrw i (by omega))]; exact hot2

set_option maxRecDepth 10000 in
theorem oclosed_spec (h : Heap) (B : Nat) (vp : Value) (hs : List Hdr) (p : List (List Bool)) (ho_vp : OwE encHd h B 70 vp hs) (ht_vp : OT encB h B 4 hs p) (hB : B ≤ h.size) (hp1 : p.length ≤ 1000000) (hp2 : Sq p p.length) : Fx Try.prog 116 [vp] h (fun v h' => ∃ (r : List (List Bool)), v = vp ∧ OwE encHd h' B 70 vp hs ∧ OT encB h' B 4 hs r ∧ (r = tabF p.length (warN (pb p) p.length)) ∧ Ext B h h') := by
  have hl_vp := ht_vp.1
  refine fx_intro (n := 56) [(0, vp)] Try.func116 rfl rfl (by simp) ⟨rfl, trivial⟩ fun g0 => ?_
  refine wi_seq <| wi_reg rfl <| lx_assign (.slice none 0 0) rfl rfl <| lx_nil <| wi_seq <| wi_seq <| wi_reg rfl <| lx_move (vp) rfl rfl <| lx_len rfl Try.underlying29 ho_vp.rd rfl <| lx_move (.int .i64 0) rfl rfl <| lx_nil <| wi_block <| ?_
  refine wi_loop (σ := Nat × (List (List Bool))) (rngB 8 55 [3, 4, 5]) (fun (ss : Nat × (List (List Bool))) => [(8, .int .i64 ((ss.1 : Nat) : Int))]) (fun (ss : Nat × (List (List Bool))) (hh : Heap) => OwE encHd hh B 70 vp hs ∧ OT encB hh B 4 hs ss.2 ∧ Ext B h hh ∧ (ss.1 ≤ p.length) ∧ (Sq ss.2 p.length) ∧ (∀ a c, a < p.length → c < p.length → pb ss.2 a c = warN (pb p) ss.1 a c)) (fun (ss : Nat × (List (List Bool))) => p.length - ss.1) (0, p) ⟨rfl, trivial⟩ ⟨?_, ?_, (Ext.refl _ _), ?_, ?_, ?_⟩ ?_
  · first | exact ho_vp | (simpa using ho_vp)
  · first | exact ht_vp | (simpa using ht_vp)
  · try dsimp only
    omega
  · try dsimp only
    exact hp2
  · try dsimp only
    exact fun _ _ _ _ => rfl
  rintro g1 ⟨y, r⟩ hh1 ⟨ho1, hot1, hx0_1, hy, hq, hr⟩ IH1
  dsimp only at *
  have hq1 := hq.1
  have hl_hot1 := hot1.1
  refine wi_seq <| wi_reg rfl <| lx_lssS rfl rfl rfl (fun c1 => ?_) (fun c1 => ?_)
  · refine lx_nil <| wi_seq <| wi_true rfl <| wi_skip <| wi_seq <| wi_block <| wi_seq <| wi_reg rfl <| lx_move (.int .i64 ((y : Nat) : Int)) rfl rfl <| lx_assign (.int .i64 ((y : Nat) : Int)) rfl rfl <| lx_nil <| wi_seq <| wi_reg rfl <| lx_move (vp) rfl rfl <| lx_len rfl Try.underlying29 ho1.rd rfl <| lx_move (.int .i64 0) rfl rfl <| lx_nil <| wi_block <| ?_
    refine wi_loop (σ := Nat × (List (List Bool))) (rngB 13 54 [4, 5]) (fun (ss : Nat × (List (List Bool))) => [(13, .int .i64 ((ss.1 : Nat) : Int))]) (fun (ss : Nat × (List (List Bool))) (hh : Heap) => OwE encHd hh B 70 vp hs ∧ OT encB hh B 4 hs ss.2 ∧ Ext B h hh ∧ (ss.1 ≤ p.length) ∧ (Sq ss.2 p.length) ∧ (∀ a c, a < p.length → c < p.length → pb ss.2 a c = warS (warN (pb p) y) y ss.1 0 a c)) (fun (ss : Nat × (List (List Bool))) => p.length - ss.1) (0, r) ⟨rfl, trivial⟩ ⟨?_, ?_, hx0_1, ?_, ?_, ?_⟩ ?_
    · first | exact ho1 | (simpa using ho1)
    · first | exact hot1 | (simpa using hot1)
    · try dsimp only
      omega
    · try dsimp only
      exact hq
    · try dsimp only
      intro a c ha hc; rw [warS_zero]; exact hr a c ha hc
    rintro g2 ⟨x, r⟩ hh2 ⟨ho2, hot2, hx0_2, hx, hq, hr⟩ IH2
    dsimp only at *
    have hq1 := hq.1
    have hl_hot2 := hot2.1
    refine wi_seq <| wi_reg rfl <| lx_lssS rfl rfl rfl (fun c2 => ?_) (fun c2 => ?_)
    · refine lx_nil <| wi_seq <| wi_true rfl <| wi_skip <| wi_seq <| wi_block <| wi_seq <| wi_reg rfl <| lx_move (.int .i64 ((x : Nat) : Int)) rfl rfl <| lx_assign (.int .i64 ((x : Nat) : Int)) rfl rfl <| lx_nil <| wi_seq <| wi_reg rfl <| lx_move (vp) rfl rfl <| lx_len rfl Try.underlying29 ho2.rd rfl <| lx_move (.int .i64 0) rfl rfl <| lx_nil <| wi_block <| ?_
      refine wi_loop (σ := Nat × (List (List Bool))) (rngB 18 53 [5]) (fun (ss : Nat × (List (List Bool))) => [(18, .int .i64 ((ss.1 : Nat) : Int))]) (fun (ss : Nat × (List (List Bool))) (hh : Heap) => OwE encHd hh B 70 vp hs ∧ OT encB hh B 4 hs ss.2 ∧ Ext B h hh ∧ (ss.1 ≤ p.length) ∧ (Sq ss.2 p.length) ∧ (∀ a c, a < p.length → c < p.length → pb ss.2 a c = warS (warN (pb p) y) y x ss.1 a c)) (fun (ss : Nat × (List (List Bool))) => p.length - ss.1) (0, r) ⟨rfl, trivial⟩ ⟨?_, ?_, hx0_2, ?_, ?_, ?_⟩ ?_
      · first | exact ho2 | (simpa using ho2)
      · first | exact hot2 | (simpa using hot2)
      · try dsimp only
        omega
      · try dsimp only
        exact hq
      · try dsimp only
        exact hr
      rintro g3 ⟨z, r⟩ hh3 ⟨ho3, hot3, hx0_3, hz, hq, hr⟩ IH3
      dsimp only at *
      have hq1 := hq.1
      have hl_hot3 := hot3.1
      refine wi_seq <| wi_reg rfl <| lx_lssS rfl rfl rfl (fun c3 => ?_) (fun c3 => ?_)
      · refine lx_nil <| wi_seq <| wi_true rfl <| wi_skip <| wi_seq <| wi_block <| wi_seq <| wi_reg rfl <| lx_move (.int .i64 ((z : Nat) : Int)) rfl rfl <| lx_assign (.int .i64 ((z : Nat) : Int)) rfl rfl <| lx_nil <| wi_draw mo rfl (by decide +kernel) <| lx_move (vp) rfl rfl <| lx_move (.int .i64 ((x : Nat) : Int)) rfl rfl <| lx_ix (i := x) rfl eT29 ho3.rd rfl rfl (by omega) <| lx_ld (i := x) (j := 0) ((gt hs x).v) rfl rfl fl70 ho3.rd (by omega) rfl rfl <| lx_move (.int .i64 ((z : Nat) : Int)) rfl rfl <| lx_move (vp) rfl rfl <| lx_move (.int .i64 ((x : Nat) : Int)) rfl rfl <| lx_ix (i := x) rfl eT29 ho3.rd rfl rfl (by omega) <| lx_ld (i := x) (j := 0) ((gt hs x).v) rfl rfl fl70 ho3.rd (by omega) rfl rfl <| lx_move (.int .i64 ((z : Nat) : Int)) rfl rfl <| lx_ix (i := z) rfl eT70 (hot3.2.1 x (by omega)).rd rfl rfl (by rw [hq.2 x (by omega)]; omega) <| lx_ld (i := z) (j := 0) (.bool (gt (gt r x) z)) rfl rfl fl4 (hot3.2.1 x (by omega)).rd (by rw [hq.2 x (by omega)]; omega) rfl rfl <| lx_move (.bool (gt (gt r x) z)) rfl rfl <| ?_
        cases c4 : (gt (gt r x) z)
        · refine lx_move (vp) rfl rfl <| lx_move (.int .i64 ((x : Nat) : Int)) rfl rfl <| lx_ix (i := x) rfl eT29 ho3.rd rfl rfl (by omega) <| lx_ld (i := x) (j := 0) ((gt hs x).v) rfl rfl fl70 ho3.rd (by omega) rfl rfl <| lx_move (.int .i64 ((y : Nat) : Int)) rfl rfl <| lx_ix (i := y) rfl eT70 (hot3.2.1 x (by omega)).rd rfl rfl (by rw [hq.2 x (by omega)]; omega) <| lx_ld (i := y) (j := 0) (.bool (gt (gt r x) y)) rfl rfl fl4 (hot3.2.1 x (by omega)).rd (by rw [hq.2 x (by omega)]; omega) rfl rfl <| lx_move (.bool (gt (gt r x) y)) rfl rfl <| ?_
          cases c5 : (gt (gt r x) y)
          · refine lx_skip rfl <| lx_skip rfl <| lx_skip rfl <| lx_skip rfl <| lx_skip rfl <| lx_skip rfl <| lx_skip rfl <| lx_pick false (.bool false) rfl rfl rfl <| lx_pick false (.bool false) rfl rfl rfl <| lx_ix (i := z) rfl eT70 (hot3.2.1 x (by omega)).rd rfl rfl (by rw [hq.2 x (by omega)]; omega) <| lx_st (i := z) false rfl rfl Try.sizeOf4 (hot3.2.1 x (by omega)) (by rw [hq.2 x (by omega)]; omega) rfl rfl (fun _ _ _ _ _ => trivial) fun h1 ho4 hc1 hsz1 => ?_
            have hx0_4 := hx0_3.trans ((hot3.2.1 x (by omega)).ext hc1 (Nat.le_trans hB hx0_3.size))
            have ho5 := ho3.chg hc1 (Dj.symm ((djt_ty hot3 ho3 (by decide)) x (by rw [hot3.1]; exact (by omega))))
            have hot4 := OT.cell hot3 (by omega) hc1 ho4
            have hl_hot4 := hot4.1
            refine lx_nil <| wi_inBlock <| wi_reg rfl <| lx_add (((z + 1 : Nat) : Int)) rfl rfl rfl (by omega) (by omega) (by omega) <| lx_move (.int .i64 ((z + 1 : Nat) : Int)) rfl rfl <| lx_nil <| ?_
            -- L4.1
            refine IH3 _ _ (z + 1, r.set x ((gt r x).set z false)) (agree_ups rfl agree_self) ⟨rfl, trivial⟩ ⟨?_, ?_, hx0_4, ?_, ?_, ?_⟩ ?_
            · first | exact ho5 | (simpa using ho5)
            · first | exact hot4 | (simpa using hot4)
            · try dsimp only
              omega
            · try dsimp only
              exact sq_set hq (by omega)
            · try dsimp only
              exact warS_step hq (by omega) (by omega) hr (by rw [warS_val (r := r) (by omega) (by omega) (by omega) hr]; first | exact or_t (by with_reducible assumption) | exact or_f (by with_reducible assumption) (by with_reducible assumption) | exact or_v (by with_reducible assumption) (by with_reducible assumption))
            · first | omega | (dsimp only; omega)
          · refine lx_move (vp) rfl rfl <| lx_move (.int .i64 ((y : Nat) : Int)) rfl rfl <| lx_ix (i := y) rfl eT29 ho3.rd rfl rfl (by omega) <| lx_ld (i := y) (j := 0) ((gt hs y).v) rfl rfl fl70 ho3.rd (by omega) rfl rfl <| lx_move (.int .i64 ((z : Nat) : Int)) rfl rfl <| lx_ix (i := z) rfl eT70 (hot3.2.1 y (by omega)).rd rfl rfl (by rw [hq.2 y (by omega)]; omega) <| lx_ld (i := z) (j := 0) (.bool (gt (gt r y) z)) rfl rfl fl4 (hot3.2.1 y (by omega)).rd (by rw [hq.2 y (by omega)]; omega) rfl rfl <| lx_pick true (.bool (gt (gt r y) z)) rfl rfl rfl <| lx_pick false (.bool (gt (gt r y) z)) rfl rfl rfl <| lx_ix (i := z) rfl eT70 (hot3.2.1 x (by omega)).rd rfl rfl (by rw [hq.2 x (by omega)]; omega) <| lx_st (i := z) (gt (gt r y) z) rfl rfl Try.sizeOf4 (hot3.2.1 x (by omega)) (by rw [hq.2 x (by omega)]; omega) rfl rfl (fun _ _ _ _ _ => trivial) fun h2 ho6 hc2 hsz2 => ?_
            have hx0_5 := hx0_3.trans ((hot3.2.1 x (by omega)).ext hc2 (Nat.le_trans hB hx0_3.size))
            have ho7 := ho3.chg hc2 (Dj.symm ((djt_ty hot3 ho3 (by decide)) x (by rw [hot3.1]; exact (by omega))))
            have hot5 := OT.cell hot3 (by omega) hc2 ho6
            have hl_hot5 := hot5.1
            refine lx_nil <| wi_inBlock <| wi_reg rfl <| lx_add (((z + 1 : Nat) : Int)) rfl rfl rfl (by omega) (by omega) (by omega) <| lx_move (.int .i64 ((z + 1 : Nat) : Int)) rfl rfl <| lx_nil <| ?_
            -- L4.2
            refine IH3 _ _ (z + 1, r.set x ((gt r x).set z (gt (gt r y) z))) (agree_ups rfl agree_self) ⟨rfl, trivial⟩ ⟨?_, ?_, hx0_5, ?_, ?_, ?_⟩ ?_
            · first | exact ho7 | (simpa using ho7)
            · first | exact hot5 | (simpa using hot5)
            · try dsimp only
              omega
            · try dsimp only
              exact sq_set hq (by omega)
            · try dsimp only
              exact warS_step hq (by omega) (by omega) hr (by rw [warS_val (r := r) (by omega) (by omega) (by omega) hr]; first | exact or_t (by with_reducible assumption) | exact or_f (by with_reducible assumption) (by with_reducible assumption) | exact or_v (by with_reducible assumption) (by with_reducible assumption))
            · first | omega | (dsimp only; omega)
        · refine lx_skip rfl <| lx_skip rfl <| lx_skip rfl <| lx_skip rfl <| lx_skip rfl <| lx_skip rfl <| lx_skip rfl <| lx_skip rfl <| lx_skip rfl <| lx_skip rfl <| lx_skip rfl <| lx_skip rfl <| lx_skip rfl <| lx_skip rfl <| lx_skip rfl <| lx_skip rfl <| lx_pick true (.bool true) rfl rfl rfl <| lx_ix (i := z) rfl eT70 (hot3.2.1 x (by omega)).rd rfl rfl (by rw [hq.2 x (by omega)]; omega) <| lx_st (i := z) true rfl rfl Try.sizeOf4 (hot3.2.1 x (by omega)) (by rw [hq.2 x (by omega)]; omega) rfl rfl (fun _ _ _ _ _ => trivial) fun h3 ho8 hc3 hsz3 => ?_
          have hx0_6 := hx0_3.trans ((hot3.2.1 x (by omega)).ext hc3 (Nat.le_trans hB hx0_3.size))
          have ho9 := ho3.chg hc3 (Dj.symm ((djt_ty hot3 ho3 (by decide)) x (by rw [hot3.1]; exact (by omega))))
          have hot6 := OT.cell hot3 (by omega) hc3 ho8
          have hl_hot6 := hot6.1
          refine lx_nil <| wi_inBlock <| wi_reg rfl <| lx_add (((z + 1 : Nat) : Int)) rfl rfl rfl (by omega) (by omega) (by omega) <| lx_move (.int .i64 ((z + 1 : Nat) : Int)) rfl rfl <| lx_nil <| ?_
          -- L4.3
          refine IH3 _ _ (z + 1, r.set x ((gt r x).set z true)) (agree_ups rfl agree_self) ⟨rfl, trivial⟩ ⟨?_, ?_, hx0_6, ?_, ?_, ?_⟩ ?_
          · first | exact ho9 | (simpa using ho9)
          · first | exact hot6 | (simpa using hot6)
          · try dsimp only
            omega
          · try dsimp only
            exact sq_set hq (by omega)
          · try dsimp only
            exact warS_step hq (by omega) (by omega) hr (by rw [warS_val (r := r) (by omega) (by omega) (by omega) hr]; first | exact or_t (by with_reducible assumption) | exact or_f (by with_reducible assumption) (by with_reducible assumption) | exact or_v (by with_reducible assumption) (by with_reducible assumption))
          · first | omega | (dsimp only; omega)
      · refine lx_nil <| wi_seq <| wi_false rfl <| wi_exit rfl <| wi_inBlock <| wi_reg rfl <| lx_add (((x + 1 : Nat) : Int)) rfl rfl rfl (by omega) (by omega) (by omega) <| lx_move (.int .i64 ((x + 1 : Nat) : Int)) rfl rfl <| lx_nil <| ?_
        -- L2.1
        refine IH2 _ _ (x + 1, r) (agree_ups rfl (agree_mix (rngB_sub (by decide) (by decide) rfl) (agree_ups rfl agree_self))) ⟨rfl, trivial⟩ ⟨?_, ?_, hx0_3, ?_, ?_, ?_⟩ ?_
        · first | exact ho3 | (simpa using ho3)
        · first | exact hot3 | (simpa using hot3)
        · try dsimp only
          omega
        · try dsimp only
          exact hq
        · try dsimp only
          intro a c ha hc; rw [hr a c ha hc, show z = p.length from by omega]; exact warS_next _ hc
        · first | omega | (dsimp only; omega)
    · refine lx_nil <| wi_seq <| wi_false rfl <| wi_exit rfl <| wi_inBlock <| wi_reg rfl <| lx_add (((y + 1 : Nat) : Int)) rfl rfl rfl (by omega) (by omega) (by omega) <| lx_move (.int .i64 ((y + 1 : Nat) : Int)) rfl rfl <| lx_nil <| ?_
      -- L0.1
      refine IH1 _ _ (y + 1, r) (agree_ups rfl (agree_mix (rngB_sub (by decide) (by decide) rfl) (agree_ups rfl agree_self))) ⟨rfl, trivial⟩ ⟨?_, ?_, hx0_2, ?_, ?_, ?_⟩ ?_
      · first | exact ho2 | (simpa using ho2)
      · first | exact hot2 | (simpa using hot2)
      · try dsimp only
        omega
      · try dsimp only
        exact hq
      · try dsimp only
        intro a c ha hc; rw [hr a c ha hc, show x = p.length from by omega]; exact warS_end _ ha
      · first | omega | (dsimp only; omega)
  · refine lx_nil <| wi_seq <| wi_false rfl <| wi_exit rfl <| wi_seq <| wi_reg rfl <| lx_move (vp) rfl rfl <| lx_assign (vp) rfl rfl <| lx_nil <| ?_
    -- R1
    refine wi_ret ⟨vp, (res_one rfl rfl), ⟨r, rfl, ho1, hot1, ?_, hx0_1⟩⟩
    · exact tab_ext hq (fun a c ha hc => by rw [hr a c ha hc, show y = p.length from by omega])

end Go.Proofs.Ytdokijbdnajhgaa
