/-
  The rules for code: functions, sequences, tests, blocks, loops, regions.
-/
import Derived.Test.YtdokijbdnajhgaaXCoreB
set_option linter.unusedSimpArgs false
set_option linter.unusedVariables false
namespace Go.X

def TT (_ : Heap) : Prop := True

/-- Which operations are free, which read, which act. -/
def kindOf (o : Oper) : Kd :=
  match o.op with
  | .move _ | .assign _ | .pick _ _ _ | .binOp .. | .unOp .. | .convert .. | .build .. | .field .. | .fieldAddr .. | .indexAddr .. | .index .. | .extract ..
  | .makeInterface .. | .makeFunc .. | .nilCheck _ | .slice .. => .free
  | .call { callee := .builtin .len, .. } | .call { callee := .builtin .max, .. } | .call { callee := .builtin .min, .. } => .free
  | .load .. | .lookup .. => .read
  | .alloc _ | .box .. | .buildSlice .. | .makeSlice .. => .new
  | _ => .eff

/-- How an activation stands: in a round or not; the marks among its deferred calls. -/
structure Mo where
  ro : Option Nat
  ds : List Deferred

/-- The jump by which a round is left, off what is still to do. -/
def LeavesBy : Option Code → List Item → Prop
  | none, t => t = []
  | some .ret, t => ∃ k, t = .code .ret :: k
  | some (.exit id), t => ∃ k, t = .code (.exit id) :: k ∧ exitTo id k = none
  | _, _ => False

def LastF (ro : Option Nat) (j : Option Code) (b : Frame) (a : Act) (fr : Frame) : Prop :=
  match ro with
  | none => ∃ todo, fr = { b.atR a todo with mode := .returning }
  | some _ => ∃ todo, LeavesBy j todo ∧ fr = b.atR a todo

/-- From these items on the activation comes to its return, or the end of its round, and 'R' holds there. -/
def WpI (M : Mo) (P : Program) (n : Nat) (its : List Item) (R : Option Code → Env → Heap → Prop) (e : Env) (h : Heap) : Prop :=
  ∀ (b : Frame) (cs : List Frame) (a : Act) (w : World), b.roundOf = M.ro → Fits n M.ds e a → w.heap = h →
    ∃ j e' a' w' fr, Fits n [] e' a' ∧ Qt w w' ∧ R j e' w'.heap ∧ LastF M.ro j b a' fr ∧ Steps P (lone (b.atR a its) cs w) (lone fr cs w')

/-- A call that returns. -/
def Fx (P : Program) (f : Nat) (args : List Value) (h : Heap) (R : Value → Heap → Prop) : Prop :=
  ∀ w : World, w.heap = h → Calls P f args.toArray w (fun x w' => ∃ v, x = .returned v ∧ Qt w w' ∧ R v w'.heap)

theorem Fx.mono {P : Program} {f : Nat} {args : List Value} {h : Heap} {R R' : Value → Heap → Prop} (hf : Fx P f args h R) (hm : ∀ v h', R v h' → R' v h') : Fx P f args h R' :=
  fun w hw => (hf w hw).mono fun _ _ ⟨v, hx, hq, hr⟩ => ⟨v, hx, hq, hm _ _ hr⟩

/-- The results as they are read at the return. -/
def ResOb (P : Program) (fn : Func) (e : Env) (h : Heap) (v : Value) : Prop :=
  ∀ (a : Act) (w : World), (∀ i, a.tmps.getD i undef = e i) → w.heap = h → (results fn a.tmps).run P w = .ok v w

def argsE (args : List Value) : Env := fun i => args.getD i undef

section
variable {M : Mo} {P : Program} {n : Nat} {k : List Item} {R : Option Code → Env → Heap → Prop} {e : Env} {h : Heap}

theorem fn_intro {f : Nat} {fn : Func} {c : Code} {args : List Value} {Rv : Value → Heap → Prop} (hf : P.funcs[f]? = some fn) (hb : fn.body = some c) (hn : fn.ntmps = n) (hl : args.length ≤ n)
    (hw : WpI ⟨none, []⟩ P n [.code c] (fun _ e' h' => ∃ v, ResOb P fn e' h' v ∧ Rv v h') (argsE args) h) : Fx P f args h Rv := by
  intro w hw0 cs
  let b : Frame := { (default : Frame) with fn := f, kind := .normal, roundOf := none }
  have henter : Frame.enter P f args.toArray .normal =
      b.atR { tmps := args.toArray ++ Array.replicate (fn.ntmps - args.toArray.size) undef, defers := [] } [.code c] := by
    simp [Frame.enter, Frame.atR, hf, hb, b]
  have hfits : Fits n [] (argsE args) { tmps := args.toArray ++ Array.replicate (fn.ntmps - args.toArray.size) undef, defers := [] } := by
    refine ⟨rfl, by simp [hn]; omega, fun i => ?_⟩
    simp only [argsE, Array.getD_eq_getD_getElem?, List.getD_eq_getElem?_getD]
    rw [Array.getElem?_append]
    split
    · simp
    · rename_i hi
      have : args[i]? = none := by simpa using hi
      rw [this]
      simp only [Array.getElem?_replicate]
      split <;> rfl
  obtain ⟨j, e', a', w', fr, hf', hq, ⟨v, hres, hR⟩, ⟨todo, rfl⟩, hs⟩ := hw b cs _ w rfl hfits hw0
  rw [← henter] at hs
  exact ⟨.returned v, w', _, ⟨v, rfl, hq, hR⟩, hs, rfl, rfl, hf'.defers, rfl, fn, hf, hres a' w' hf'.get rfl⟩

theorem of_step {its its' : List Item} (hstep : ∀ (b : Frame) (cs : List Frame) (a : Act) (w : World), Fits n M.ds e a → step P (lone (b.atR a its) cs w) = .next (lone (b.atR a its') cs w)) (hw : WpI M P n its' R e h) : WpI M P n its R e h := by
  intro b cs a w hro hf hh
  obtain ⟨j, e', a', w', fr, hf', hq, hR, hl, hs⟩ := hw b cs a w hro hf hh
  exact ⟨j, e', a', w', fr, hf', hq, hR, hl, .head (hstep b cs a w hf) hs⟩

theorem wi_seq {x y : Code} (hw : WpI M P n (.code x :: .code y :: k) R e h) : WpI M P n (.code (.seq x y) :: k) R e h := of_step (fun _ _ _ _ _ => stepR_seq) hw
theorem wi_skip (hw : WpI M P n k R e h) : WpI M P n (.code .skip :: k) R e h := of_step (fun _ _ _ _ _ => stepR_skip) hw
theorem wi_label {l : Nat} (hw : WpI M P n k R e h) : WpI M P n (.code (.label l) :: k) R e h := of_step (fun _ _ _ _ _ => stepR_label) hw
theorem wi_block {id : Nat} {c : Code} (hw : WpI M P n (.code c :: .inBlock id :: k) R e h) : WpI M P n (.code (.block id c) :: k) R e h := of_step (fun _ _ _ _ _ => stepR_block) hw
theorem wi_inBlock {id : Nat} (hw : WpI M P n k R e h) : WpI M P n (.inBlock id :: k) R e h := of_step (fun _ _ _ _ _ => stepR_inBlock) hw
theorem wi_exit {id : Nat} {k' : List Item} (hx : exitTo id k = some k') (hw : WpI M P n k' R e h) : WpI M P n (.code (.exit id) :: k) R e h := of_step (fun _ _ _ _ _ => stepR_exit hx) hw
theorem wi_cond {c : Operand} {x y : Code} (t : Bool) (hc : ev e c = .bool t) (hw : WpI M P n (.code (if t then x else y) :: k) R e h) : WpI M P n (.code (.cond c x y) :: k) R e h :=
  of_step (fun _ _ a _ hf => stepR_cond (t := t) (by rw [hf.ev]; exact hc)) hw
theorem wi_true {c : Operand} {x y : Code} (hc : ev e c = .bool true) (hw : WpI M P n (.code x :: k) R e h) : WpI M P n (.code (.cond c x y) :: k) R e h := wi_cond true hc hw
theorem wi_false {c : Operand} {x y : Code} (hc : ev e c = .bool false) (hw : WpI M P n (.code y :: k) R e h) : WpI M P n (.code (.cond c x y) :: k) R e h := wi_cond false hc hw

theorem wi_ret {ro : Option Nat} (hR : R (some .ret) e h) : WpI ⟨ro, []⟩ P n (.code .ret :: k) R e h :=
  fun b cs a w hro hf hh => by
    cases ro with
    | none => exact ⟨_, e, a, w, _, hf, Qt.refl _, by rw [hh]; exact hR, ⟨_, rfl⟩, .one (stepR_ret hro)⟩
    | some l => exact ⟨some .ret, e, a, w, _, hf, Qt.refl _, by rw [hh]; exact hR, ⟨.code .ret :: k, ⟨k, rfl⟩, rfl⟩, .refl _ _⟩
theorem wi_end {ro : Option Nat} (hR : R none e h) : WpI ⟨ro, []⟩ P n [] R e h :=
  fun b cs a w hro hf hh => by
    cases ro with
    | none => exact ⟨_, e, a, w, _, hf, Qt.refl _, by rw [hh]; exact hR, ⟨_, rfl⟩, .one (stepR_end hro)⟩
    | some l => exact ⟨none, e, a, w, _, hf, Qt.refl _, by rw [hh]; exact hR, ⟨[], rfl, rfl⟩, .refl _ _⟩

theorem wi_mono {R' : Option Code → Env → Heap → Prop} {its : List Item} (hm : ∀ j e h, R j e h → R' j e h) (hw : WpI M P n its R e h) : WpI M P n its R' e h :=
  fun b cs a w hro hf hh => let ⟨j, e', a', w', fr, hf', hq, hR, hl, hs⟩ := hw b cs a w hro hf hh; ⟨j, e', a', w', fr, hf', hq, hm _ _ _ hR, hl, hs⟩

theorem wi_of_wp {c : Code} (hc : ∀ (a : Act) (w : World), Fits n M.ds e a → w.heap = h → c.wpIn (Fc M.ro) 0 P (fun x a' w' => x = .normal ∧ Qt w w' ∧ ∃ e', Fits n M.ds e' a' ∧ WpI M P n k R e' w'.heap) a w) : WpI M P n (.code c :: k) R e h := by
  intro b cs a w hro hf hh
  obtain ⟨x, a1, w1, ⟨hx, hq, e1, hf1, hw1⟩, harr⟩ := hc a w hf hh b k cs hro trivial (fc_room _ _)
  subst hx
  obtain ⟨j, e', a', w', fr, hf', hq', hR, hl, hs⟩ := hw1 b cs a1 w1 hro hf1 rfl
  exact ⟨j, e', a', w', fr, hf', hq.trans hq', hR, hl, Steps.trans (StepsIn.steps harr) hs⟩

/-- A region in the order of the text. -/
theorem wi_reg {id : Nat} {l : List Oper} (hb : boundsB n l = true) (hw : Lx P TT kindOf l.toArray l (WpI M P n k R) e h) : WpI M P n (.code (.region id l.toArray false) :: k) R e h :=
  wi_of_wp fun a w hf hh => by
    subst hh
    exact wp_plain hb hf trivial hw fun e' a' w' hf' hq hk => ⟨rfl, hq, e', hf', hk⟩

/-- A region that draws its order. -/
theorem wi_draw {id : Nat} {l : List Oper} (hm : P.follows .mixedOrders = true) (hb : boundsB n l = true) (hok : okB kindOf l.toArray l.length = true) (hw : Lx P TT kindOf l.toArray l (WpI M P n k R) e h) :
    WpI M P n (.code (.region id l.toArray true) :: k) R e h :=
  wi_of_wp fun a w hf hh => by
    subst hh
    exact wp_draw hm hok hb hf trivial hw fun e' a' w' hf' hq hk => ⟨rfl, hq, e', hf', hk⟩

/-- The same with a class of heaps, and kinds, of one's own. -/
theorem wi_drawS {id : Nat} {l : List Oper} (S : Heap → Prop) (kd : Oper → Kd) (hm : P.follows .mixedOrders = true) (hb : boundsB n l = true) (hok : okB kd l.toArray l.length = true) (hS : S h)
    (hw : Lx P S kd l.toArray l (WpI M P n k R) e h) : WpI M P n (.code (.region id l.toArray true) :: k) R e h :=
  wi_of_wp fun a w hf hh => by
    subst hh
    exact wp_draw hm hok hb hf hS hw fun e' a' w' hf' hq hk => ⟨rfl, hq, e', hf', hk⟩

/-! ### Environments that agree -/

def Agree (W : Nat → Bool) (e e' : Env) : Prop := ∀ i, W i = false → e' i = e i
def mixE (W : Nat → Bool) (g e : Env) : Env := fun i => cond (W i) (g i) (e i)
def Has (e : Env) : List (Nat × Value) → Prop
  | [] => True
  | (d, v) :: L => e d = v ∧ Has e L
def rngB (lo hi : Nat) (l : List Nat) (i : Nat) : Bool := (Nat.ble lo i && Nat.blt i hi) || l.any (Nat.beq i)

theorem ups_has {e : Env} {L : List (Nat × Value)} (hL : Has e L) : ups L e = e := by
  induction L with
  | nil => rfl
  | cons p L ih =>
    obtain ⟨d, v⟩ := p
    have h2 := ih hL.2
    funext i
    show upd (ups L e) d v i = e i
    by_cases hi : i = d
    · subst hi; rw [upd_same]; exact hL.1.symm
    · rw [upd_other _ _ hi, h2]

theorem mix_agree {W : Nat → Bool} {e e' : Env} (ha : Agree W e e') : mixE W e' e = e' := by
  funext i
  unfold mixE
  cases hW : W i with
  | true => rfl
  | false => exact (ha i hW).symm

theorem agree_ups {W : Nat → Bool} {e b : Env} {L : List (Nat × Value)} (hL : (L.all fun p => W p.1) = true) (hb : Agree W e b) : Agree W e (ups L b) := by
  induction L with
  | nil => exact hb
  | cons p L ih =>
    obtain ⟨d, v⟩ := p
    simp only [List.all_cons, Bool.and_eq_true] at hL
    intro i hi
    show upd (ups L b) d v i = e i
    rw [upd_other]
    · exact ih hL.2 i hi
    · intro hid; subst hid; rw [hL.1] at hi; cases hi

theorem agree_mix {W W' : Nat → Bool} {e b g : Env} (hW : ∀ i, W' i = true → W i = true) (hb : Agree W e b) : Agree W e (mixE W' g b) := by
  intro i hi
  unfold mixE
  cases h' : W' i with
  | true => rw [hW i h'] at hi; cases hi
  | false => exact hb i hi
theorem agree_self {W : Nat → Bool} {e g : Env} : Agree W e (mixE W g e) := fun i hi => by simp [mixE, hi]

theorem rngB_sub {lo hi lo' hi' : Nat} {l l' : List Nat} (h1 : lo ≤ lo') (h2 : hi' ≤ hi) (h3 : (l'.all fun j => rngB lo hi l j) = true) : ∀ i, rngB lo' hi' l' i = true → rngB lo hi l i = true := by
  intro i hi1
  unfold rngB at hi1
  simp only [Bool.or_eq_true, Bool.and_eq_true] at hi1
  rcases hi1 with ⟨ha, hb⟩ | ha
  · have ha' := Nat.le_of_ble_eq_true ha
    have hb' : i < hi' := by simpa [Nat.blt_eq] using hb
    have e1 : Nat.ble lo i = true := Nat.ble_eq_true_of_le (by omega)
    have e2 : Nat.blt i hi = true := by rw [Nat.blt_eq]; omega
    simp [rngB, e1, e2]
  · obtain ⟨j, hj, hij⟩ := List.any_eq_true.1 ha
    have : i = j := Nat.eq_of_beq_eq_true hij
    subst this
    exact List.all_eq_true.1 h3 _ hj

/-- Forgetting all but some slots. -/
theorem wi_forget {its : List Item} (L : List (Nat × Value)) (hL : Has e L) (hw : ∀ g : Env, WpI M P n its R (ups L g) h) : WpI M P n its R e h := by
  have := hw e
  rwa [ups_has hL] at this

/-- Forgetting what a piece of code may have written. -/
theorem wi_havoc {its : List Item} (W : Nat → Bool) (e0 : Env) (L : List (Nat × Value)) (hL : Has e L) (ha : Agree W e0 e) (hw : ∀ g : Env, WpI M P n its R (ups L (mixE W g e0)) h) : WpI M P n its R e h := by
  have := hw e
  rwa [mix_agree ha, ups_has hL] at this

/-- A loop: 's' is what its state is, 'Ls s' what the slots hold that are looked at again, 'I' what is known, 'μ' what goes down. -/
theorem wi_loop {σ : Type} {body : Code} (W : Nat → Bool) (Ls : σ → List (Nat × Value)) (I : σ → Heap → Prop) (μ : σ → Nat) (s0 : σ) (hL : Has e (Ls s0)) (h0 : I s0 h)
    (round : ∀ (g : Env) (s : σ) (hh : Heap), I s hh →
      (∀ (e' : Env) (h' : Heap) (s' : σ), Agree W e e' → Has e' (Ls s') → I s' h' → μ s' < μ s → WpI M P n (.inLoop body :: k) R e' h') →
      WpI M P n (.code body :: .inLoop body :: k) R (ups (Ls s) (mixE W g e)) hh) :
    WpI M P n (.code (.loop body) :: k) R e h := by
  have key : ∀ (m : Nat) (s : σ) (e1 : Env) (hh : Heap), μ s = m → Agree W e e1 → Has e1 (Ls s) → I s hh → WpI M P n (.code body :: .inLoop body :: k) R e1 hh := by
    intro m
    induction m using Nat.strongRecOn with
    | _ m ih =>
      intro s e1 hh hm ha hL1 hI
      have hr := round e1 s hh hI (fun e' h' s' ha' hL' hI' hlt => of_step (fun _ _ _ _ _ => stepR_inLoop) (ih (μ s') (hm ▸ hlt) s' e' h' rfl ha' hL' hI'))
      rwa [mix_agree ha, ups_has hL1] at hr
  exact of_step (fun _ _ _ _ _ => stepR_loop) (key _ s0 e h rfl (fun _ _ => rfl) hL h0)

/-- Where ways meet again: what follows is proved once. -/
theorem wi_cut {σ : Type} {it : Item} (W : Nat → Bool) (Ls : σ → List (Nat × Value)) (I : σ → Heap → Prop)
    (hw : (∀ (e' : Env) (h' : Heap) (s : σ), Agree W e e' → Has e' (Ls s) → I s h' → WpI M P n k R e' h') → WpI M P n (it :: k) R e h)
    (hk : ∀ (g : Env) (s : σ) (hh : Heap), I s hh → WpI M P n k R (ups (Ls s) (mixE W g e)) hh) : WpI M P n (it :: k) R e h := by
  refine hw fun e' h' s ha hL hI => ?_
  have := hk e' s h' hI
  rwa [mix_agree ha, ups_has hL] at this

theorem wi_condS {c : Operand} {x y : Code} {t : Bool} (hc : ev e c = .bool t) (h1 : t = true → WpI M P n (.code x :: k) R e h) (h2 : t = false → WpI M P n (.code y :: k) R e h) : WpI M P n (.code (.cond c x y) :: k) R e h := by
  cases t
  · exact wi_false hc (h2 rfl)
  · exact wi_true hc (h1 rfl)

end

/-- A function, entered: its parameters by their slots. -/
theorem fx_intro {P : Program} {n f : Nat} {fn : Func} {c : Code} {args : List Value} {h : Heap} {Rv : Value → Heap → Prop} (L : List (Nat × Value)) (hf : P.funcs[f]? = some fn) (hb : fn.body = some c) (hn : fn.ntmps = n) (hl : args.length ≤ n) (hL : Has (argsE args) L)
    (hw : ∀ g : Env, WpI ⟨none, []⟩ P n [.code c] (fun _ e' h' => ∃ v, ResOb P fn e' h' v ∧ Rv v h') (ups L g) h) : Fx P f args h Rv :=
  fn_intro hf hb hn hl (wi_forget L hL hw)

/-! ### Results -/
section
variable {P : Program} {fn : Func} {e : Env} {h : Heap}
theorem res_one {t : Nat} (hr : fn.results = #[.tmp t]) {v : Value} (hv : e t = v) : ResOb P fn e h v := by
  intro a w ha _
  rw [results_tmp hr, ha, hv]
theorem res_two {t u : Nat} (hr : fn.results = #[.tmp t, .tmp u]) {v1 v2 : Value} (h1 : e t = v1) (h2 : e u = v2) : ResOb P fn e h (.tuple #[v1, v2]) := by
  intro a w ha _
  rw [results_tmp2 hr, ha, ha, h1, h2]
theorem res_three {t u x : Nat} (hr : fn.results = #[.tmp t, .tmp u, .tmp x]) {v1 v2 v3 : Value} (h1 : e t = v1) (h2 : e u = v2) (h3 : e x = v3) : ResOb P fn e h (.tuple #[v1, v2, v3]) := by
  intro a w ha _
  have : (results fn a.tmps).run P w = .ok (.tuple #[a.tmps.getD t undef, a.tmps.getD u undef, a.tmps.getD x undef]) w := by simp [results, hr]
  rw [this, ha, ha, ha, h1, h2, h3]
theorem res_four {t u x y : Nat} (hr : fn.results = #[.tmp t, .tmp u, .tmp x, .tmp y]) {v1 v2 v3 v4 : Value} (h1 : e t = v1) (h2 : e u = v2) (h3 : e x = v3) (h4 : e y = v4) : ResOb P fn e h (.tuple #[v1, v2, v3, v4]) := by
  intro a w ha _
  have : (results fn a.tmps).run P w = .ok (.tuple #[a.tmps.getD t undef, a.tmps.getD u undef, a.tmps.getD x undef, a.tmps.getD y undef]) w := by simp [results, hr]
  rw [this, ha, ha, ha, ha, h1, h2, h3, h4]
theorem res_none (hr : fn.results = #[]) : ResOb P fn e h (.tuple #[]) := by
  intro a w _ _
  rw [results_none hr]
end

end Go.X
