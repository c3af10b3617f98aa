/-
  Texts in one: XCoreA, XCoreB, XCoreC, XOpsA, XHeap, XLift, XOpsB, XOpsC.
-/
import Derived.Orders
import Derived.Tactics
import Derived.TacticsIn
import Derived.OrdersIn
import Derived.RangeFuncIn
import Derived.RangeFuncRecord
import Derived.RangeFuncLeaves
import Derived.Laws.OwnMore
import Derived.OwnWalk
import Derived.WalkKit
import Derived.ProofKit
import Derived.OpenShut
import Derived.ShutString
import Derived.ChangeOld
import Derived.Below
import Derived.Carry
import Derived.ChangeSlices
import Derived.Deep.Slices
import Derived.JoinedOf
set_option linter.unusedSimpArgs false
set_option linter.unusedVariables false
namespace Go.X

abbrev Heap := Array Obj
abbrev Env := Nat → Value

def upd (e : Env) (d : Nat) (v : Value) : Env := fun i => cond (Nat.beq i d) v (e i)
def putE (e : Env) (d : Option Nat) (v : Value) : Env := match d with | some d => upd e d v | none => e
def ups : List (Nat × Value) → Env → Env
  | [], b => b
  | (d, v) :: L, b => upd (ups L b) d v
def ev (e : Env) : Operand → Value
  | .tmp t => e t
  | .const v => v
  | .global g => .pointer (some ⟨g, 0, none⟩)
  | .func f => .func (.func f) #[] #[]

structure Qt (w w' : World) : Prop where
  os : w'.os = w.os
  tape : w'.tape = w.tape
  output : w'.output = w.output

theorem Qt.refl (w : World) : Qt w w := ⟨rfl, rfl, rfl⟩
theorem Qt.trans {a b c : World} (h : Qt a b) (k : Qt b c) : Qt a c := ⟨k.os.trans h.os, k.tape.trans h.tape, k.output.trans h.output⟩

structure Fits (n : Nat) (ds : List Deferred) (e : Env) (a : Act) : Prop where
  defers : a.defers = ds
  size : a.tmps.size = n
  get : ∀ i, a.tmps.getD i undef = e i

theorem Fits.ev {n : Nat} {ds : List Deferred} {e : Env} {a : Act} (h : Fits n ds e a) : a.eval = X.ev e := by
  funext x
  cases x with
  | tmp t => exact h.get t
  | _ => rfl

theorem upd_same (e : Env) (d : Nat) (v : Value) : upd e d v d = v := by simp [upd]
theorem upd_other (e : Env) {d i : Nat} (v : Value) (h : i ≠ d) : upd e d v i = e i := by
  have : Nat.beq i d = false := by
    cases hb : Nat.beq i d with
    | false => rfl
    | true => exact absurd (Nat.eq_of_beq_eq_true hb) h
  simp [upd, this]

theorem Fits.put {n : Nat} {ds : List Deferred} {e : Env} {a : Act} (h : Fits n ds e a) (dst : Option Nat) (v : Value) (hd : ∀ d, dst = some d → d < n) : Fits n ds (putE e dst v) (a.put dst v) := by
  cases dst with
  | none => exact h
  | some d =>
    have hlt := hd d rfl
    refine ⟨h.defers, by simp [Act.put, h.size], fun i => ?_⟩
    simp only [Act.put, putE]
    by_cases hi : i = d
    · subst hi
      rw [upd_same]
      have : i < a.tmps.size := by rw [h.size]; exact hlt
      simp [Array.getD_eq_getD_getElem?, this]
    · rw [upd_other _ _ hi, ← h.get i]
      simp [Array.getD_eq_getD_getElem?, Array.getElem?_setIfInBounds_ne (Ne.symm hi)]

def yieldE (ops : Array Oper) (e : Env) (j : Nat) : Option Bool :=
  match (ops[j]?).bind (·.dst) with
  | some d => (match e d with | .bool b => some b | _ => none)
  | none => none

theorem Fits.yielded {n : Nat} {ds : List Deferred} {e : Env} {a : Act} (h : Fits n ds e a) (ops : Array Oper) : Go.yielded ops a.tmps = yieldE ops e := by
  funext j
  unfold Go.yielded yieldE
  cases hd : (ops[j]?).bind (·.dst) with
  | none => rfl
  | some d =>
    have hg := h.get d
    simp only [Option.bind_some]
    rw [Array.getD_eq_getD_getElem?] at hg
    cases ht : a.tmps[d]? with
    | none => rw [ht] at hg; simp only [Option.getD_none] at hg; rw [← hg]; rfl
    | some v => rw [ht] at hg; simp only [Option.getD_some] at hg; rw [← hg]; cases v <;> rfl

/-! ### The obligations of one operation -/

/-- All functions, any depth; in a round or not. -/
def Fc (ro : Option Nat) : Fence := { Fence.wide with round := ro }
theorem fc_room (ro : Option Nat) (n : Nat) : (Fc ro).room n := fun _ h => by simp [Fc, Fence.wide] at h
theorem calls_fc {ro : Option Nat} {n : Nat} {P : Program} {f : FuncId} {args : Array Value} {w : World} {R : Ending → World → Prop} (h : Calls P f args w R) : CallsIn (Fc ro) n P f args w R :=
  ⟨trivial, fun cs _ => ((callsIn_wide (n := 0)).2 h).2 cs (room_wide _)⟩
theorem round_fc {ro : Option Nat} {n m : Nat} {P : Program} {l : Nat} {f : FuncId} {tmps : Array Value} {assign body : Code} {w : World} {R : Ending → World → Prop} (h : RoundIn Fence.wide m P l f tmps assign body w R) : RoundIn (Fc ro) n P l f tmps assign body w R :=
  ⟨trivial, fun c cs _ => h.2 c cs (room_wide _)⟩
def notDefer (o : Oper) : Bool := match o.op with | .defer _ => false | _ => true
theorem notDefer_spec {o : Oper} (h : notDefer o = true) : ∀ c, o.op ≠ .defer c := fun c hc => by unfold notDefer at h; rw [hc] at h; cases h

inductive Kd where
  | free | read | new | eff

/-- What was there is there still; more may be. -/
def Grow (h h' : Heap) : Prop := h.size ≤ h'.size ∧ ∀ k, k < h.size → h'[k]? = h[k]?
theorem Grow.refl (h : Heap) : Grow h h := ⟨Nat.le_refl _, fun _ _ => rfl⟩
theorem Grow.trans {a b c : Heap} (h : Grow a b) (k : Grow b c) : Grow a c := ⟨Nat.le_trans h.1 k.1, fun i hi => (k.2 i (Nat.lt_of_lt_of_le hi h.1)).trans (h.2 i hi)⟩

section
variable (P : Program) (S : Heap → Prop)

def FreeOb (o : Oper) (e : Env) (v : Value) : Prop := ∀ w : World, S w.heap → (execOp (ev e) o).run P w = .ok (.value v) w
def ReadOb (o : Oper) (e : Env) (h : Heap) (v : Value) : Prop := ∀ w : World, S w.heap → Grow h w.heap → (execOp (ev e) o).run P w = .ok (.value v) w
def effUpon (w : World) (K : Value → Heap → Prop) : Result Next → Prop
  | .ok (.value v) w' => Qt w w' ∧ S w'.heap ∧ K v w'.heap
  | .ok .skip w' => Qt w w' ∧ S w'.heap ∧ K undef w'.heap
  | .ok (.enter f args) w' => Qt w w' ∧ Calls P f args w' (fun x w'' => ∃ v, x = .returned v ∧ Qt w' w'' ∧ S w''.heap ∧ K v w''.heap)
  | .ok (.round l f tmps assign body) w' => Qt w w' ∧ RoundIn Fence.wide 0 P l f tmps assign body w' (fun x w'' => ∃ v, x = .returned v ∧ Qt w' w'' ∧ S w''.heap ∧ K v w''.heap)
  | _ => False
def newUpon (w : World) (K : Value → Heap → Prop) : Result Next → Prop
  | .ok (.value v) w' => Qt w w' ∧ Grow w.heap w'.heap ∧ S w'.heap ∧ K v w'.heap
  | _ => False
def NewOb (o : Oper) (e : Env) (h : Heap) (K : Value → Heap → Prop) : Prop := ∀ w : World, w.heap = h → newUpon S w K ((execOp (ev e) o).run P w)
def EffOb (o : Oper) (e : Env) (h : Heap) (K : Value → Heap → Prop) : Prop := ∀ w : World, w.heap = h → effUpon P S w K ((execOp (ev e) o).run P w)

def Ob (k : Kd) (o : Oper) (e : Env) (h : Heap) (K : Value → Heap → Prop) : Prop :=
  match k with
  | .free => ∃ v, FreeOb P S o e v ∧ K v h
  | .read => S h → ∃ v, ReadOb P S o e h v ∧ K v h
  | .new => S h → NewOb P S o e h K
  | .eff => S h → EffOb P S o e h K

/-- The operations in the order of the text. -/
def Lx (kd : Oper → Kd) (ops : Array Oper) : List Oper → (Env → Heap → Prop) → Env → Heap → Prop
  | [], K, e, h => K e h
  | o :: rest, K, e, h =>
    if Region.wanted o (yieldE ops e) then Ob P S (kd o) o e h (fun v h' => Lx kd ops rest K (putE e o.dst v) h')
    else Lx kd ops rest K (putE e o.dst undef) h
end

section
variable {P : Program} {S : Heap → Prop}

theorem effUpon_mono {w : World} {K K' : Value → Heap → Prop} (h : ∀ v h', S h' → K v h' → K' v h') {r : Result Next} (hr : effUpon P S w K r) : effUpon P S w K' r := by
  cases r with
  | halt x w' => exact hr
  | ok n w' =>
    cases n <;> simp only [effUpon] at hr ⊢
    case value v => exact ⟨hr.1, hr.2.1, h _ _ hr.2.1 hr.2.2⟩
    case skip => exact ⟨hr.1, hr.2.1, h _ _ hr.2.1 hr.2.2⟩
    case enter f args => exact ⟨hr.1, hr.2.mono fun x w'' ⟨v, hx, hq, hs, hk⟩ => ⟨v, hx, hq, hs, h _ _ hs hk⟩⟩
    case round l f tmps assign body => exact ⟨hr.1, hr.2.mono fun x w'' ⟨v, hx, hq, hs, hk⟩ => ⟨v, hx, hq, hs, h _ _ hs hk⟩⟩

theorem newUpon_mono {w : World} {K K' : Value → Heap → Prop} (h : ∀ v h', S h' → Grow w.heap h' → K v h' → K' v h') {r : Result Next} (hr : newUpon S w K r) : newUpon S w K' r := by
  cases r with
  | halt x w' => exact hr
  | ok n w' =>
    cases n <;> simp only [newUpon] at hr ⊢
    case value v => exact ⟨hr.1, hr.2.1, hr.2.2.1, h _ _ hr.2.2.1 hr.2.1 hr.2.2.2⟩
theorem eff_of_new {w : World} {K : Value → Heap → Prop} {r : Result Next} (hr : newUpon S w K r) : effUpon P S w K r := by
  cases r with
  | halt x w' => exact hr
  | ok n w' =>
    cases n <;> simp only [newUpon] at hr
    case value v => exact ⟨hr.1, hr.2.2.1, hr.2.2.2⟩
theorem ob_mono {k : Kd} {o : Oper} {e : Env} {h : Heap} {K K' : Value → Heap → Prop} (hS : S h) (hm : ∀ v h', S h' → K v h' → K' v h') (ho : Ob P S k o e h K) : Ob P S k o e h K' := by
  cases k with
  | free => obtain ⟨v, hv, hk⟩ := ho; exact ⟨v, hv, hm _ _ hS hk⟩
  | read => intro hs; obtain ⟨v, hv, hk⟩ := ho hs; exact ⟨v, hv, hm _ _ hs hk⟩
  | new => intro hs w hw; exact newUpon_mono (fun v h' hs' _ hk => hm v h' hs' hk) (ho hs w hw)
  | eff => intro hs w hw; exact effUpon_mono hm (ho hs w hw)

theorem ob_of_free {k : Kd} {o : Oper} {e : Env} {h : Heap} {K : Value → Heap → Prop} (v : Value) (hv : FreeOb P S o e v) (hK : K v h) : Ob P S k o e h K := by
  cases k with
  | free => exact ⟨v, hv, hK⟩
  | read => exact fun hs => ⟨v, fun w hs' _ => hv w hs', hK⟩
  | new =>
    intro hs w hw
    rw [hv w (by rw [hw]; exact hs)]
    exact ⟨Qt.refl _, Grow.refl _, by rw [hw]; exact hs, by rw [hw]; exact hK⟩
  | eff =>
    intro hs w hw
    rw [hv w (by rw [hw]; exact hs)]
    exact ⟨Qt.refl _, by rw [hw]; exact hs, by rw [hw]; exact hK⟩

theorem ob_of_read {k : Kd} {o : Oper} {e : Env} {h : Heap} {K : Value → Heap → Prop} (hk : k = .read ∨ k = .eff) (v : Value) (hv : ReadOb P S o e h v) (hK : K v h) : Ob P S k o e h K := by
  rcases hk with rfl | rfl
  · exact fun _ => ⟨v, hv, hK⟩
  · intro hs w hw
    rw [hv w (by rw [hw]; exact hs) (by rw [hw]; exact Grow.refl _)]
    exact ⟨Qt.refl _, by rw [hw]; exact hs, by rw [hw]; exact hK⟩

/-- What an obligation says of the machine's own operation. -/
theorem oper_wp {ro : Option Nat} {ds : List Deferred} {k : Kd} {n : Nat} {o : Oper} {e : Env} {h : Heap} {K : Value → Heap → Prop} {a : Act} {w : World} {K' : Act → World → Prop} {Q : Exit → Act → World → Prop}
    (hnd : notDefer o = true) (hS : S h) (hf : Fits n ds e a) (hw : w.heap = h)
    (ho : Ob P S k o e h K) (hK : ∀ v w', Qt w w' → S w'.heap → K v w'.heap → K' (a.put o.dst v) w') : o.wpIn (Fc ro) 0 P a w K' Q := by
  have he : EffOb P S o e h K := by
    cases k with
    | free =>
      obtain ⟨v, hv, hk⟩ := ho
      intro w1 hw1
      rw [hv w1 (by rw [hw1]; exact hS)]
      exact ⟨Qt.refl _, by rw [hw1]; exact hS, by rw [hw1]; exact hk⟩
    | read =>
      obtain ⟨v, hv, hk⟩ := ho hS
      intro w1 hw1
      rw [hv w1 (by rw [hw1]; exact hS) (by rw [hw1]; exact Grow.refl _)]
      exact ⟨Qt.refl _, by rw [hw1]; exact hS, by rw [hw1]; exact hk⟩
    | new => exact fun w1 hw1 => eff_of_new (ho hS w1 hw1)
    | eff => exact ho hS
  have := he w hw
  refine ⟨fun f _ => trivial, ?_⟩
  rw [Oper.semAt_eq _ _ _ (notDefer_spec hnd), hf.ev]
  generalize (execOp (ev e) o).run P w = r at *
  cases r with
  | halt x w' => exact this.elim
  | ok nx w' =>
    cases nx <;> simp only [effUpon] at this <;> simp only [Oper.uponIn]
    case value v => exact hK v w' this.1 this.2.1 this.2.2
    case skip => exact hK undef w' this.1 this.2.1 this.2.2
    case enter f args =>
      exact ⟨fun h => by simp [Fc, Fence.wide] at h, calls_fc (this.2.mono fun x w'' ⟨v, hx, hq, hs, hk⟩ => by subst hx; exact hK v w'' (this.1.trans hq) hs hk)⟩
    case round l f tmps assign body =>
      exact ⟨fun h => by simp [Fc, Fence.wide] at h, round_fc (this.2.mono fun x w'' ⟨v, hx, hq, hs, hk⟩ => by subst hx; exact hK v w'' (this.1.trans hq) hs hk)⟩

/-- One step of the machine's region, in whatever order. -/
def obAt (P : Program) (S : Heap → Prop) (kd : Oper → Kd) (ops : Array Oper) (i : Nat) (K : Env → Heap → Prop) (e : Env) (h : Heap) : Prop :=
  match ops[i]? with
  | none => K e h
  | some o => if Region.wanted o (yieldE ops e) then Ob P S (kd o) o e h (fun v h' => K (putE e o.dst v) h') else K (putE e o.dst undef) h

def anyX (P : Program) (S : Heap → Prop) (kd : Oper → Kd) (ops : Array Oper) (K : Env → Heap → Prop) : Nat → Array Bool → Env → Heap → Prop
  | 0, listed, e, h => Region.ready .any ops listed = [] ∧ K e h
  | fuel + 1, listed, e, h =>
    (Region.ready .any ops listed = [] → K e h) ∧
    ∀ i ∈ Region.ready .any ops listed, obAt P S kd ops i (anyX P S kd ops K fuel (listed.setIfInBounds i true)) e h

def boundsB (n : Nat) (l : List Oper) : Bool := l.all fun o => notDefer o && match o.dst with | some d => Nat.blt d n | none => true

theorem boundsB_spec {n : Nat} {l : List Oper} (h : boundsB n l = true) {i : Nat} {o : Oper} (hi : l.toArray[i]? = some o) : ∀ d, o.dst = some d → d < n := by
  intro d hd
  have hm : o ∈ l := by
    have : l[i]? = some o := by simpa using hi
    exact List.mem_of_getElem? this
  have := List.all_eq_true.1 h o hm
  rw [hd] at this
  simp only [Bool.and_eq_true, Nat.blt_eq] at this
  exact this.2
theorem boundsB_nd {n : Nat} {l : List Oper} (h : boundsB n l = true) {i : Nat} {o : Oper} (hi : l.toArray[i]? = some o) : notDefer o = true := by
  have hm : o ∈ l := by
    have : l[i]? = some o := by simpa using hi
    exact List.mem_of_getElem? this
  have := List.all_eq_true.1 h o hm
  simp only [Bool.and_eq_true] at this
  exact this.1

theorem wpAny_of_anyX {ro : Option Nat} {ds : List Deferred} {kd : Oper → Kd} {ops : List Oper} {n : Nat} (hb : boundsB n ops = true) {K : Env → Heap → Prop} {w0 : World} {Q : Exit → Act → World → Prop}
    (hQ : ∀ e a w, Fits n ds e a → Qt w0 w → K e w.heap → Q .normal a w) :
    ∀ (fuel : Nat) (listed : Array Bool) (e : Env) (a : Act) (w : World), Fits n ds e a → Qt w0 w → S w.heap → anyX P S kd ops.toArray K fuel listed e w.heap → wpAnyIn (Fc ro) 0 P .any ops.toArray Q fuel listed a w
  | 0, _, e, a, w, hf, hq, _, h => ⟨h.1, hQ e a w hf hq h.2⟩
  | fuel + 1, listed, e, a, w, hf, hq, hS, h => by
    refine ⟨fun h0 => hQ e a w hf hq (h.1 h0), fun i hi => ?_⟩
    have h1 := h.2 i hi
    unfold wpOpIn
    unfold obAt at h1
    cases ho : ops.toArray[i]? with
    | none => simp only [ho] at h1; exact wpAny_of_anyX hb hQ fuel _ e a w hf hq hS h1
    | some o =>
      simp only [ho] at h1
      have hd := boundsB_spec hb ho
      simp only []
      rw [hf.yielded]
      split
      · rename_i hw
        simp only [hw, if_true] at h1
        exact (oper_wp (boundsB_nd hb ho) hS hf rfl h1 fun v w' hq' hs' hk => wpAny_of_anyX hb hQ fuel _ _ _ w' (hf.put _ _ hd) (hq.trans hq') hs' hk)
      · rename_i hw
        simp only [hw] at h1
        exact ⟨fun f _ => trivial, wpAny_of_anyX hb hQ fuel _ _ _ w (hf.put _ _ hd) hq hS h1⟩

/-! ### Any order out of the order of the text -/

theorem putE_ev {e : Env} {dst : Option Nat} {v : Value} {x : Operand} (h : ∀ d, dst = some d → x ≠ .tmp d) : ev (putE e dst v) x = ev e x := by
  cases dst with
  | none => rfl
  | some d =>
    cases x with
    | tmp t => exact upd_other _ _ fun ht => h d rfl (by rw [ht])
    | _ => rfl

theorem execOp_putE {ops : Array Oper} (o : Oper) (hs : ∀ cs b, o.op ≠ .select cs b) (e : Env) (dst : Option Nat) (v : Value) (h : ∀ d, dst = some d → d ∉ o.looksAt ops) :
    execOp (ev (putE e dst v)) o = execOp (ev e) o :=
  execOp_congr o hs fun x hx => putE_ev fun d hd hxd => h d hd (by
    subst hxd
    exact List.mem_append_left _ (List.mem_filterMap.2 ⟨.tmp d, by simpa using hx, rfl⟩))

theorem wanted_putE {ops : Array Oper} (o : Oper) (e : Env) (dst : Option Nat) (v : Value) (h : ∀ d, dst = some d → d ∉ o.looksAt ops) :
    Region.wanted o (yieldE ops (putE e dst v)) = Region.wanted o (yieldE ops e) := by
  cases dst with
  | none => rfl
  | some d =>
    have hd := h d rfl
    cases hg : o.guard with
    | none => simp [Region.wanted, hg]
    | some gw =>
      obtain ⟨g, want⟩ := gw
      simp only [Region.wanted, hg]
      have : yieldE ops (putE e (some d) v) g = yieldE ops e g := by
        unfold yieldE
        cases hb : (ops[g]?).bind (·.dst) with
        | none => rfl
        | some t =>
          simp only []
          have hne : t ≠ d := by
            intro ht
            subst ht
            exact hd (List.mem_append_right _ (by simp [hg, hb]))
          show (match upd e d v t with | .bool b => some b | _ => none) = _
          rw [upd_other _ _ hne]
      rw [this]

theorem upd_comm (e : Env) {d d' : Nat} (v v' : Value) (h : d ≠ d') : upd (upd e d v) d' v' = upd (upd e d' v') d v := by
  funext i
  by_cases h1 : i = d
  · subst h1
    rw [upd_other _ _ h, upd_same, upd_same]
  · by_cases h2 : i = d'
    · subst h2
      rw [upd_same, upd_other _ _ h1, upd_same]
    · rw [upd_other _ _ h2, upd_other _ _ h1, upd_other _ _ h1, upd_other _ _ h2]

theorem putE_comm (e : Env) {x y : Option Nat} (v u : Value) (h : ∀ d, x = some d → y ≠ some d) : putE (putE e x v) y u = putE (putE e y u) x v := by
  cases x with
  | none => rfl
  | some d =>
    cases y with
    | none => rfl
    | some d' => exact upd_comm e v u fun hd => h d rfl (by rw [hd])

/-- Two operations that may change places: one is free, or both read. -/
def commB (kd : Oper → Kd) (x y : Oper) : Bool :=
  match kd x, kd y with
  | .free, _ | _, .free | .read, .read | .read, .new => true
  | _, _ => false

/-- What has been listed is closed under what must come before. -/
def Closed (ops : Array Oper) (listed : Array Bool) : Prop :=
  ∀ j oj, ops[j]? = some oj → listed.getD j false = true → ∀ e ∈ oj.after, Region.binds .any e = true → listed.getD e.on false = true

theorem Closed.set {ops : Array Oper} {listed : Array Bool} (hc : Closed ops listed) {i : Nat} (hi : i ∈ Region.ready .any ops listed) : Closed ops (listed.setIfInBounds i true) := by
  obtain ⟨_, oi, hoi, hall⟩ := mem_ready.1 hi
  intro j oj hj hl e he hb
  by_cases hij : i = j
  · subst hij
    have : oj = oi := Option.some.inj (hj.symm.trans hoi)
    subst this
    exact getD_set_true (hall e he hb)
  · rw [getD_set_ne false hij] at hl
    exact getD_set_true (hc j oj hj hl e he hb)

/-- 'i' must come before 'j', at one or more removes (as many as the fuel). -/
def beforeB (ops : Array Oper) : Nat → Nat → Nat → Bool
  | 0, _, _ => false
  | f + 1, i, j => match ops[j]? with
    | some oj => oj.after.any fun e => Region.binds .any e && (e.on == i || beforeB ops f i e.on)
    | none => false

theorem before_listed {ops : Array Oper} {listed : Array Bool} (hc : Closed ops listed) : ∀ (f i j : Nat) (oj : Oper), ops[j]? = some oj →
    (∀ e ∈ oj.after, Region.binds .any e = true → listed.getD e.on false = true) → beforeB ops f i j = true → listed.getD i false = true
  | 0, _, _, _, _, _, h => by simp [beforeB] at h
  | f + 1, i, j, oj, hj, hall, h => by
    simp only [beforeB, hj] at h
    obtain ⟨e, he, hb⟩ := Array.any_eq_true'.1 h
    simp only [Bool.and_eq_true, Bool.or_eq_true, beq_iff_eq] at hb
    have hl := hall e he hb.1
    rcases hb.2 with h1 | h1
    · rw [← h1]; exact hl
    · cases ho : ops[e.on]? with
      | none => cases f <;> simp [beforeB, ho] at h1
      | some oe => exact before_listed hc f i e.on oe ho (fun e' he' hb' => hc e.on oe ho hl e' he' hb') h1

end

end Go.X
namespace Go.X

section
variable {P : Program} {S : Heap → Prop} {kd : Oper → Kd} {ops : Array Oper}

def someWorld (h : Heap) : World := { heap := h, tape := fun _ _ => 0, drawn := 0, os := default, output := #[] }

theorem effUpon_exists {w : World} {K : Value → Heap → Prop} {r : Result Next} (hr : effUpon P S w K r) : ∃ v h', S h' ∧ K v h' := by
  cases r with
  | halt x w' => exact hr.elim
  | ok n w' =>
    cases n <;> simp only [effUpon] at hr
    case value v => exact ⟨v, _, hr.2.1, hr.2.2⟩
    case skip => exact ⟨_, _, hr.2.1, hr.2.2⟩
    case enter f args =>
      obtain ⟨x, w'', fr, ⟨v, _, _, hs, hk⟩, _⟩ := hr.2 []
      exact ⟨v, _, hs, hk⟩
    case round l f tmps assign body =>
      obtain ⟨x, w'', ⟨v, _, _, hs, hk⟩, _⟩ := hr.2.2 default [] (room_wide _)
      exact ⟨v, _, hs, hk⟩

theorem ob_exists {k : Kd} {o : Oper} {e : Env} {h : Heap} {K : Value → Heap → Prop} (hS : S h) (ho : Ob P S k o e h K) : ∃ v h', S h' ∧ K v h' := by
  cases k with
  | free => obtain ⟨v, _, hk⟩ := ho; exact ⟨v, h, hS, hk⟩
  | read => obtain ⟨v, _, hk⟩ := ho hS; exact ⟨v, h, hS, hk⟩
  | new => exact effUpon_exists (P := P) (eff_of_new (ho hS (someWorld h) rfl))
  | eff => exact effUpon_exists (ho hS (someWorld h) rfl)

theorem obAt_exists {i : Nat} {K : Env → Heap → Prop} {e : Env} {h : Heap} (hS : S h) (ho : obAt P S kd ops i K e h) : ∃ e' h', S h' ∧ K e' h' := by
  unfold obAt at ho
  split at ho
  · exact ⟨e, h, hS, ho⟩
  · split at ho
    · obtain ⟨v, h', hs, hk⟩ := ob_exists hS ho; exact ⟨_, h', hs, hk⟩
    · exact ⟨_, h, hS, ho⟩

theorem obAt_mono {i : Nat} {K K' : Env → Heap → Prop} {e : Env} {h : Heap} (hS : S h) (hm : ∀ e h', S h' → K e h' → K' e h') (ho : obAt P S kd ops i K e h) : obAt P S kd ops i K' e h := by
  unfold obAt at *
  split
  · rename_i hn; simp only [hn] at ho; exact hm _ _ hS ho
  · rename_i o hn
    simp only [hn] at ho
    split
    · rename_i hw; simp only [hw, if_true] at ho; exact ob_mono hS (fun v h' hs hk => hm _ _ hs hk) ho
    · rename_i hw; simp only [hw] at ho; exact hm _ _ hS ho

/-- In this environment the operation leaves 'v', whatever the heap of the class. -/
def FreeAt (P : Program) (S : Heap → Prop) (ops : Array Oper) (o : Oper) (e : Env) (v : Value) : Prop :=
  (Region.wanted o (yieldE ops e) = true ∧ FreeOb P S o e v) ∨ (Region.wanted o (yieldE ops e) = false ∧ v = undef)

theorem FreeAt.of_same {o : Oper} {e e' : Env} {v : Value} (hf : FreeAt P S ops o e v) (he : execOp (ev e') o = execOp (ev e) o)
    (hw : Region.wanted o (yieldE ops e') = Region.wanted o (yieldE ops e)) : FreeAt P S ops o e' v := by
  unfold FreeAt FreeOb at *
  rw [he, hw]
  exact hf

theorem FreeAt.det {o : Oper} {e : Env} {v v' : Value} {h : Heap} (hS : S h) (hf : FreeAt P S ops o e v) (hf' : FreeAt P S ops o e v') : v = v' := by
  rcases hf with ⟨hw, h1⟩ | ⟨hw, h1⟩ <;> rcases hf' with ⟨hw', h2⟩ | ⟨hw', h2⟩
  · have a := h1 (someWorld h) hS
    have b := h2 (someWorld h) hS
    rw [a] at b
    injection b with b _
    injection b
  · rw [hw] at hw'; cases hw'
  · rw [hw] at hw'; cases hw'
  · rw [h1, h2]

theorem FreeAt.obAt {i : Nat} {o : Oper} {e : Env} {v : Value} {h : Heap} {K : Env → Heap → Prop} (hi : ops[i]? = some o) (hf : FreeAt P S ops o e v) (hK : K (putE e o.dst v) h) : obAt P S kd ops i K e h := by
  unfold X.obAt
  simp only [hi]
  rcases hf with ⟨hw, h1⟩ | ⟨hw, rfl⟩
  · simp only [hw, if_true]; exact ob_of_free v h1 hK
  · simp only [hw, Bool.false_eq_true, if_false]; exact hK

theorem freeAt_of_obAt {i : Nat} {o : Oper} {e : Env} {h : Heap} {K : Env → Heap → Prop} (hi : ops[i]? = some o) (hk : kd o = .free ∨ Region.wanted o (yieldE ops e) = false)
    (ho : obAt P S kd ops i K e h) : ∃ v, FreeAt P S ops o e v ∧ K (putE e o.dst v) h := by
  unfold obAt at ho
  simp only [hi] at ho
  by_cases hw : Region.wanted o (yieldE ops e) = true
  · have hk' := hk.resolve_right (by rw [hw]; simp)
    simp only [hw, if_true, hk', Ob] at ho
    obtain ⟨v, hv, hK⟩ := ho
    exact ⟨v, .inl ⟨hw, hv⟩, hK⟩
  · simp only [hw] at ho
    exact ⟨undef, .inr ⟨by simpa using hw, rfl⟩, ho⟩

theorem ob_same {k : Kd} {o : Oper} {e e' : Env} {h : Heap} {K : Value → Heap → Prop} (he : execOp (ev e') o = execOp (ev e) o) (ho : Ob P S k o e h K) : Ob P S k o e' h K := by
  cases k <;> simp only [Ob, FreeOb, ReadOb, NewOb, EffOb, he] at ho ⊢ <;> exact ho

/-- An operation 'oj' that is apart from a free 'oi' may come first. -/
theorem obAt_unput {j : Nat} {oi oj : Oper} {v : Value} {K : Env → Heap → Prop} {e : Env} {h : Heap} (hj : ops[j]? = some oj) (hap : oi.apart ops oj = true)
    (hsi : ∀ cs b, oi.op ≠ .select cs b) (hsj : ∀ cs b, oj.op ≠ .select cs b) (hS : S h) (hf : FreeAt P S ops oi e v) (ho : obAt P S kd ops j K (putE e oi.dst v) h) :
    obAt P S kd ops j (fun e' h' => FreeAt P S ops oi e' v ∧ K (putE e' oi.dst v) h') e h := by
  obtain ⟨h1, h2, h3⟩ := Oper.apart_spec hap
  have keep : ∀ u, FreeAt P S ops oi (putE e oj.dst u) v := fun u => hf.of_same (execOp_putE oi hsi e oj.dst u h3) (wanted_putE oi e oj.dst u h3)
  unfold obAt at *
  simp only [hj] at *
  rw [wanted_putE oj e oi.dst v h1] at ho
  split
  · rename_i hw
    simp only [hw, if_true] at ho
    refine ob_mono hS ?_ (ob_same (execOp_putE oj hsj e oi.dst v h1).symm ho)
    intro u h' _ hk
    exact ⟨keep u, by rw [← putE_comm e v u h2]; exact hk⟩
  · rename_i hw
    simp only [hw] at ho
    exact ⟨keep _, by rw [← putE_comm e v undef h2]; exact ho⟩

theorem ready_listed {listed : Array Bool} {i j : Nat} (hc : Closed ops listed) (hi : i ∈ Region.ready .any ops listed) (hj : j ∈ Region.ready .any ops listed) (F : Nat) : beforeB ops F i j ≠ true := by
  intro hb
  obtain ⟨_, oj, hoj, hall⟩ := mem_ready.1 hj
  have h1 := before_listed hc F i j oj hoj hall hb
  have h0 := (mem_ready.1 hi).1
  rcases Nat.lt_or_ge i listed.size with h' | h'
  · simp [h'] at h0 h1; rw [h0] at h1; cases h1
  · simp [Array.getElem?_eq_none h'] at h1

theorem comm_cases {x y : Oper} (h : commB kd x y = true) : kd x = .free ∨ kd y = .free ∨ (kd x = .read ∧ (kd y = .read ∨ kd y = .new)) := by
  unfold commB at h
  cases hx : kd x <;> cases hy : kd y <;> simp_all

theorem anyX_first {K : Env → Heap → Prop} {i : Nat} {oi : Oper} (F : Nat) (hi : ops[i]? = some oi) (hsel : ∀ (j : Nat) (o : Oper) cs b, ops[j]? = some o → o.op ≠ .select cs b) :
    ∀ (fuel : Nat) (listed : Array Bool) (e : Env) (h : Heap),
      (∀ j oj, ops[j]? = some oj → j ≠ i → listed.getD j true = false → beforeB ops F i j = true ∨ (oi.apart ops oj = true ∧ commB kd oi oj = true)) →
      Closed ops listed → i ∈ Region.ready .any ops listed → S h →
      obAt P S kd ops i (anyX P S kd ops K fuel (listed.setIfInBounds i true)) e h → anyX P S kd ops K (fuel + 1) listed e h := by
  intro fuel
  induction fuel with
  | zero =>
    intro listed e h _ _ hr hS H
    refine ⟨fun h0 => (by rw [h0] at hr; cases hr), fun j hj => ?_⟩
    by_cases hji : j = i
    · subst hji; exact H
    · obtain ⟨_, _, _, H'⟩ := obAt_exists hS H
      have := ready_mono hj hji
      rw [H'.1] at this
      cases this
  | succ fuel ih =>
    intro listed e h hfree hc hr hS H
    refine ⟨fun h0 => (by rw [h0] at hr; cases hr), fun j hj => ?_⟩
    by_cases hji : j = i
    · subst hji; exact H
    obtain ⟨hjun, oj, hoj, _⟩ := mem_ready.1 hj
    obtain ⟨hap, hcm⟩ := (hfree j oj hoj hji hjun).resolve_left (ready_listed hc hr hj F)
    have hsi := fun cs b => hsel i oi cs b hi
    have hsj := fun cs b => hsel j oj cs b hoj
    obtain ⟨h1, h2, h3⟩ := Oper.apart_spec hap
    have hrj := ready_mono hj hji
    have hri : i ∈ Region.ready .any ops (listed.setIfInBounds j true) := ready_mono hr (Ne.symm hji)
    have hcj := hc.set hj
    have hfree' : ∀ k ok, ops[k]? = some ok → k ≠ i → (listed.setIfInBounds j true).getD k true = false → beforeB ops F i k = true ∨ (oi.apart ops ok = true ∧ commB kd oi ok = true) := fun k ok hk hki hun => by
      refine hfree k ok hk hki ?_
      by_cases hjk : j = k
      · subst hjk; exact hjun
      · rw [getD_set_ne true hjk] at hun; exact hun
    have hcomm : (listed.setIfInBounds i true).setIfInBounds j true = (listed.setIfInBounds j true).setIfInBounds i true := Array.setIfInBounds_comm _ _ (Ne.symm hji)
    by_cases hA : kd oi = .free ∨ Region.wanted oi (yieldE ops e) = false
    · obtain ⟨v, hv, hK⟩ := freeAt_of_obAt hi hA H
      have h4 := obAt_unput hoj hap hsi hsj hS hv (hK.2 j hrj)
      refine obAt_mono hS (fun e' h' hs' h5 => ih _ e' h' hfree' hcj hri hs' ?_) h4
      rw [← hcomm]
      exact h5.1.obAt hi h5.2
    have hwi : Region.wanted oi (yieldE ops e) = true := by
      cases hw : Region.wanted oi (yieldE ops e) with
      | true => rfl
      | false => exact absurd (Or.inr hw) hA
    have hni : kd oi ≠ .free := fun hx => hA (.inl hx)
    have H0 : Ob P S (kd oi) oi e h (fun v h' => anyX P S kd ops K (fuel + 1) (listed.setIfInBounds i true) (putE e oi.dst v) h') := by
      unfold obAt at H
      simp only [hi, hwi, if_true] at H
      exact H
    by_cases hB : kd oj = .free ∨ Region.wanted oj (yieldE ops e) = false
    · -- 'oj' is free: its value does not hang on where it stands
      have hwj : ∀ v, Region.wanted oj (yieldE ops (putE e oi.dst v)) = Region.wanted oj (yieldE ops e) := fun v => wanted_putE oj e oi.dst v h1
      obtain ⟨v0, h0, hs0, H1⟩ := ob_exists hS H0
      obtain ⟨vj, hvj, _⟩ := freeAt_of_obAt hoj (hB.imp id (fun hx => by rw [hwj]; exact hx)) (H1.2 j hrj)
      have hvj' : FreeAt P S ops oj e vj := hvj.of_same (execOp_putE oj hsj e oi.dst v0 h1).symm (hwj v0).symm
      refine hvj'.obAt hoj (ih _ _ h hfree' hcj hri hS ?_)
      unfold obAt
      simp only [hi, wanted_putE oi e oj.dst vj h3, hwi, if_true]
      refine ob_mono hS ?_ (ob_same (execOp_putE oi hsi e oj.dst vj h3) H0)
      intro v h' hs' hk
      obtain ⟨v', hv', hK'⟩ := freeAt_of_obAt hoj (hB.imp id (fun hx => by rw [hwj]; exact hx)) (hk.2 j hrj)
      have : vj = v' := FreeAt.det hs' (hvj'.of_same (execOp_putE oj hsj e oi.dst v h1) (hwj v)) hv'
      subst this
      rw [← hcomm, ← putE_comm e v vj h2]
      exact hK'
    · have hnj : kd oj ≠ .free := fun hx => hB (.inl hx)
      have hwj : Region.wanted oj (yieldE ops e) = true := by
        cases hw : Region.wanted oj (yieldE ops e) with
        | true => rfl
        | false => exact absurd (Or.inr hw) hB
      obtain ⟨hki, hkj⟩ : kd oi = .read ∧ (kd oj = .read ∨ kd oj = .new) := by
        rcases comm_cases hcm with hx | hx | hx
        · exact absurd hx hni
        · exact absurd hx hnj
        · exact hx
      rw [hki] at H0
      obtain ⟨vi, hvi, hK⟩ := H0 hS
      have H2 := hK.2 j hrj
      unfold obAt at H2
      rcases hkj with hkj | hkj
      rotate_left
      · simp only [hoj, wanted_putE oj e oi.dst vi h1, hwj, if_true, hkj] at H2
        have H3 := H2 hS
        unfold obAt
        simp only [hoj, hwj, if_true, hkj]
        intro _ w hw
        have H4 := H3 w hw
        rw [execOp_putE oj hsj e oi.dst vi h1] at H4
        refine newUpon_mono (fun vj h' hs' hg hk => ih _ _ h' hfree' hcj hri hs' ?_) H4
        unfold obAt
        simp only [hi, wanted_putE oi e oj.dst vj h3, hwi, if_true, hki]
        intro _
        refine ⟨vi, fun w2 hs2 hg2 => by rw [execOp_putE oi hsi e oj.dst vj h3]; exact hvi w2 hs2 (Grow.trans (by rw [← hw]; exact hg) hg2), ?_⟩
        dsimp only
        rw [← hcomm, ← putE_comm e vi vj h2]
        exact hk
      simp only [hoj, wanted_putE oj e oi.dst vi h1, hwj, if_true, hkj] at H2
      obtain ⟨vj, hvj, hK2⟩ := H2 hS
      have hvj' : ReadOb P S oj e h vj := fun w hs hw => by have := hvj w hs hw; rwa [execOp_putE oj hsj e oi.dst vi h1] at this
      unfold obAt
      simp only [hoj, hwj, if_true, hkj]
      intro _
      refine ⟨vj, hvj', ih _ _ h hfree' hcj hri hS ?_⟩
      unfold obAt
      simp only [hi, wanted_putE oi e oj.dst vj h3, hwi, if_true, hki]
      intro _
      refine ⟨vi, fun w hs hw => by rw [execOp_putE oi hsi e oj.dst vj h3]; exact hvi w hs hw, ?_⟩
      dsimp only
      rw [← hcomm, ← putE_comm e vi vj h2]
      exact hK2

/-! ### The Bool -/

def okFrom (kd : Oper → Kd) (ops : Array Oper) (F : Nat) : Nat → Nat → Array Bool → Bool
  | 0, _, listed => (Region.ready .any ops listed).isEmpty
  | fuel + 1, k, listed =>
    (Region.ready .any ops listed).contains k &&
    ((List.range ops.size).all fun j => j == k || listed.getD j true || (match ops[k]?, ops[j]? with | some ok, some oj => ok.apart ops oj && commB kd ok oj | _, _ => false) || beforeB ops F k j) &&
    okFrom kd ops F fuel (k + 1) (listed.setIfInBounds k true)

def okB (kd : Oper → Kd) (ops : Array Oper) (F : Nat) : Bool := Region.noSelect ops && okFrom kd ops F ops.size 0 (Array.replicate ops.size false)

theorem anyX_lex {K : Env → Heap → Prop} (F : Nat) (hs : Region.noSelect ops = true) : ∀ (l : List Oper) (k : Nat) (listed : Array Bool) (e : Env) (h : Heap), (∀ j, l[j]? = ops[k + j]?) →
    okFrom kd ops F l.length k listed = true → Closed ops listed → S h → Lx P S kd ops l K e h → anyX P S kd ops K l.length listed e h
  | [], _, _, _, _, _, hB, _, _, h => ⟨by simpa [okFrom] using hB, h⟩
  | o :: l, k, listed, e, hh, hl, hB, hc, hS, h => by
    have h0 : ops[k]? = some o := by simpa using (hl 0).symm
    simp only [List.length_cons, okFrom, Bool.and_eq_true] at hB
    obtain ⟨⟨hr, hf⟩, hB'⟩ := hB
    have hr' : k ∈ Region.ready .any ops listed := by simpa using hr
    refine anyX_first F h0 (Region.noSelect_spec hs) l.length listed e hh ?_ hc hr' hS ?_
    · intro j oj hj hjk hun
      have hlt : j < ops.size := (Array.getElem?_eq_some_iff.1 hj).1
      have h1 := List.all_eq_true.1 hf j (List.mem_range.2 hlt)
      simp only [h0, hj, Bool.or_eq_true, beq_iff_eq, Bool.and_eq_true] at h1
      rcases h1 with ((h1 | h1) | h1) | h1
      · exact absurd h1 hjk
      · rw [hun] at h1; cases h1
      · exact .inr h1
      · exact .inl h1
    · have hst : obAt P S kd ops k (Lx P S kd ops l K) e hh := by unfold obAt; simp only [h0]; exact h
      refine obAt_mono hS (fun e' h' hs' h5 => anyX_lex F hs l (k + 1) _ e' h' (fun j => by have := hl (j + 1); simpa [Nat.add_assoc, Nat.add_comm 1 j] using this) hB' (hc.set hr') hs' h5) hst

theorem closed_start : Closed ops (Array.replicate ops.size false) := by
  intro j oj _ hl
  rcases Nat.lt_or_ge j ops.size with h | h <;> simp [h] at hl

end

section
variable {P : Program} {S : Heap → Prop} {kd : Oper → Kd} {ro : Option Nat} {ds : List Deferred}

/-- A region that draws its order, walked in the order of the text. -/
theorem wp_draw {id n : Nat} {l : List Oper} {Q : Exit → Act → World → Prop} {a : Act} {w : World} {e : Env} {K : Env → Heap → Prop} (hm : P.follows .mixedOrders = true)
    (hok : okB kd l.toArray l.length = true) (hb : boundsB n l = true) (hf : Fits n ds e a) (hS : S w.heap) (h : Lx P S kd l.toArray l K e w.heap)
    (hQ : ∀ e a' w', Fits n ds e a' → Qt w w' → K e w'.heap → Q .normal a' w') : (Code.region id l.toArray true).wpIn (Fc ro) 0 P Q a w := by
  simp only [okB, Bool.and_eq_true] at hok
  refine wpIn_region_any hm ?_
  have hx : anyX P S kd l.toArray K l.length (Array.replicate l.toArray.size false) e w.heap :=
    anyX_lex l.length hok.1 l 0 _ e w.heap (by simp) (by simpa using hok.2) closed_start hS h
  have := wpAny_of_anyX (ro := ro) (P := P) (S := S) hb (w0 := { w with drawn := w.drawn + 1 }) (Q := Q) (K := K)
    (fun e a' w' hf' hq hk => hQ e a' w' hf' ⟨hq.os, hq.tape, hq.output⟩ hk) l.length (Array.replicate l.toArray.size false) e a { w with drawn := w.drawn + 1 } hf (Qt.refl _) hS hx
  simpa using this

/-- A region in the order of the text. -/
theorem wpList_of_lx {n : Nat} {ops : List Oper} {Q : Exit → Act → World → Prop} {w0 : World} {K : Env → Heap → Prop}
    (hQ : ∀ e a' w', Fits n ds e a' → Qt w0 w' → K e w'.heap → Q .normal a' w') :
    ∀ (l : List Oper), (∀ o ∈ l, notDefer o = true ∧ ∀ d, o.dst = some d → d < n) → ∀ (e : Env) (a : Act) (w : World), Fits n ds e a → Qt w0 w → S w.heap → Lx P S kd ops.toArray l K e w.heap → wpListIn (Fc ro) 0 P ops.toArray Q l a w
  | [], _, e, a, w, hf, hq, _, h => hQ e a w hf hq h
  | o :: l, hb, e, a, w, hf, hq, hS, h => by
    obtain ⟨hnd, hd⟩ := hb o (List.mem_cons_self ..)
    have hb' : ∀ o ∈ l, notDefer o = true ∧ ∀ d, o.dst = some d → d < n := fun o' ho' => hb o' (List.mem_cons_of_mem _ ho')
    unfold Lx at h
    unfold wpListIn
    rw [hf.yielded]
    split
    · rename_i hw
      simp only [hw, if_true] at h
      exact (oper_wp hnd hS hf rfl h fun v w' hq' hs' hk => wpList_of_lx hQ l hb' _ _ w' (hf.put _ _ hd) (hq.trans hq') hs' hk)
    · rename_i hw
      simp only [hw] at h
      exact ⟨fun f _ => trivial, wpList_of_lx hQ l hb' _ _ w (hf.put _ _ hd) hq hS h⟩

theorem wp_plain {id n : Nat} {l : List Oper} {Q : Exit → Act → World → Prop} {a : Act} {w : World} {e : Env} {K : Env → Heap → Prop}
    (hb : boundsB n l = true) (hf : Fits n ds e a) (hS : S w.heap) (h : Lx P S kd l.toArray l K e w.heap)
    (hQ : ∀ e a' w', Fits n ds e a' → Qt w w' → K e w'.heap → Q .normal a' w') : (Code.region id l.toArray false).wpIn (Fc ro) 0 P Q a w := by
  refine wpIn_region_lit (wpList_of_lx hQ l ?_ e a w hf (Qt.refl _) hS h)
  intro o ho
  have := List.all_eq_true.1 hb o ho
  simp only [Bool.and_eq_true] at this
  refine ⟨this.1, fun d hd => ?_⟩
  have := this.2
  rw [hd] at this
  simpa [Nat.blt_eq] using this

end
end Go.X
namespace Go.X

def TT (_ : Heap) : Prop := True

/-- Which operations are free, which read, which act. -/
def kindOf (o : Oper) : Kd :=
  match o.op with
  | .move _ | .assign _ | .pick _ _ _ | .binOp .. | .unOp .. | .convert .. | .build .. | .field .. | .fieldAddr .. | .indexAddr .. | .index .. | .extract ..
  | .makeInterface .. | .makeFunc .. | .nilCheck _ | .slice .. => .free
  | .call { callee := .builtin .len, .. } | .call { callee := .builtin .max, .. } | .call { callee := .builtin .min, .. } => .free
  | .load .. | .lookup .. => .read
  | .alloc _ | .box .. | .buildSlice .. | .makeSlice .. => .new
  | _ => .eff

/-- How an activation stands: in a round or not; the marks among its deferred calls. -/
structure Mo where
  ro : Option Nat
  ds : List Deferred

/-- The jump by which a round is left, off what is still to do. -/
def LeavesBy : Option Code → List Item → Prop
  | none, t => t = []
  | some .ret, t => ∃ k, t = .code .ret :: k
  | some (.exit id), t => ∃ k, t = .code (.exit id) :: k ∧ exitTo id k = none
  | _, _ => False

def LastF (ro : Option Nat) (j : Option Code) (b : Frame) (a : Act) (fr : Frame) : Prop :=
  match ro with
  | none => ∃ todo, fr = { b.atR a todo with mode := .returning }
  | some _ => ∃ todo, LeavesBy j todo ∧ fr = b.atR a todo

/-- From these items on the activation comes to its return, or the end of its round, and 'R' holds there. -/
def WpI (M : Mo) (P : Program) (n : Nat) (its : List Item) (R : Option Code → Env → Heap → Prop) (e : Env) (h : Heap) : Prop :=
  ∀ (b : Frame) (cs : List Frame) (a : Act) (w : World), b.roundOf = M.ro → Fits n M.ds e a → w.heap = h →
    ∃ j e' a' w' fr, Fits n [] e' a' ∧ Qt w w' ∧ R j e' w'.heap ∧ LastF M.ro j b a' fr ∧ Steps P (lone (b.atR a its) cs w) (lone fr cs w')

/-- A call that returns. -/
def Fx (P : Program) (f : Nat) (args : List Value) (h : Heap) (R : Value → Heap → Prop) : Prop :=
  ∀ w : World, w.heap = h → Calls P f args.toArray w (fun x w' => ∃ v, x = .returned v ∧ Qt w w' ∧ R v w'.heap)

theorem Fx.mono {P : Program} {f : Nat} {args : List Value} {h : Heap} {R R' : Value → Heap → Prop} (hf : Fx P f args h R) (hm : ∀ v h', R v h' → R' v h') : Fx P f args h R' :=
  fun w hw => (hf w hw).mono fun _ _ ⟨v, hx, hq, hr⟩ => ⟨v, hx, hq, hm _ _ hr⟩

/-- The results as they are read at the return. -/
def ResOb (P : Program) (fn : Func) (e : Env) (h : Heap) (v : Value) : Prop :=
  ∀ (a : Act) (w : World), (∀ i, a.tmps.getD i undef = e i) → w.heap = h → (results fn a.tmps).run P w = .ok v w

def argsE (args : List Value) : Env := fun i => args.getD i undef

section
variable {M : Mo} {P : Program} {n : Nat} {k : List Item} {R : Option Code → Env → Heap → Prop} {e : Env} {h : Heap}

theorem fn_intro {f : Nat} {fn : Func} {c : Code} {args : List Value} {Rv : Value → Heap → Prop} (hf : P.funcs[f]? = some fn) (hb : fn.body = some c) (hn : fn.ntmps = n) (hl : args.length ≤ n)
    (hw : WpI ⟨none, []⟩ P n [.code c] (fun _ e' h' => ∃ v, ResOb P fn e' h' v ∧ Rv v h') (argsE args) h) : Fx P f args h Rv := by
  intro w hw0 cs
  let b : Frame := { (default : Frame) with fn := f, kind := .normal, roundOf := none }
  have henter : Frame.enter P f args.toArray .normal =
      b.atR { tmps := args.toArray ++ Array.replicate (fn.ntmps - args.toArray.size) undef, defers := [] } [.code c] := by
    simp [Frame.enter, Frame.atR, hf, hb, b]
  have hfits : Fits n [] (argsE args) { tmps := args.toArray ++ Array.replicate (fn.ntmps - args.toArray.size) undef, defers := [] } := by
    refine ⟨rfl, by simp [hn]; omega, fun i => ?_⟩
    simp only [argsE, Array.getD_eq_getD_getElem?, List.getD_eq_getElem?_getD]
    rw [Array.getElem?_append]
    split
    · simp
    · rename_i hi
      have : args[i]? = none := by simpa using hi
      rw [this]
      simp only [Array.getElem?_replicate]
      split <;> rfl
  obtain ⟨j, e', a', w', fr, hf', hq, ⟨v, hres, hR⟩, ⟨todo, rfl⟩, hs⟩ := hw b cs _ w rfl hfits hw0
  rw [← henter] at hs
  exact ⟨.returned v, w', _, ⟨v, rfl, hq, hR⟩, hs, rfl, rfl, hf'.defers, rfl, fn, hf, hres a' w' hf'.get rfl⟩

theorem of_step {its its' : List Item} (hstep : ∀ (b : Frame) (cs : List Frame) (a : Act) (w : World), Fits n M.ds e a → step P (lone (b.atR a its) cs w) = .next (lone (b.atR a its') cs w)) (hw : WpI M P n its' R e h) : WpI M P n its R e h := by
  intro b cs a w hro hf hh
  obtain ⟨j, e', a', w', fr, hf', hq, hR, hl, hs⟩ := hw b cs a w hro hf hh
  exact ⟨j, e', a', w', fr, hf', hq, hR, hl, .head (hstep b cs a w hf) hs⟩

theorem wi_seq {x y : Code} (hw : WpI M P n (.code x :: .code y :: k) R e h) : WpI M P n (.code (.seq x y) :: k) R e h := of_step (fun _ _ _ _ _ => stepR_seq) hw
theorem wi_skip (hw : WpI M P n k R e h) : WpI M P n (.code .skip :: k) R e h := of_step (fun _ _ _ _ _ => stepR_skip) hw
theorem wi_label {l : Nat} (hw : WpI M P n k R e h) : WpI M P n (.code (.label l) :: k) R e h := of_step (fun _ _ _ _ _ => stepR_label) hw
theorem wi_block {id : Nat} {c : Code} (hw : WpI M P n (.code c :: .inBlock id :: k) R e h) : WpI M P n (.code (.block id c) :: k) R e h := of_step (fun _ _ _ _ _ => stepR_block) hw
theorem wi_inBlock {id : Nat} (hw : WpI M P n k R e h) : WpI M P n (.inBlock id :: k) R e h := of_step (fun _ _ _ _ _ => stepR_inBlock) hw
theorem wi_exit {id : Nat} {k' : List Item} (hx : exitTo id k = some k') (hw : WpI M P n k' R e h) : WpI M P n (.code (.exit id) :: k) R e h := of_step (fun _ _ _ _ _ => stepR_exit hx) hw
theorem wi_cond {c : Operand} {x y : Code} (t : Bool) (hc : ev e c = .bool t) (hw : WpI M P n (.code (if t then x else y) :: k) R e h) : WpI M P n (.code (.cond c x y) :: k) R e h :=
  of_step (fun _ _ a _ hf => stepR_cond (t := t) (by rw [hf.ev]; exact hc)) hw
theorem wi_true {c : Operand} {x y : Code} (hc : ev e c = .bool true) (hw : WpI M P n (.code x :: k) R e h) : WpI M P n (.code (.cond c x y) :: k) R e h := wi_cond true hc hw
theorem wi_false {c : Operand} {x y : Code} (hc : ev e c = .bool false) (hw : WpI M P n (.code y :: k) R e h) : WpI M P n (.code (.cond c x y) :: k) R e h := wi_cond false hc hw

theorem wi_ret {ro : Option Nat} (hR : R (some .ret) e h) : WpI ⟨ro, []⟩ P n (.code .ret :: k) R e h :=
  fun b cs a w hro hf hh => by
    cases ro with
    | none => exact ⟨_, e, a, w, _, hf, Qt.refl _, by rw [hh]; exact hR, ⟨_, rfl⟩, .one (stepR_ret hro)⟩
    | some l => exact ⟨some .ret, e, a, w, _, hf, Qt.refl _, by rw [hh]; exact hR, ⟨.code .ret :: k, ⟨k, rfl⟩, rfl⟩, .refl _ _⟩
theorem wi_end {ro : Option Nat} (hR : R none e h) : WpI ⟨ro, []⟩ P n [] R e h :=
  fun b cs a w hro hf hh => by
    cases ro with
    | none => exact ⟨_, e, a, w, _, hf, Qt.refl _, by rw [hh]; exact hR, ⟨_, rfl⟩, .one (stepR_end hro)⟩
    | some l => exact ⟨none, e, a, w, _, hf, Qt.refl _, by rw [hh]; exact hR, ⟨[], rfl, rfl⟩, .refl _ _⟩

theorem wi_of_wp {c : Code} (hc : ∀ (a : Act) (w : World), Fits n M.ds e a → w.heap = h → c.wpIn (Fc M.ro) 0 P (fun x a' w' => x = .normal ∧ Qt w w' ∧ ∃ e', Fits n M.ds e' a' ∧ WpI M P n k R e' w'.heap) a w) : WpI M P n (.code c :: k) R e h := by
  intro b cs a w hro hf hh
  obtain ⟨x, a1, w1, ⟨hx, hq, e1, hf1, hw1⟩, harr⟩ := hc a w hf hh b k cs hro trivial (fc_room _ _)
  subst hx
  obtain ⟨j, e', a', w', fr, hf', hq', hR, hl, hs⟩ := hw1 b cs a1 w1 hro hf1 rfl
  exact ⟨j, e', a', w', fr, hf', hq.trans hq', hR, hl, Steps.trans (StepsIn.steps harr) hs⟩

/-- A region in the order of the text. -/
theorem wi_reg {id : Nat} {l : List Oper} (hb : boundsB n l = true) (hw : Lx P TT kindOf l.toArray l (WpI M P n k R) e h) : WpI M P n (.code (.region id l.toArray false) :: k) R e h :=
  wi_of_wp fun a w hf hh => by
    subst hh
    exact wp_plain hb hf trivial hw fun e' a' w' hf' hq hk => ⟨rfl, hq, e', hf', hk⟩

/-- A region that draws its order. -/
theorem wi_draw {id : Nat} {l : List Oper} (hm : P.follows .mixedOrders = true) (hb : boundsB n l = true) (hok : okB kindOf l.toArray l.length = true) (hw : Lx P TT kindOf l.toArray l (WpI M P n k R) e h) :
    WpI M P n (.code (.region id l.toArray true) :: k) R e h :=
  wi_of_wp fun a w hf hh => by
    subst hh
    exact wp_draw hm hok hb hf trivial hw fun e' a' w' hf' hq hk => ⟨rfl, hq, e', hf', hk⟩

/-- The same with a class of heaps, and kinds, of one's own. -/
theorem wi_drawS {id : Nat} {l : List Oper} (S : Heap → Prop) (kd : Oper → Kd) (hm : P.follows .mixedOrders = true) (hb : boundsB n l = true) (hok : okB kd l.toArray l.length = true) (hS : S h)
    (hw : Lx P S kd l.toArray l (WpI M P n k R) e h) : WpI M P n (.code (.region id l.toArray true) :: k) R e h :=
  wi_of_wp fun a w hf hh => by
    subst hh
    exact wp_draw hm hok hb hf hS hw fun e' a' w' hf' hq hk => ⟨rfl, hq, e', hf', hk⟩

/-! ### Environments that agree -/

def Agree (W : Nat → Bool) (e e' : Env) : Prop := ∀ i, W i = false → e' i = e i
def mixE (W : Nat → Bool) (g e : Env) : Env := fun i => cond (W i) (g i) (e i)
def Has (e : Env) : List (Nat × Value) → Prop
  | [] => True
  | (d, v) :: L => e d = v ∧ Has e L
def rngB (lo hi : Nat) (l : List Nat) (i : Nat) : Bool := (Nat.ble lo i && Nat.blt i hi) || l.any (Nat.beq i)

theorem ups_has {e : Env} {L : List (Nat × Value)} (hL : Has e L) : ups L e = e := by
  induction L with
  | nil => rfl
  | cons p L ih =>
    obtain ⟨d, v⟩ := p
    have h2 := ih hL.2
    funext i
    show upd (ups L e) d v i = e i
    by_cases hi : i = d
    · subst hi; rw [upd_same]; exact hL.1.symm
    · rw [upd_other _ _ hi, h2]

theorem mix_agree {W : Nat → Bool} {e e' : Env} (ha : Agree W e e') : mixE W e' e = e' := by
  funext i
  unfold mixE
  cases hW : W i with
  | true => rfl
  | false => exact (ha i hW).symm

theorem agree_ups {W : Nat → Bool} {e b : Env} {L : List (Nat × Value)} (hL : (L.all fun p => W p.1) = true) (hb : Agree W e b) : Agree W e (ups L b) := by
  induction L with
  | nil => exact hb
  | cons p L ih =>
    obtain ⟨d, v⟩ := p
    simp only [List.all_cons, Bool.and_eq_true] at hL
    intro i hi
    show upd (ups L b) d v i = e i
    rw [upd_other]
    · exact ih hL.2 i hi
    · intro hid; subst hid; rw [hL.1] at hi; cases hi

theorem agree_mix {W W' : Nat → Bool} {e b g : Env} (hW : ∀ i, W' i = true → W i = true) (hb : Agree W e b) : Agree W e (mixE W' g b) := by
  intro i hi
  unfold mixE
  cases h' : W' i with
  | true => rw [hW i h'] at hi; cases hi
  | false => exact hb i hi
theorem agree_self {W : Nat → Bool} {e g : Env} : Agree W e (mixE W g e) := fun i hi => by simp [mixE, hi]

theorem rngB_sub {lo hi lo' hi' : Nat} {l l' : List Nat} (h1 : lo ≤ lo') (h2 : hi' ≤ hi) (h3 : (l'.all fun j => rngB lo hi l j) = true) : ∀ i, rngB lo' hi' l' i = true → rngB lo hi l i = true := by
  intro i hi1
  unfold rngB at hi1
  simp only [Bool.or_eq_true, Bool.and_eq_true] at hi1
  rcases hi1 with ⟨ha, hb⟩ | ha
  · have ha' := Nat.le_of_ble_eq_true ha
    have hb' : i < hi' := by simpa [Nat.blt_eq] using hb
    have e1 : Nat.ble lo i = true := Nat.ble_eq_true_of_le (by omega)
    have e2 : Nat.blt i hi = true := by rw [Nat.blt_eq]; omega
    simp [rngB, e1, e2]
  · obtain ⟨j, hj, hij⟩ := List.any_eq_true.1 ha
    have : i = j := Nat.eq_of_beq_eq_true hij
    subst this
    exact List.all_eq_true.1 h3 _ hj

/-- Forgetting all but some slots. -/
theorem wi_forget {its : List Item} (L : List (Nat × Value)) (hL : Has e L) (hw : ∀ g : Env, WpI M P n its R (ups L g) h) : WpI M P n its R e h := by
  have := hw e
  rwa [ups_has hL] at this

/-- A loop: 's' is what its state is, 'Ls s' what the slots hold that are looked at again, 'I' what is known, 'μ' what goes down. -/
theorem wi_loop {σ : Type} {body : Code} (W : Nat → Bool) (Ls : σ → List (Nat × Value)) (I : σ → Heap → Prop) (μ : σ → Nat) (s0 : σ) (hL : Has e (Ls s0)) (h0 : I s0 h)
    (round : ∀ (g : Env) (s : σ) (hh : Heap), I s hh →
      (∀ (e' : Env) (h' : Heap) (s' : σ), Agree W e e' → Has e' (Ls s') → I s' h' → μ s' < μ s → WpI M P n (.inLoop body :: k) R e' h') →
      WpI M P n (.code body :: .inLoop body :: k) R (ups (Ls s) (mixE W g e)) hh) :
    WpI M P n (.code (.loop body) :: k) R e h := by
  have key : ∀ (m : Nat) (s : σ) (e1 : Env) (hh : Heap), μ s = m → Agree W e e1 → Has e1 (Ls s) → I s hh → WpI M P n (.code body :: .inLoop body :: k) R e1 hh := by
    intro m
    induction m using Nat.strongRecOn with
    | _ m ih =>
      intro s e1 hh hm ha hL1 hI
      have hr := round e1 s hh hI (fun e' h' s' ha' hL' hI' hlt => of_step (fun _ _ _ _ _ => stepR_inLoop) (ih (μ s') (hm ▸ hlt) s' e' h' rfl ha' hL' hI'))
      rwa [mix_agree ha, ups_has hL1] at hr
  exact of_step (fun _ _ _ _ _ => stepR_loop) (key _ s0 e h rfl (fun _ _ => rfl) hL h0)

/-- Where ways meet again: what follows is proved once. -/
theorem wi_cut {σ : Type} {it : Item} (W : Nat → Bool) (Ls : σ → List (Nat × Value)) (I : σ → Heap → Prop)
    (hw : (∀ (e' : Env) (h' : Heap) (s : σ), Agree W e e' → Has e' (Ls s) → I s h' → WpI M P n k R e' h') → WpI M P n (it :: k) R e h)
    (hk : ∀ (g : Env) (s : σ) (hh : Heap), I s hh → WpI M P n k R (ups (Ls s) (mixE W g e)) hh) : WpI M P n (it :: k) R e h := by
  refine hw fun e' h' s ha hL hI => ?_
  have := hk e' s h' hI
  rwa [mix_agree ha, ups_has hL] at this

theorem wi_condS {c : Operand} {x y : Code} {t : Bool} (hc : ev e c = .bool t) (h1 : t = true → WpI M P n (.code x :: k) R e h) (h2 : t = false → WpI M P n (.code y :: k) R e h) : WpI M P n (.code (.cond c x y) :: k) R e h := by
  cases t
  · exact wi_false hc (h2 rfl)
  · exact wi_true hc (h1 rfl)

end

/-- A function, entered: its parameters by their slots. -/
theorem fx_intro {P : Program} {n f : Nat} {fn : Func} {c : Code} {args : List Value} {h : Heap} {Rv : Value → Heap → Prop} (L : List (Nat × Value)) (hf : P.funcs[f]? = some fn) (hb : fn.body = some c) (hn : fn.ntmps = n) (hl : args.length ≤ n) (hL : Has (argsE args) L)
    (hw : ∀ g : Env, WpI ⟨none, []⟩ P n [.code c] (fun _ e' h' => ∃ v, ResOb P fn e' h' v ∧ Rv v h') (ups L g) h) : Fx P f args h Rv :=
  fn_intro hf hb hn hl (wi_forget L hL hw)

/-! ### Results -/
section
variable {P : Program} {fn : Func} {e : Env} {h : Heap}
theorem res_one {t : Nat} (hr : fn.results = #[.tmp t]) {v : Value} (hv : e t = v) : ResOb P fn e h v := by
  intro a w ha _
  rw [results_tmp hr, ha, hv]
theorem res_two {t u : Nat} (hr : fn.results = #[.tmp t, .tmp u]) {v1 v2 : Value} (h1 : e t = v1) (h2 : e u = v2) : ResOb P fn e h (.tuple #[v1, v2]) := by
  intro a w ha _
  rw [results_tmp2 hr, ha, ha, h1, h2]
theorem res_three {t u x : Nat} (hr : fn.results = #[.tmp t, .tmp u, .tmp x]) {v1 v2 v3 : Value} (h1 : e t = v1) (h2 : e u = v2) (h3 : e x = v3) : ResOb P fn e h (.tuple #[v1, v2, v3]) := by
  intro a w ha _
  have : (results fn a.tmps).run P w = .ok (.tuple #[a.tmps.getD t undef, a.tmps.getD u undef, a.tmps.getD x undef]) w := by simp [results, hr]
  rw [this, ha, ha, ha, h1, h2, h3]
theorem res_four {t u x y : Nat} (hr : fn.results = #[.tmp t, .tmp u, .tmp x, .tmp y]) {v1 v2 v3 v4 : Value} (h1 : e t = v1) (h2 : e u = v2) (h3 : e x = v3) (h4 : e y = v4) : ResOb P fn e h (.tuple #[v1, v2, v3, v4]) := by
  intro a w ha _
  have : (results fn a.tmps).run P w = .ok (.tuple #[a.tmps.getD t undef, a.tmps.getD u undef, a.tmps.getD x undef, a.tmps.getD y undef]) w := by simp [results, hr]
  rw [this, ha, ha, ha, ha, h1, h2, h3, h4]
theorem res_none (hr : fn.results = #[]) : ResOb P fn e h (.tuple #[]) := by
  intro a w _ _
  rw [results_none hr]
end

end Go.X
namespace Go.X

section
variable {P : Program} {S : Heap → Prop} {kd : Oper → Kd} {ops : Array Oper} {rest : List Oper} {K : Env → Heap → Prop} {L : List (Nat × Value)} {b : Env} {h : Heap}
variable {d : Nat} {t t2 : TypeId} {p : String} {af : Array Edge} {g : Option (Nat × Bool)} {x y z : Operand}

theorem lx_nil (hK : K (ups L b) h) : Lx P S kd ops [] K (ups L b) h := hK

theorem lx_free {op : Op} (v : Value) (hw : Region.wanted ⟨some d, op, t, p, af, g⟩ (yieldE ops (ups L b)) = true) (hv : FreeOb P S ⟨some d, op, t, p, af, g⟩ (ups L b) v)
    (hn : Lx P S kd ops rest K (ups ((d, v) :: L) b) h) : Lx P S kd ops (⟨some d, op, t, p, af, g⟩ :: rest) K (ups L b) h := by
  unfold Lx
  rw [if_pos hw]
  exact ob_of_free v hv hn

theorem lx_skip {op : Op} (hw : Region.wanted ⟨some d, op, t, p, af, g⟩ (yieldE ops (ups L b)) = false)
    (hn : Lx P S kd ops rest K (ups ((d, undef) :: L) b) h) : Lx P S kd ops (⟨some d, op, t, p, af, g⟩ :: rest) K (ups L b) h := by
  unfold Lx
  rw [if_neg (by rw [hw]; simp)]
  exact hn

theorem lx_move (v : Value) (hw : Region.wanted ⟨some d, .move x, t, p, af, g⟩ (yieldE ops (ups L b)) = true) (hx : ev (ups L b) x = v)
    (hn : Lx P S kd ops rest K (ups ((d, v) :: L) b) h) : Lx P S kd ops (⟨some d, .move x, t, p, af, g⟩ :: rest) K (ups L b) h :=
  lx_free v hw (fun w _ => by subst hx; simp [execOp]) hn

theorem lx_assign (v : Value) (hw : Region.wanted ⟨some d, .assign x, t, p, af, g⟩ (yieldE ops (ups L b)) = true) (hx : ev (ups L b) x = v)
    (hn : Lx P S kd ops rest K (ups ((d, v) :: L) b) h) : Lx P S kd ops (⟨some d, .assign x, t, p, af, g⟩ :: rest) K (ups L b) h :=
  lx_free v hw (fun w _ => by subst hx; simp [execOp]) hn

theorem lx_pick (c : Bool) (v : Value) (hw : Region.wanted ⟨some d, .pick x y z, t, p, af, g⟩ (yieldE ops (ups L b)) = true) (hx : ev (ups L b) x = .bool c) (hv : (if c then ev (ups L b) y else ev (ups L b) z) = v)
    (hn : Lx P S kd ops rest K (ups ((d, v) :: L) b) h) : Lx P S kd ops (⟨some d, .pick x y z, t, p, af, g⟩ :: rest) K (ups L b) h :=
  lx_free v hw (fun w _ => by subst hv; simp [execOp, hx, asBool]) hn

theorem lx_extract {vs : Array Value} {i : Nat} (v : Value) (hw : Region.wanted ⟨some d, .extract x i, t, p, af, g⟩ (yieldE ops (ups L b)) = true) (hx : ev (ups L b) x = .tuple vs) (hv : vs[i]? = some v)
    (hn : Lx P S kd ops rest K (ups ((d, v) :: L) b) h) : Lx P S kd ops (⟨some d, .extract x i, t, p, af, g⟩ :: rest) K (ups L b) h :=
  lx_free v hw (fun w _ => by simp [execOp, hx, Instr.extract, hv]) hn

theorem lx_makeFunc {fn : Go.Fn} {first cap : Array Operand} (v1 v2 : List Value) (hw : Region.wanted ⟨some d, .makeFunc fn first cap, t, p, af, g⟩ (yieldE ops (ups L b)) = true)
    (h1 : first.toList.map (ev (ups L b)) = v1) (h2 : cap.toList.map (ev (ups L b)) = v2)
    (hn : Lx P S kd ops rest K (ups ((d, .func fn v1.toArray v2.toArray) :: L) b) h) : Lx P S kd ops (⟨some d, .makeFunc fn first cap, t, p, af, g⟩ :: rest) K (ups L b) h :=
  lx_free _ hw (fun w _ => by
    subst h1; subst h2
    have e1 : ∀ A : Array Operand, A.map (ev (ups L b)) = (A.toList.map (ev (ups L b))).toArray := fun A => by rw [← Array.toList_map]
    simp only [execOp, Instr.makeFunc, e1]; rfl) hn

/-! ### Arithmetic -/

variable {tx ty : TypeId}

theorem run_guard_int {w : World} {op : BinOp} {k k' : IntKind} {m n : Int} : (eqGuard op t x y (.int k m) (.int k' n)).run P w = .ok () w := by
  unfold eqGuard
  cases op <;> simp

theorem fo_int {op : BinOp} {e : Env} {k k' : IntKind} {m n : Int} {v : Value} (hx : ev e x = .int k m) (hy : ev e y = .int k' n)
    (hv : ∀ w, (binOp op tx (.int k m) (.int k' n)).run P w = .ok v w) : FreeOb P S ⟨some d, .binOp op tx x y ty, t, p, af, g⟩ e v := by
  intro w _
  simp only [execOp, hx, hy, Sem.run_bind, run_guard_int, Result.andThen_ok, hv, Sem.run_pure]

end

theorem wrap_i64 {r : Int} (h1 : -9223372036854775808 ≤ r) (h2 : r ≤ 9223372036854775807) : IntKind.i64.wrap r = r := by
  rw [IntKind.wrap_i64]
  omega
theorem wrap_u64 {r : Int} (h1 : 0 ≤ r) (h2 : r < 18446744073709551616) : IntKind.u64.wrap r = r := by
  have e : IntKind.u64.wrap r = r % 18446744073709551616 := by
    unfold IntKind.wrap IntKind.signed IntKind.bits
    simp
  rw [e]
  omega
theorem wrap_u64' (r : Int) : IntKind.u64.wrap r = r % 18446744073709551616 := by
  unfold IntKind.wrap IntKind.signed IntKind.bits
  simp

theorem tdiv_cast (m n : Nat) : ((m : Int)).tdiv (n : Int) = ((m / n : Nat) : Int) := by
  rw [Int.tdiv_eq_ediv_of_nonneg (by omega)]; rfl
theorem tmod_cast (m n : Nat) : ((m : Int)).tmod (n : Int) = ((m % n : Nat) : Int) := by
  rw [Int.tmod_eq_emod_of_nonneg (by omega)]; rfl

/-- What 'uint(n)' is. -/
def ur (m : Int) : Nat := (m % 18446744073709551616).toNat
theorem ur_cast (m : Int) : ((ur m : Nat) : Int) = m % 18446744073709551616 := by
  unfold ur
  omega
theorem ur_lt (m : Int) : ur m < 18446744073709551616 := by
  have := ur_cast m
  omega
theorem wrap_ur (m : Int) : IntKind.u64.wrap m = ((ur m : Nat) : Int) := by rw [wrap_u64', ur_cast]
theorem wrap_quo_u64 {m n : Nat} (h : m < 18446744073709551616) : IntKind.u64.wrap ((m / n : Nat) : Int) = ((m / n : Nat) : Int) := by
  have := Nat.div_le_self m n
  generalize m / n = q at *
  exact wrap_u64 (by omega) (by omega)

section
variable {P : Program} {S : Heap → Prop} {kd : Oper → Kd} {ops : Array Oper} {rest : List Oper} {K : Env → Heap → Prop} {L : List (Nat × Value)} {b : Env} {h : Heap}
variable {d : Nat} {t tx ty : TypeId} {p : String} {af : Array Edge} {g : Option (Nat × Bool)} {x y z : Operand}

theorem lx_add {m n : Int} (r : Int) (hw : Region.wanted ⟨some d, .binOp .add tx x y ty, t, p, af, g⟩ (yieldE ops (ups L b)) = true) (hx : ev (ups L b) x = .int .i64 m) (hy : ev (ups L b) y = .int .i64 n) (hr : m + n = r) (hlo : -9223372036854775808 ≤ r) (hhi : r ≤ 9223372036854775807)
    (hn : Lx P S kd ops rest K (ups ((d, .int .i64 r) :: L) b) h) : Lx P S kd ops (⟨some d, .binOp .add tx x y ty, t, p, af, g⟩ :: rest) K (ups L b) h :=
  lx_free _ hw (fo_int hx hy fun w => by subst hr; simp [binOp, Op.intArith, wrap_i64 hlo hhi]) hn
theorem lx_sub {m n : Int} (r : Int) (hw : Region.wanted ⟨some d, .binOp .sub tx x y ty, t, p, af, g⟩ (yieldE ops (ups L b)) = true) (hx : ev (ups L b) x = .int .i64 m) (hy : ev (ups L b) y = .int .i64 n) (hr : m - n = r) (hlo : -9223372036854775808 ≤ r) (hhi : r ≤ 9223372036854775807)
    (hn : Lx P S kd ops rest K (ups ((d, .int .i64 r) :: L) b) h) : Lx P S kd ops (⟨some d, .binOp .sub tx x y ty, t, p, af, g⟩ :: rest) K (ups L b) h :=
  lx_free _ hw (fo_int hx hy fun w => by subst hr; simp [binOp, Op.intArith, wrap_i64 hlo hhi]) hn
theorem lx_mul {m n : Int} (r : Int) (hw : Region.wanted ⟨some d, .binOp .mul tx x y ty, t, p, af, g⟩ (yieldE ops (ups L b)) = true) (hx : ev (ups L b) x = .int .i64 m) (hy : ev (ups L b) y = .int .i64 n) (hr : m * n = r) (hlo : -9223372036854775808 ≤ r) (hhi : r ≤ 9223372036854775807)
    (hn : Lx P S kd ops rest K (ups ((d, .int .i64 r) :: L) b) h) : Lx P S kd ops (⟨some d, .binOp .mul tx x y ty, t, p, af, g⟩ :: rest) K (ups L b) h :=
  lx_free _ hw (fo_int hx hy fun w => by subst hr; simp [binOp, Op.intArith, wrap_i64 hlo hhi]) hn
theorem lx_quo {k : IntKind} {m n : Nat} (hw : Region.wanted ⟨some d, .binOp .quo tx x y ty, t, p, af, g⟩ (yieldE ops (ups L b)) = true) (hx : ev (ups L b) x = .int k ((m : Nat) : Int)) (hy : ev (ups L b) y = .int k ((n : Nat) : Int)) (h0 : 0 < n) (hr : k.wrap ((m / n : Nat) : Int) = ((m / n : Nat) : Int))
    (hn : Lx P S kd ops rest K (ups ((d, .int k ((m / n : Nat) : Int)) :: L) b) h) : Lx P S kd ops (⟨some d, .binOp .quo tx x y ty, t, p, af, g⟩ :: rest) K (ups L b) h :=
  lx_free _ hw (fo_int hx hy fun w => by
    have h0' : ¬ ((n : Int) = 0) := by omega
    simp only [binOp, Op.intDiv, ne_eq, not_true_eq_false, if_false, h0', tdiv_cast, hr]
    simp) hn
theorem lx_rem {k : IntKind} {m n : Nat} (hw : Region.wanted ⟨some d, .binOp .rem tx x y ty, t, p, af, g⟩ (yieldE ops (ups L b)) = true) (hx : ev (ups L b) x = .int k ((m : Nat) : Int)) (hy : ev (ups L b) y = .int k ((n : Nat) : Int)) (h0 : 0 < n)
    (hn : Lx P S kd ops rest K (ups ((d, .int k ((m % n : Nat) : Int)) :: L) b) h) : Lx P S kd ops (⟨some d, .binOp .rem tx x y ty, t, p, af, g⟩ :: rest) K (ups L b) h :=
  lx_free _ hw (fo_int hx hy fun w => by
    have h0' : ¬ ((n : Int) = 0) := by omega
    simp only [binOp, Op.intDiv, ne_eq, not_true_eq_false, if_false, h0', tmod_cast]
    simp) hn
theorem lx_remZ {k : IntKind} {m n : Int} (hw : Region.wanted ⟨some d, .binOp .rem tx x y ty, t, p, af, g⟩ (yieldE ops (ups L b)) = true) (hx : ev (ups L b) x = .int k m) (hy : ev (ups L b) y = .int k n) (h0 : n ≠ 0)
    (hn : Lx P S kd ops rest K (ups ((d, .int k (m.tmod n)) :: L) b) h) : Lx P S kd ops (⟨some d, .binOp .rem tx x y ty, t, p, af, g⟩ :: rest) K (ups L b) h :=
  lx_free _ hw (fo_int hx hy fun w => by
    simp only [binOp, Op.intDiv, ne_eq, not_true_eq_false, if_false, h0]
    simp) hn
theorem lx_lss {k : IntKind} {m n : Int} (hw : Region.wanted ⟨some d, .binOp .lss tx x y ty, t, p, af, g⟩ (yieldE ops (ups L b)) = true) (hx : ev (ups L b) x = .int k m) (hy : ev (ups L b) y = .int k n)
    (hn : Lx P S kd ops rest K (ups ((d, .bool (decide (m < n))) :: L) b) h) : Lx P S kd ops (⟨some d, .binOp .lss tx x y ty, t, p, af, g⟩ :: rest) K (ups L b) h :=
  lx_free _ hw (fo_int hx hy fun w => by simp [binOp, Op.intCmp]) hn
theorem lx_lssB {k : IntKind} {m n : Int} (c : Bool) (hw : Region.wanted ⟨some d, .binOp .lss tx x y ty, t, p, af, g⟩ (yieldE ops (ups L b)) = true) (hx : ev (ups L b) x = .int k m) (hy : ev (ups L b) y = .int k n) (hc : decide (m < n) = c)
    (hn : Lx P S kd ops rest K (ups ((d, .bool c) :: L) b) h) : Lx P S kd ops (⟨some d, .binOp .lss tx x y ty, t, p, af, g⟩ :: rest) K (ups L b) h := by
  subst hc
  exact lx_lss hw hx hy hn
theorem lx_lssT {k : IntKind} {m n : Int} (hw : Region.wanted ⟨some d, .binOp .lss tx x y ty, t, p, af, g⟩ (yieldE ops (ups L b)) = true) (hx : ev (ups L b) x = .int k m) (hy : ev (ups L b) y = .int k n) (hc : m < n)
    (hn : Lx P S kd ops rest K (ups ((d, .bool true) :: L) b) h) : Lx P S kd ops (⟨some d, .binOp .lss tx x y ty, t, p, af, g⟩ :: rest) K (ups L b) h :=
  lx_lssB true hw hx hy (decide_eq_true hc) hn
theorem lx_lssF {k : IntKind} {m n : Int} (hw : Region.wanted ⟨some d, .binOp .lss tx x y ty, t, p, af, g⟩ (yieldE ops (ups L b)) = true) (hx : ev (ups L b) x = .int k m) (hy : ev (ups L b) y = .int k n) (hc : ¬ (m < n))
    (hn : Lx P S kd ops rest K (ups ((d, .bool false) :: L) b) h) : Lx P S kd ops (⟨some d, .binOp .lss tx x y ty, t, p, af, g⟩ :: rest) K (ups L b) h :=
  lx_lssB false hw hx hy (decide_eq_false hc) hn
theorem lx_lssS {k : IntKind} {m n : Int} (hw : Region.wanted ⟨some d, .binOp .lss tx x y ty, t, p, af, g⟩ (yieldE ops (ups L b)) = true) (hx : ev (ups L b) x = .int k m) (hy : ev (ups L b) y = .int k n)
    (h1 : m < n → Lx P S kd ops rest K (ups ((d, .bool true) :: L) b) h) (h2 : ¬ (m < n) → Lx P S kd ops rest K (ups ((d, .bool false) :: L) b) h) : Lx P S kd ops (⟨some d, .binOp .lss tx x y ty, t, p, af, g⟩ :: rest) K (ups L b) h := by
  by_cases hc : m < n
  · exact lx_lssT hw hx hy hc (h1 hc)
  · exact lx_lssF hw hx hy hc (h2 hc)
theorem lx_leq {k : IntKind} {m n : Int} (hw : Region.wanted ⟨some d, .binOp .leq tx x y ty, t, p, af, g⟩ (yieldE ops (ups L b)) = true) (hx : ev (ups L b) x = .int k m) (hy : ev (ups L b) y = .int k n)
    (hn : Lx P S kd ops rest K (ups ((d, .bool (decide (m ≤ n))) :: L) b) h) : Lx P S kd ops (⟨some d, .binOp .leq tx x y ty, t, p, af, g⟩ :: rest) K (ups L b) h :=
  lx_free _ hw (fo_int hx hy fun w => by simp [binOp, Op.intCmp]) hn
theorem lx_leqB {k : IntKind} {m n : Int} (c : Bool) (hw : Region.wanted ⟨some d, .binOp .leq tx x y ty, t, p, af, g⟩ (yieldE ops (ups L b)) = true) (hx : ev (ups L b) x = .int k m) (hy : ev (ups L b) y = .int k n) (hc : decide (m ≤ n) = c)
    (hn : Lx P S kd ops rest K (ups ((d, .bool c) :: L) b) h) : Lx P S kd ops (⟨some d, .binOp .leq tx x y ty, t, p, af, g⟩ :: rest) K (ups L b) h := by
  subst hc
  exact lx_leq hw hx hy hn
theorem lx_leqF {k : IntKind} {m n : Int} (hw : Region.wanted ⟨some d, .binOp .leq tx x y ty, t, p, af, g⟩ (yieldE ops (ups L b)) = true) (hx : ev (ups L b) x = .int k m) (hy : ev (ups L b) y = .int k n) (hc : ¬ (m ≤ n))
    (hn : Lx P S kd ops rest K (ups ((d, .bool false) :: L) b) h) : Lx P S kd ops (⟨some d, .binOp .leq tx x y ty, t, p, af, g⟩ :: rest) K (ups L b) h :=
  lx_leqB false hw hx hy (decide_eq_false hc) hn
theorem lx_gtr {k : IntKind} {m n : Int} (hw : Region.wanted ⟨some d, .binOp .gtr tx x y ty, t, p, af, g⟩ (yieldE ops (ups L b)) = true) (hx : ev (ups L b) x = .int k m) (hy : ev (ups L b) y = .int k n)
    (hn : Lx P S kd ops rest K (ups ((d, .bool (decide (n < m))) :: L) b) h) : Lx P S kd ops (⟨some d, .binOp .gtr tx x y ty, t, p, af, g⟩ :: rest) K (ups L b) h :=
  lx_free _ hw (fo_int hx hy fun w => by simp [binOp, Op.intCmp]) hn
theorem lx_gtrB {k : IntKind} {m n : Int} (c : Bool) (hw : Region.wanted ⟨some d, .binOp .gtr tx x y ty, t, p, af, g⟩ (yieldE ops (ups L b)) = true) (hx : ev (ups L b) x = .int k m) (hy : ev (ups L b) y = .int k n) (hc : decide (n < m) = c)
    (hn : Lx P S kd ops rest K (ups ((d, .bool c) :: L) b) h) : Lx P S kd ops (⟨some d, .binOp .gtr tx x y ty, t, p, af, g⟩ :: rest) K (ups L b) h := by
  subst hc
  exact lx_gtr hw hx hy hn
theorem lx_gtrT {k : IntKind} {m n : Int} (hw : Region.wanted ⟨some d, .binOp .gtr tx x y ty, t, p, af, g⟩ (yieldE ops (ups L b)) = true) (hx : ev (ups L b) x = .int k m) (hy : ev (ups L b) y = .int k n) (hc : n < m)
    (hn : Lx P S kd ops rest K (ups ((d, .bool true) :: L) b) h) : Lx P S kd ops (⟨some d, .binOp .gtr tx x y ty, t, p, af, g⟩ :: rest) K (ups L b) h :=
  lx_gtrB true hw hx hy (decide_eq_true hc) hn
theorem lx_gtrF {k : IntKind} {m n : Int} (hw : Region.wanted ⟨some d, .binOp .gtr tx x y ty, t, p, af, g⟩ (yieldE ops (ups L b)) = true) (hx : ev (ups L b) x = .int k m) (hy : ev (ups L b) y = .int k n) (hc : ¬ (n < m))
    (hn : Lx P S kd ops rest K (ups ((d, .bool false) :: L) b) h) : Lx P S kd ops (⟨some d, .binOp .gtr tx x y ty, t, p, af, g⟩ :: rest) K (ups L b) h :=
  lx_gtrB false hw hx hy (decide_eq_false hc) hn
theorem lx_gtrS {k : IntKind} {m n : Int} (hw : Region.wanted ⟨some d, .binOp .gtr tx x y ty, t, p, af, g⟩ (yieldE ops (ups L b)) = true) (hx : ev (ups L b) x = .int k m) (hy : ev (ups L b) y = .int k n)
    (h1 : n < m → Lx P S kd ops rest K (ups ((d, .bool true) :: L) b) h) (h2 : ¬ (n < m) → Lx P S kd ops rest K (ups ((d, .bool false) :: L) b) h) : Lx P S kd ops (⟨some d, .binOp .gtr tx x y ty, t, p, af, g⟩ :: rest) K (ups L b) h := by
  by_cases hc : n < m
  · exact lx_gtrT hw hx hy hc (h1 hc)
  · exact lx_gtrF hw hx hy hc (h2 hc)
theorem lx_geq {k : IntKind} {m n : Int} (hw : Region.wanted ⟨some d, .binOp .geq tx x y ty, t, p, af, g⟩ (yieldE ops (ups L b)) = true) (hx : ev (ups L b) x = .int k m) (hy : ev (ups L b) y = .int k n)
    (hn : Lx P S kd ops rest K (ups ((d, .bool (decide (n ≤ m))) :: L) b) h) : Lx P S kd ops (⟨some d, .binOp .geq tx x y ty, t, p, af, g⟩ :: rest) K (ups L b) h :=
  lx_free _ hw (fo_int hx hy fun w => by simp [binOp, Op.intCmp]) hn
theorem lx_geqB {k : IntKind} {m n : Int} (c : Bool) (hw : Region.wanted ⟨some d, .binOp .geq tx x y ty, t, p, af, g⟩ (yieldE ops (ups L b)) = true) (hx : ev (ups L b) x = .int k m) (hy : ev (ups L b) y = .int k n) (hc : decide (n ≤ m) = c)
    (hn : Lx P S kd ops rest K (ups ((d, .bool c) :: L) b) h) : Lx P S kd ops (⟨some d, .binOp .geq tx x y ty, t, p, af, g⟩ :: rest) K (ups L b) h := by
  subst hc
  exact lx_geq hw hx hy hn
theorem lx_geqT {k : IntKind} {m n : Int} (hw : Region.wanted ⟨some d, .binOp .geq tx x y ty, t, p, af, g⟩ (yieldE ops (ups L b)) = true) (hx : ev (ups L b) x = .int k m) (hy : ev (ups L b) y = .int k n) (hc : n ≤ m)
    (hn : Lx P S kd ops rest K (ups ((d, .bool true) :: L) b) h) : Lx P S kd ops (⟨some d, .binOp .geq tx x y ty, t, p, af, g⟩ :: rest) K (ups L b) h :=
  lx_geqB true hw hx hy (decide_eq_true hc) hn
theorem lx_geqF {k : IntKind} {m n : Int} (hw : Region.wanted ⟨some d, .binOp .geq tx x y ty, t, p, af, g⟩ (yieldE ops (ups L b)) = true) (hx : ev (ups L b) x = .int k m) (hy : ev (ups L b) y = .int k n) (hc : ¬ (n ≤ m))
    (hn : Lx P S kd ops rest K (ups ((d, .bool false) :: L) b) h) : Lx P S kd ops (⟨some d, .binOp .geq tx x y ty, t, p, af, g⟩ :: rest) K (ups L b) h :=
  lx_geqB false hw hx hy (decide_eq_false hc) hn
theorem lx_geqS {k : IntKind} {m n : Int} (hw : Region.wanted ⟨some d, .binOp .geq tx x y ty, t, p, af, g⟩ (yieldE ops (ups L b)) = true) (hx : ev (ups L b) x = .int k m) (hy : ev (ups L b) y = .int k n)
    (h1 : n ≤ m → Lx P S kd ops rest K (ups ((d, .bool true) :: L) b) h) (h2 : ¬ (n ≤ m) → Lx P S kd ops rest K (ups ((d, .bool false) :: L) b) h) : Lx P S kd ops (⟨some d, .binOp .geq tx x y ty, t, p, af, g⟩ :: rest) K (ups L b) h := by
  by_cases hc : n ≤ m
  · exact lx_geqT hw hx hy hc (h1 hc)
  · exact lx_geqF hw hx hy hc (h2 hc)
theorem lx_eql {k : IntKind} {m n : Int} (hw : Region.wanted ⟨some d, .binOp .eql tx x y ty, t, p, af, g⟩ (yieldE ops (ups L b)) = true) (hx : ev (ups L b) x = .int k m) (hy : ev (ups L b) y = .int k n)
    (hn : Lx P S kd ops rest K (ups ((d, .bool (decide (m = n))) :: L) b) h) : Lx P S kd ops (⟨some d, .binOp .eql tx x y ty, t, p, af, g⟩ :: rest) K (ups L b) h :=
  lx_free _ hw (fo_int hx hy fun w => by
    have : (m == n) = decide (m = n) := by rw [Bool.eq_iff_iff]; simp
    simp [binOp, Op.intCmp, this]) hn
theorem lx_eqlB {k : IntKind} {m n : Int} (c : Bool) (hw : Region.wanted ⟨some d, .binOp .eql tx x y ty, t, p, af, g⟩ (yieldE ops (ups L b)) = true) (hx : ev (ups L b) x = .int k m) (hy : ev (ups L b) y = .int k n) (hc : decide (m = n) = c)
    (hn : Lx P S kd ops rest K (ups ((d, .bool c) :: L) b) h) : Lx P S kd ops (⟨some d, .binOp .eql tx x y ty, t, p, af, g⟩ :: rest) K (ups L b) h := by
  subst hc
  exact lx_eql hw hx hy hn
theorem lx_eqlT {k : IntKind} {m n : Int} (hw : Region.wanted ⟨some d, .binOp .eql tx x y ty, t, p, af, g⟩ (yieldE ops (ups L b)) = true) (hx : ev (ups L b) x = .int k m) (hy : ev (ups L b) y = .int k n) (hc : m = n)
    (hn : Lx P S kd ops rest K (ups ((d, .bool true) :: L) b) h) : Lx P S kd ops (⟨some d, .binOp .eql tx x y ty, t, p, af, g⟩ :: rest) K (ups L b) h :=
  lx_eqlB true hw hx hy (decide_eq_true hc) hn
theorem lx_eqlF {k : IntKind} {m n : Int} (hw : Region.wanted ⟨some d, .binOp .eql tx x y ty, t, p, af, g⟩ (yieldE ops (ups L b)) = true) (hx : ev (ups L b) x = .int k m) (hy : ev (ups L b) y = .int k n) (hc : ¬ (m = n))
    (hn : Lx P S kd ops rest K (ups ((d, .bool false) :: L) b) h) : Lx P S kd ops (⟨some d, .binOp .eql tx x y ty, t, p, af, g⟩ :: rest) K (ups L b) h :=
  lx_eqlB false hw hx hy (decide_eq_false hc) hn
theorem lx_eqlS {k : IntKind} {m n : Int} (hw : Region.wanted ⟨some d, .binOp .eql tx x y ty, t, p, af, g⟩ (yieldE ops (ups L b)) = true) (hx : ev (ups L b) x = .int k m) (hy : ev (ups L b) y = .int k n)
    (h1 : m = n → Lx P S kd ops rest K (ups ((d, .bool true) :: L) b) h) (h2 : ¬ (m = n) → Lx P S kd ops rest K (ups ((d, .bool false) :: L) b) h) : Lx P S kd ops (⟨some d, .binOp .eql tx x y ty, t, p, af, g⟩ :: rest) K (ups L b) h := by
  by_cases hc : m = n
  · exact lx_eqlT hw hx hy hc (h1 hc)
  · exact lx_eqlF hw hx hy hc (h2 hc)
theorem lx_neq {k : IntKind} {m n : Int} (hw : Region.wanted ⟨some d, .binOp .neq tx x y ty, t, p, af, g⟩ (yieldE ops (ups L b)) = true) (hx : ev (ups L b) x = .int k m) (hy : ev (ups L b) y = .int k n)
    (hn : Lx P S kd ops rest K (ups ((d, .bool (decide (m ≠ n))) :: L) b) h) : Lx P S kd ops (⟨some d, .binOp .neq tx x y ty, t, p, af, g⟩ :: rest) K (ups L b) h :=
  lx_free _ hw (fo_int hx hy fun w => by
    have : (m != n) = decide (m ≠ n) := by rw [Bool.eq_iff_iff]; simp
    simp [binOp, Op.intCmp, this]) hn
theorem lx_neqB {k : IntKind} {m n : Int} (c : Bool) (hw : Region.wanted ⟨some d, .binOp .neq tx x y ty, t, p, af, g⟩ (yieldE ops (ups L b)) = true) (hx : ev (ups L b) x = .int k m) (hy : ev (ups L b) y = .int k n) (hc : decide (m ≠ n) = c)
    (hn : Lx P S kd ops rest K (ups ((d, .bool c) :: L) b) h) : Lx P S kd ops (⟨some d, .binOp .neq tx x y ty, t, p, af, g⟩ :: rest) K (ups L b) h := by
  subst hc
  exact lx_neq hw hx hy hn
theorem lx_neqT {k : IntKind} {m n : Int} (hw : Region.wanted ⟨some d, .binOp .neq tx x y ty, t, p, af, g⟩ (yieldE ops (ups L b)) = true) (hx : ev (ups L b) x = .int k m) (hy : ev (ups L b) y = .int k n) (hc : m ≠ n)
    (hn : Lx P S kd ops rest K (ups ((d, .bool true) :: L) b) h) : Lx P S kd ops (⟨some d, .binOp .neq tx x y ty, t, p, af, g⟩ :: rest) K (ups L b) h :=
  lx_neqB true hw hx hy (decide_eq_true hc) hn
theorem lx_neqF {k : IntKind} {m n : Int} (hw : Region.wanted ⟨some d, .binOp .neq tx x y ty, t, p, af, g⟩ (yieldE ops (ups L b)) = true) (hx : ev (ups L b) x = .int k m) (hy : ev (ups L b) y = .int k n) (hc : ¬ (m ≠ n))
    (hn : Lx P S kd ops rest K (ups ((d, .bool false) :: L) b) h) : Lx P S kd ops (⟨some d, .binOp .neq tx x y ty, t, p, af, g⟩ :: rest) K (ups L b) h :=
  lx_neqB false hw hx hy (decide_eq_false hc) hn
theorem lx_neqS {k : IntKind} {m n : Int} (hw : Region.wanted ⟨some d, .binOp .neq tx x y ty, t, p, af, g⟩ (yieldE ops (ups L b)) = true) (hx : ev (ups L b) x = .int k m) (hy : ev (ups L b) y = .int k n)
    (h1 : m ≠ n → Lx P S kd ops rest K (ups ((d, .bool true) :: L) b) h) (h2 : ¬ (m ≠ n) → Lx P S kd ops rest K (ups ((d, .bool false) :: L) b) h) : Lx P S kd ops (⟨some d, .binOp .neq tx x y ty, t, p, af, g⟩ :: rest) K (ups L b) h := by
  by_cases hc : m ≠ n
  · exact lx_neqT hw hx hy hc (h1 hc)
  · exact lx_neqF hw hx hy hc (h2 hc)

/-! ### Bits of numbers that are not negative -/

theorem bv_nat (k : IntKind) (m : Nat) : BitVec.ofInt k.bits (m : Int) = BitVec.ofNat k.bits m := by simp

theorem back_and {k : IntKind} {m n : Nat} (hm : m < 2 ^ k.bits) (hn : n < 2 ^ k.bits) : ((BitVec.ofInt k.bits (m : Int) &&& BitVec.ofInt k.bits (n : Int)).toNat : Nat) = (m &&& n : Nat) := by
  simp [BitVec.toNat_and, Nat.mod_eq_of_lt hm, Nat.mod_eq_of_lt hn]
theorem back_or {k : IntKind} {m n : Nat} (hm : m < 2 ^ k.bits) (hn : n < 2 ^ k.bits) : ((BitVec.ofInt k.bits (m : Int) ||| BitVec.ofInt k.bits (n : Int)).toNat : Nat) = (m ||| n : Nat) := by
  simp [BitVec.toNat_or, Nat.mod_eq_of_lt hm, Nat.mod_eq_of_lt hn]
/-- 'm &^ n'. -/
def andNot (m n : Nat) : Nat := m ^^^ (m &&& n)
theorem testBit_andNot (m n i : Nat) : (andNot m n).testBit i = (m.testBit i && !n.testBit i) := by
  simp only [andNot, Nat.testBit_xor, Nat.testBit_and]
  cases m.testBit i <;> cases n.testBit i <;> rfl
theorem back_andNot {k : IntKind} {m n : Nat} (hm : m < 2 ^ k.bits) (_hn : n < 2 ^ k.bits) : ((BitVec.ofInt k.bits (m : Int) &&& ~~~ BitVec.ofInt k.bits (n : Int)).toNat : Nat) = andNot m n := by
  apply Nat.eq_of_testBit_eq
  intro i
  rw [testBit_andNot]
  simp only [BitVec.toNat_and, Nat.testBit_and, bv_nat, BitVec.testBit_toNat, BitVec.toNat_ofNat, Nat.mod_eq_of_lt hm]
  rw [BitVec.getLsbD_not, BitVec.getLsbD_ofNat]
  by_cases hi : i < k.bits
  · simp [hi]
  · have : m.testBit i = false := Nat.testBit_lt_two_pow (Nat.lt_of_lt_of_le hm (Nat.pow_le_pow_right (by omega) (by omega)))
    simp [this]

theorem lx_and {k : IntKind} {m n : Nat} (hw : Region.wanted ⟨some d, .binOp .and tx x y ty, t, p, af, g⟩ (yieldE ops (ups L b)) = true) (hx : ev (ups L b) x = .int k ((m : Nat) : Int)) (hy : ev (ups L b) y = .int k ((n : Nat) : Int)) (hm : m < 2 ^ k.bits) (hn' : n < 2 ^ k.bits) (hr : k.wrap (((m &&& n : Nat) : Nat) : Int) = (((m &&& n : Nat) : Nat) : Int))
    (hn : Lx P S kd ops rest K (ups ((d, .int k (((m &&& n : Nat) : Nat) : Int)) :: L) b) h) : Lx P S kd ops (⟨some d, .binOp .and tx x y ty, t, p, af, g⟩ :: rest) K (ups L b) h :=
  lx_free _ hw (fo_int hx hy fun w => by
    simp only [binOp, Op.intBits, ne_eq, not_true_eq_false, if_false, back_and hm hn', hr]
    simp) hn
theorem lx_or {k : IntKind} {m n : Nat} (hw : Region.wanted ⟨some d, .binOp .or tx x y ty, t, p, af, g⟩ (yieldE ops (ups L b)) = true) (hx : ev (ups L b) x = .int k ((m : Nat) : Int)) (hy : ev (ups L b) y = .int k ((n : Nat) : Int)) (hm : m < 2 ^ k.bits) (hn' : n < 2 ^ k.bits) (hr : k.wrap (((m ||| n : Nat) : Nat) : Int) = (((m ||| n : Nat) : Nat) : Int))
    (hn : Lx P S kd ops rest K (ups ((d, .int k (((m ||| n : Nat) : Nat) : Int)) :: L) b) h) : Lx P S kd ops (⟨some d, .binOp .or tx x y ty, t, p, af, g⟩ :: rest) K (ups L b) h :=
  lx_free _ hw (fo_int hx hy fun w => by
    simp only [binOp, Op.intBits, ne_eq, not_true_eq_false, if_false, back_or hm hn', hr]
    simp) hn
theorem lx_andNot {k : IntKind} {m n : Nat} (hw : Region.wanted ⟨some d, .binOp .andNot tx x y ty, t, p, af, g⟩ (yieldE ops (ups L b)) = true) (hx : ev (ups L b) x = .int k ((m : Nat) : Int)) (hy : ev (ups L b) y = .int k ((n : Nat) : Int)) (hm : m < 2 ^ k.bits) (hn' : n < 2 ^ k.bits) (hr : k.wrap ((andNot m n : Nat) : Int) = ((andNot m n : Nat) : Int))
    (hn : Lx P S kd ops rest K (ups ((d, .int k ((andNot m n : Nat) : Int)) :: L) b) h) : Lx P S kd ops (⟨some d, .binOp .andNot tx x y ty, t, p, af, g⟩ :: rest) K (ups L b) h :=
  lx_free _ hw (fo_int hx hy fun w => by
    simp only [binOp, Op.intBits, ne_eq, not_true_eq_false, if_false, back_andNot hm hn', hr]
    simp) hn
theorem lx_shl {k k' : IntKind} {m n : Nat} (hw : Region.wanted ⟨some d, .binOp .shl tx x y ty, t, p, af, g⟩ (yieldE ops (ups L b)) = true) (hx : ev (ups L b) x = .int k ((m : Nat) : Int)) (hy : ev (ups L b) y = .int k' ((n : Nat) : Int)) (hn' : n ≤ k.bits) (hr : k.wrap ((m * 2 ^ n : Nat) : Int) = ((m * 2 ^ n : Nat) : Int))
    (hn : Lx P S kd ops rest K (ups ((d, .int k ((m * 2 ^ n : Nat) : Int)) :: L) b) h) : Lx P S kd ops (⟨some d, .binOp .shl tx x y ty, t, p, af, g⟩ :: rest) K (ups L b) h :=
  lx_free _ hw (fo_int hx hy fun w => by
    have e1 : min n k.bits = n := Nat.min_eq_left hn'
    have e2 : ((m : Int) * 2 ^ n) = ((m * 2 ^ n : Nat) : Int) := by simp
    have e3 : ¬ ((n : Int) < 0) := by omega
    simp only [binOp, Op.shift, e3, if_false, Int.toNat_natCast, e1, e2, hr]
    simp) hn
theorem lx_shr {k k' : IntKind} {m n : Nat} (hw : Region.wanted ⟨some d, .binOp .shr tx x y ty, t, p, af, g⟩ (yieldE ops (ups L b)) = true) (hx : ev (ups L b) x = .int k ((m : Nat) : Int)) (hy : ev (ups L b) y = .int k' ((n : Nat) : Int)) (hn' : n ≤ k.bits)
    (hn : Lx P S kd ops rest K (ups ((d, .int k ((m / 2 ^ n : Nat) : Int)) :: L) b) h) : Lx P S kd ops (⟨some d, .binOp .shr tx x y ty, t, p, af, g⟩ :: rest) K (ups L b) h :=
  lx_free _ hw (fo_int hx hy fun w => by
    have e1 : min n k.bits = n := Nat.min_eq_left hn'
    have e2 : ((m : Int).fdiv (2 ^ n)) = ((m / 2 ^ n : Nat) : Int) := by rw [Int.fdiv_eq_ediv_of_nonneg _ (by exact Int.pow_nonneg (by omega))]; simp
    have e3 : ¬ ((n : Int) < 0) := by omega
    simp only [binOp, Op.shift, e3, if_false, Int.toNat_natCast, e1, e2]
    simp) hn

/-! ### Conversions and unary -/
theorem lx_conv {src dst : TypeId} {sd : TypeDesc} {k k' : IntKind} {m : Int} (r : Int) (hw : Region.wanted ⟨some d, .convert src dst x, t, p, af, g⟩ (yieldE ops (ups L b)) = true)
    (h1 : P.underlying src = some sd) (h2 : P.underlying dst = some (.int k')) (hx : ev (ups L b) x = .int k m) (hr : k'.wrap m = r)
    (hn : Lx P S kd ops rest K (ups ((d, .int k' r) :: L) b) h) : Lx P S kd ops (⟨some d, .convert src dst x, t, p, af, g⟩ :: rest) K (ups L b) h :=
  lx_free _ hw (fun w _ => by
    subst hr
    simp [execOp, hx, convert, run_underlying h1, run_underlying h2, Conv.intToInt]) hn
theorem lx_not {c : Bool} (hw : Region.wanted ⟨some d, .unOp .not tx x, t, p, af, g⟩ (yieldE ops (ups L b)) = true) (hx : ev (ups L b) x = .bool c)
    (hn : Lx P S kd ops rest K (ups ((d, .bool (!c)) :: L) b) h) : Lx P S kd ops (⟨some d, .unOp .not tx x, t, p, af, g⟩ :: rest) K (ups L b) h :=
  lx_free _ hw (fun w _ => by simp [execOp, hx, Op.unary]) hn
theorem lx_notB {c : Bool} (c' : Bool) (hw : Region.wanted ⟨some d, .unOp .not tx x, t, p, af, g⟩ (yieldE ops (ups L b)) = true) (hx : ev (ups L b) x = .bool c) (hc : (!c) = c')
    (hn : Lx P S kd ops rest K (ups ((d, .bool c') :: L) b) h) : Lx P S kd ops (⟨some d, .unOp .not tx x, t, p, af, g⟩ :: rest) K (ups L b) h := by
  subst hc; exact lx_not hw hx hn
theorem lx_neg {m : Int} (hw : Region.wanted ⟨some d, .unOp .neg tx x, t, p, af, g⟩ (yieldE ops (ups L b)) = true) (hx : ev (ups L b) x = .int .i64 m) (hlo : -9223372036854775808 < m) (hhi : m ≤ 9223372036854775807)
    (hn : Lx P S kd ops rest K (ups ((d, .int .i64 (-m)) :: L) b) h) : Lx P S kd ops (⟨some d, .unOp .neg tx x, t, p, af, g⟩ :: rest) K (ups L b) h :=
  lx_free _ hw (fun w _ => by
    have e : IntKind.i64.wrap (-m) = -m := wrap_i64 (by omega) (by omega)
    simp [execOp, hx, Op.unary, Op.intArith, e]) hn
/-! ### The greatest and the least of two -/
theorem lx_max {m n : Int} {ts : Array TypeId} (r : Int) (hw : Region.wanted ⟨some d, .call ⟨.builtin .max, #[x, y], ts⟩, t, p, af, g⟩ (yieldE ops (ups L b)) = true) (hx : ev (ups L b) x = .int .i64 m) (hy : ev (ups L b) y = .int .i64 n) (hr : max m n = r)
    (hn : Lx P S kd ops rest K (ups ((d, .int .i64 r) :: L) b) h) : Lx P S kd ops (⟨some d, .call ⟨.builtin .max, #[x, y], ts⟩, t, p, af, g⟩ :: rest) K (ups L b) h :=
  lx_free _ hw (fun w _ => by
    subst hr
    have e : (max m n : Int) = if m < n then n else m := by omega
    rw [e]
    simp only [execOp, resolve, invoke, builtin, Sem.run_bind, Sem.run_pure, Result.andThen_ok, List.map_toArray, List.map_cons, List.map_nil, hx, hy]
    simp [Builtin.max_, Builtin.max2]) hn
theorem lx_min {m n : Int} {ts : Array TypeId} (r : Int) (hw : Region.wanted ⟨some d, .call ⟨.builtin .min, #[x, y], ts⟩, t, p, af, g⟩ (yieldE ops (ups L b)) = true) (hx : ev (ups L b) x = .int .i64 m) (hy : ev (ups L b) y = .int .i64 n) (hr : min m n = r)
    (hn : Lx P S kd ops rest K (ups ((d, .int .i64 r) :: L) b) h) : Lx P S kd ops (⟨some d, .call ⟨.builtin .min, #[x, y], ts⟩, t, p, af, g⟩ :: rest) K (ups L b) h :=
  lx_free _ hw (fun w _ => by
    subst hr
    have e : (min m n : Int) = if n < m then n else m := by omega
    rw [e]
    simp only [execOp, resolve, invoke, builtin, Sem.run_bind, Sem.run_pure, Result.andThen_ok, List.map_toArray, List.map_cons, List.map_nil, hx, hy]
    simp [Builtin.min_, Builtin.min2]) hn

end
end Go.X
namespace Go.X

def cellA (h : Heap) (a : Addr) : Option Value :=
  match h[a.block]? with
  | some (.cells c _ _) => if a.spot.isSome then none else c[a.off]?
  | _ => none

theorem cell_eq (w : World) (a : Addr) : w.cell? a = cellA w.heap a := rfl

theorem add_add (a : Addr) (i j : Nat) : (a.add i).add j = a.add (i + j) := by
  unfold Addr.add
  by_cases hi : i = 0
  · subst hi; simp
  · by_cases hj : j = 0
    · subst hj; simp [hi]
    · simp [hi, hj, Nat.add_assoc]
theorem add_zero (a : Addr) : a.add 0 = a := by simp [Addr.add]
theorem add_block (a : Addr) (i : Nat) : (a.add i).block = a.block := by unfold Addr.add; split <;> rfl
theorem add_lit (g o j : Nat) : (⟨g, o, none⟩ : Addr).add j = ⟨g, o + j, none⟩ := by unfold Addr.add; split <;> simp_all

theorem lt_of_cellA {h : Heap} {a : Addr} {v : Value} (hc : cellA h a = some v) : a.block < h.size := by
  unfold cellA at hc
  rcases Nat.lt_or_ge a.block h.size with h1 | h1
  · exact h1
  · rw [Array.getElem?_eq_none h1] at hc; cases hc

/-- Below block 'B' nothing has turned. -/
structure Ext (B : Nat) (h h' : Heap) : Prop where
  size : h.size ≤ h'.size
  block : ∀ k, k < B → h'[k]? = h[k]?

theorem Ext.refl (B : Nat) (h : Heap) : Ext B h h := ⟨Nat.le_refl _, fun _ _ => rfl⟩
theorem Ext.trans {B : Nat} {a b c : Heap} (h : Ext B a b) (k : Ext B b c) : Ext B a c := ⟨Nat.le_trans h.size k.size, fun i hi => (k.block i hi).trans (h.block i hi)⟩
theorem Ext.mono {B B' : Nat} {a b : Heap} (h : Ext B a b) (hB : B' ≤ B) : Ext B' a b := ⟨h.size, fun i hi => h.block i (Nat.lt_of_lt_of_le hi hB)⟩
theorem Ext.cell {B : Nat} {h h' : Heap} (hx : Ext B h h') {a : Addr} (ha : a.block < B) : cellA h' a = cellA h a := by unfold cellA; rw [hx.block _ ha]
/-- Two steps: what the first made, the second left. -/
theorem Ext.trans2 {B : Nat} {a b c : Heap} (h : Ext B a b) (k : Ext b.size b c) (hB : B ≤ b.size) : Ext B a c := h.trans (k.mono hB)

theorem ext_push (h : Heap) (o : Obj) : Ext h.size h (h.push o) := ⟨by simp, fun k hk => by rw [Array.getElem?_push, if_neg (by omega)]⟩

/-- All but the block of the slice 'v' is as it was. -/
structure Chg (v : Value) (h h' : Heap) : Prop where
  size : h.size ≤ h'.size
  block : ∀ k, k < h.size → some k ≠ v.ownBlock → h'[k]? = h[k]?

theorem Chg.refl (v : Value) (h : Heap) : Chg v h h := ⟨Nat.le_refl _, fun _ _ _ => rfl⟩
theorem Chg.of_ext {v : Value} {h h' : Heap} (hx : Ext h.size h h') : Chg v h h' := ⟨hx.size, fun k hk _ => hx.block k hk⟩
theorem Chg.cell {v : Value} {h h' : Heap} (hx : Chg v h h') {a : Addr} {u : Value} (hc : cellA h a = some u) (ha : some a.block ≠ v.ownBlock) : cellA h' a = some u := by
  have := hx.block _ (lt_of_cellA hc) ha
  unfold cellA at *
  rw [this]; exact hc

/-- The cells of a slice: it is a slice of 'n' elements, at whose address 'cs' lie. -/
def Rd (h : Heap) (v : Value) (n : Nat) (cs : List Value) : Prop :=
  ∃ a cap, v = .slice a n cap ∧ n ≤ cap ∧ (a = none → n = 0) ∧ ∀ (j : Nat) (u : Value), cs[j]? = some u → ∃ ad, a = some ad ∧ cellA h (ad.add j) = some u

theorem Rd.ext {h h' : Heap} {v : Value} {n : Nat} {cs : List Value} (hr : Rd h v n cs) {B : Nat} (hx : Ext B h h') (hB : h.size ≤ B) : Rd h' v n cs := by
  obtain ⟨a, cap, hv, h1, h2, h3⟩ := hr
  refine ⟨a, cap, hv, h1, h2, fun j u hj => ?_⟩
  obtain ⟨ad, ha, hc⟩ := h3 j u hj
  exact ⟨ad, ha, (hx.cell (Nat.lt_of_lt_of_le (lt_of_cellA hc) hB)).trans hc⟩
theorem Rd.extS {h h' : Heap} {v : Value} {n : Nat} {cs : List Value} (hr : Rd h v n cs) (hx : Ext h.size h h') : Rd h' v n cs := hr.ext hx (Nat.le_refl _)
theorem Rd.chg {h h' : Heap} {v w : Value} {n : Nat} {cs : List Value} (hr : Rd h v n cs) (hx : Chg w h h') (hd : ∀ g, v.ownBlock = some g → w.ownBlock ≠ some g) : Rd h' v n cs := by
  obtain ⟨a, cap, rfl, h1, h2, h3⟩ := hr
  refine ⟨a, cap, rfl, h1, h2, fun j u hj => ?_⟩
  obtain ⟨ad, rfl, hc⟩ := h3 j u hj
  exact ⟨ad, rfl, hx.cell hc (by rw [add_block]; exact fun e => hd _ rfl e.symm)⟩

theorem rd_nil (h : Heap) : Rd h (.slice none 0 0) 0 [] := ⟨none, 0, rfl, Nat.le_refl _, fun _ => rfl, fun j u hj => by simp at hj⟩

/-- A slice of our own: nothing, or at the head of a row from block 'B' on that may be written. -/
def Own (h : Heap) (B : Nat) (e : TypeId) (k : Nat) (v : Value) (n : Nat) (cs : List Value) : Prop :=
  cs.length = n * k ∧
  ((v = .slice none 0 0 ∧ n = 0) ∨
   ∃ g cap cur, v = .slice (some ⟨g, 0, none⟩) n cap ∧ B ≤ g ∧ h[g]? = some (.cells cur e (0, 0)) ∧ n ≤ cap ∧ cap ≤ maxLen ∧ cur.size = cap * k ∧ cur.toList.take (n * k) = cs)

theorem own_nil (h : Heap) (B : Nat) (e : TypeId) (k : Nat) : Own h B e k (.slice none 0 0) 0 [] := ⟨by simp, .inl ⟨rfl, rfl⟩⟩

theorem Own.rd {h : Heap} {B : Nat} {e : TypeId} {k : Nat} {v : Value} {n : Nat} {cs : List Value} (ho : Own h B e k v n cs) : Rd h v n cs := by
  obtain ⟨hl, h1⟩ := ho
  rcases h1 with ⟨rfl, rfl⟩ | ⟨g, cap, cur, rfl, hB, hg, hn, hm, hs, ht⟩
  · have : cs = [] := List.eq_nil_of_length_eq_zero (by simpa using hl)
    subst this
    exact rd_nil h
  · refine ⟨_, _, rfl, hn, fun h0 => (by cases h0), fun j u hj => ⟨_, rfl, ?_⟩⟩
    rw [add_lit, ← ht] at *
    unfold cellA
    rw [List.getElem?_take] at hj
    split at hj
    · simpa [hg] using hj
    · cases hj

theorem Own.lt {h : Heap} {B : Nat} {e : TypeId} {k : Nat} {v : Value} {n : Nat} {cs : List Value} (ho : Own h B e k v n cs) {g : Nat} (hg : v.ownBlock = some g) : B ≤ g ∧ g < h.size := by
  rcases ho.2 with ⟨rfl, rfl⟩ | ⟨g', cap, cur, rfl, hB, hh, _⟩
  · cases hg
  · simp only [Value.ownBlock, Option.some.injEq] at hg
    subst hg
    exact ⟨hB, (Array.getElem?_eq_some_iff.1 hh).1⟩

theorem Own.keep {h h' : Heap} {B : Nat} {e : TypeId} {k : Nat} {v : Value} {n : Nat} {cs : List Value} (ho : Own h B e k v n cs) (hk : ∀ g, v.ownBlock = some g → h'[g]? = h[g]?) : Own h' B e k v n cs := by
  refine ⟨ho.1, ?_⟩
  rcases ho.2 with h1 | ⟨g, cap, cur, rfl, hB, hh, r⟩
  · exact .inl h1
  · exact .inr ⟨g, cap, cur, rfl, hB, (hk g rfl).trans hh, r⟩
theorem Own.extS {h h' : Heap} {B : Nat} {e : TypeId} {k : Nat} {v : Value} {n : Nat} {cs : List Value} (ho : Own h B e k v n cs) (hx : Ext h.size h h') : Own h' B e k v n cs :=
  ho.keep fun g hg => hx.block g (ho.lt hg).2
theorem Own.chg {h h' : Heap} {B : Nat} {e : TypeId} {k : Nat} {v w : Value} {n : Nat} {cs : List Value} (ho : Own h B e k v n cs) (hx : Chg w h h') (hd : ∀ g, v.ownBlock = some g → w.ownBlock ≠ some g) : Own h' B e k v n cs :=
  ho.keep fun g hg => hx.block g (ho.lt hg).2 (fun e' => hd g hg e'.symm)
theorem Own.base {h : Heap} {B B' : Nat} {e : TypeId} {k : Nat} {v : Value} {n : Nat} {cs : List Value} (ho : Own h B e k v n cs) (hB : B' ≤ B) : Own h B' e k v n cs := by
  refine ⟨ho.1, ?_⟩
  rcases ho.2 with h1 | ⟨g, cap, cur, rfl, hb, r⟩
  · exact .inl h1
  · exact .inr ⟨g, cap, cur, rfl, Nat.le_trans hB hb, r⟩
theorem Chg.ext {h h' : Heap} {B : Nat} {e : TypeId} {k : Nat} {v : Value} {n : Nat} {cs : List Value} (hx : Chg v h h') (ho : Own h B e k v n cs) (hB : B ≤ h.size) : Ext B h h' :=
  ⟨hx.size, fun i hi => hx.block i (Nat.lt_of_lt_of_le hi hB) (fun e' => by have := (ho.lt e'.symm).1; omega)⟩
/-- A block of a variable. -/
def Blk (h : Heap) (b : Nat) (cs : Array Value) (t : TypeId) : Prop := h[b]? = some (.cells cs t (0, 0))
theorem Blk.lt {h : Heap} {b : Nat} {cs : Array Value} {t : TypeId} (hb : Blk h b cs t) : b < h.size := (Array.getElem?_eq_some_iff.1 hb).1
theorem Blk.ext {h h' : Heap} {b : Nat} {cs : Array Value} {t : TypeId} (hb : Blk h b cs t) {B : Nat} (hx : Ext B h h') (hB : b < B) : Blk h' b cs t := (hx.block b hB).trans hb
theorem Blk.extS {h h' : Heap} {b : Nat} {cs : Array Value} {t : TypeId} (hb : Blk h b cs t) (hx : Ext h.size h h') : Blk h' b cs t := (hx.block b hb.lt).trans hb
theorem Blk.chg {h h' : Heap} {b : Nat} {cs : Array Value} {t : TypeId} {v : Value} (hb : Blk h b cs t) (hx : Chg v h h') (hd : v.ownBlock ≠ some b) : Blk h' b cs t := (hx.block b hb.lt (fun e => hd e.symm)).trans hb
theorem Blk.cell {h : Heap} {b : Nat} {cs : Array Value} {t : TypeId} (hb : Blk h b cs t) (o : Nat) : cellA h ⟨b, o, none⟩ = cs[o]? := by unfold cellA; rw [show h[b]? = _ from hb]; rfl

/-! ### Elements -/

/-- How an element of a Lean list lies in cells. -/
structure Enc (α : Type) where
  k : Nat
  f : α → List Value
  len : ∀ x, (f x).length = k
  one : ∀ x, ∀ u ∈ f x, u.oneCell' = true
  pos : 0 < k

def encI : Enc Int := ⟨1, fun x => [.int .i64 x], fun _ => rfl, fun _ _ hu => by simp at hu; subst hu; rfl, Nat.one_pos⟩
def encB : Enc Bool := ⟨1, fun x => [.bool x], fun _ => rfl, fun _ _ hu => by simp at hu; subst hu; rfl, Nat.one_pos⟩
def encP : Enc (Int × Int) := ⟨2, fun x => [.int .i64 x.1, .int .i64 x.2], fun _ => rfl, fun _ _ hu => by simp at hu; rcases hu with rfl | rfl <;> rfl, by decide⟩

def gt {α : Type} [Inhabited α] (xs : List α) (i : Nat) : α := xs.getD i default
theorem gt_eq {α : Type} [Inhabited α] {xs : List α} {i : Nat} (hi : i < xs.length) : gt xs i = xs[i] := by simp [gt, hi]
theorem gt_some {α : Type} [Inhabited α] {xs : List α} {i : Nat} (hi : i < xs.length) : xs[i]? = some (gt xs i) := by simp [gt, hi]

/-- A slice that reads as a list. -/
def RdE {α : Type} (E : Enc α) (h : Heap) (v : Value) (xs : List α) : Prop := Rd h v xs.length (xs.flatMap E.f)
/-- A slice of our own that reads as a list. -/
def OwE {α : Type} (E : Enc α) (h : Heap) (B : Nat) (e : TypeId) (v : Value) (xs : List α) : Prop := Own h B e E.k v xs.length (xs.flatMap E.f)

section
variable {α : Type} {E : Enc α} {h h' : Heap} {v w : Value} {xs : List α} {B B' : Nat} {e : TypeId}
theorem RdE.ext (hr : RdE E h v xs) (hx : Ext B h h') (hB : h.size ≤ B) : RdE E h' v xs := Rd.ext hr hx hB
theorem RdE.extS (hr : RdE E h v xs) (hx : Ext h.size h h') : RdE E h' v xs := Rd.extS hr hx
theorem OwE.rd (ho : OwE E h B e v xs) : RdE E h v xs := Own.rd ho
theorem OwE.extS (ho : OwE E h B e v xs) (hx : Ext h.size h h') : OwE E h' B e v xs := Own.extS ho hx
theorem OwE.chg (ho : OwE E h B e v xs) (hx : Chg w h h') (hd : ∀ g, v.ownBlock = some g → w.ownBlock ≠ some g) : OwE E h' B e v xs := Own.chg ho hx hd
theorem OwE.base (ho : OwE E h B e v xs) (hB : B' ≤ B) : OwE E h B' e v xs := Own.base ho hB
theorem OwE.ext (ho : OwE E h B e v xs) (hx : Chg v h h') (hB : B ≤ h.size) : Ext B h h' := Chg.ext hx ho hB
theorem OwE.lt (ho : OwE E h B e v xs) {g : Nat} (hg : v.ownBlock = some g) : B ≤ g ∧ g < h.size := Own.lt ho hg
theorem owE_nil (E : Enc α) (h : Heap) (B : Nat) (e : TypeId) : OwE E h B e (.slice none 0 0) [] := own_nil h B e E.k

theorem flat_length (E : Enc α) (xs : List α) : (xs.flatMap E.f).length = xs.length * E.k := by
  induction xs with
  | nil => simp
  | cons x xs ih => simp [List.flatMap_cons, ih, E.len, Nat.add_mul, Nat.add_comm]

theorem flat_get [Inhabited α] (E : Enc α) : ∀ (xs : List α) (i j : Nat), i < xs.length → j < E.k → (xs.flatMap E.f)[i * E.k + j]? = (E.f (gt xs i))[j]?
  | [], i, j, hi, _ => absurd hi (by simp)
  | x :: xs, 0, j, _, hj => by
    have hl := E.len x
    simp only [List.flatMap_cons, Nat.zero_mul, Nat.zero_add]
    rw [List.getElem?_append_left (by omega)]
    rfl
  | x :: xs, i + 1, j, hi, hj => by
    have hl := E.len x
    simp only [List.flatMap_cons]
    rw [List.getElem?_append_right (by rw [hl, Nat.add_mul]; omega), hl]
    have : (i + 1) * E.k + j - E.k = i * E.k + j := by rw [Nat.add_mul]; omega
    rw [this, flat_get E xs i j (by simpa using hi) hj]
    rfl

theorem flat_set [Inhabited α] (E : Enc α) : ∀ (xs : List α) (i : Nat) (x : α), i < xs.length → (xs.set i x).flatMap E.f = (xs.flatMap E.f).take (i * E.k) ++ E.f x ++ (xs.flatMap E.f).drop (i * E.k + E.k)
  | [], i, x, hi => absurd hi (by simp)
  | y :: xs, 0, x, _ => by
    have hl := E.len y
    simp only [List.set_cons_zero, List.flatMap_cons, Nat.zero_mul, List.take_zero, List.nil_append, Nat.zero_add]
    rw [List.drop_append_of_le_length (by omega), List.drop_of_length_le (by omega)]
    rfl
  | y :: xs, i + 1, x, hi => by
    have hl := E.len y
    simp only [List.set_cons_succ, List.flatMap_cons]
    rw [flat_set E xs i x (by simpa using hi)]
    have e1 : (i + 1) * E.k = (E.f y).length + i * E.k := by rw [hl, Nat.add_mul]; omega
    rw [e1, List.take_length_add_append, Nat.add_assoc, List.drop_length_add_append]
    simp [List.append_assoc]
end

/-- The pointer to cell 'j' of a slice. -/
def ptrAt (v : Value) (j : Nat) : Value := match v with | .slice (some a) _ _ => .pointer (some (a.add j)) | _ => undef

/-- What the program's tables say of a slice type and its element type. -/
structure ElemT (P : Program) (ts el : TypeId) (k bytes : Nat) : Prop where
  und : P.underlying ts = some (.slice el)
  info : ∃ i z, P.info? el = some i ∧ i.zero = some z ∧ i.size = k ∧ i.bytes = bytes ∧ z.cells.size = k

theorem elemT {P : Program} {ts el : TypeId} {k bytes : Nat} {z : Value} (hu : P.underlying ts = some (.slice el))
    (hi : (P.info? el).map (fun i => (i.zero, i.size, i.bytes)) = some (some z, k, bytes)) (hz : z.cells.size = k) : ElemT P ts el k bytes := by
  obtain ⟨i, h1, h2, h3, h4⟩ := info_parts hi
  exact ⟨hu, i, z, h1, h2, h3, h4, hz⟩

theorem ElemT.size {P : Program} {ts el : TypeId} {k bytes : Nat} (hT : ElemT P ts el k bytes) (w : World) : (sizeOf el).run P w = .ok k w := by
  obtain ⟨_, i, z, h1, _, h3, _⟩ := hT
  simp [sizeOf, typeInfo, h1, h3]

end Go.X
namespace Go.X
open Go.ChangeShapes Go.WideShapes Go.RowKit

theorem rdE_mk {α : Type} [Inhabited α] {E : Enc α} {W : World} {a : Addr} {len cap : Nat} {xs : List α} (hl : len ≤ cap) (hx : xs.length = len)
    (hc : ∀ i, i < len → ∀ j, j < E.k → ∀ u, (E.f (gt xs i))[j]? = some u → W.cell? (a.add (i * E.k + j)) = some u) : RdE E W.heap (.slice (some a) len cap) xs := by
  subst hx
  refine ⟨some a, cap, rfl, hl, (fun h => by cases h), fun j u hj => ⟨a, rfl, ?_⟩⟩
  have hj' := (List.getElem?_eq_some_iff.1 hj).1
  rw [flat_length] at hj'
  have hk := E.pos
  have hd := Nat.div_add_mod j E.k
  have hm := Nat.mod_lt j hk
  have hi : j / E.k < xs.length := Nat.div_lt_of_lt_mul (by rw [Nat.mul_comm]; exact hj')
  rw [← hd, Nat.mul_comm] at hj ⊢
  rw [flat_get E xs _ _ hi hm] at hj
  exact hc _ hi _ hm u hj

section
variable {H : Type} {enc : TypeId × Value → H} {P : Program} {W : World}
theorem lift_ints {t e : TypeId} {v : Value} {d : DataW H} {ps : List MemPlace} (ht : P.underlying t = some (.slice e)) (he : P.underlying e = some (.int .i64)) (hc : P.cellsOf e = 1)
    (hv : Value.okWide P W .any 0 t v) (h : DataW.Trod enc P W 0 (fun _ => true) true t v d ps) :
    ∃ xs : List Int, RdE encI W.heap v xs ∧ xs.length ≤ 9223372036854775807 ∧ ∀ i, i < xs.length → -9223372036854775808 ≤ gt xs i ∧ gt xs i ≤ 9223372036854775807 := by
  obtain ⟨a0, len0, cap0, rfl⟩ := okWide_slice ht hv
  obtain ⟨fuel, hf⟩ := h
  rcases open_ints ht he hc hf with ⟨hcs, _⟩ | ⟨x, l, c, zs, hcs, _, hl, hm, hz, _, hcell, hwz⟩
  · simp [Value.cells] at hcs
    obtain ⟨rfl, rfl, rfl⟩ := hcs
    exact ⟨[], rd_nil _, by simp, fun i hi => absurd hi (by simp)⟩
  · simp [Value.cells] at hcs
    obtain ⟨rfl, rfl, rfl⟩ := hcs
    simp only [if_true] at hz
    have hlz : (zs.take len0).length = len0 := by simp; omega
    have hg : ∀ i, i < len0 → gt (zs.take len0) i = zs.getD i 0 := fun i hi => by
      unfold gt
      simp [List.getD, List.getElem?_take, hi]
    refine ⟨zs.take len0, rdE_mk hl hlz fun i hi j hj u hu => ?_, ?_, fun i hi => ?_⟩
    · have : j = 0 := by simp only [encI] at hj; omega
      subst this
      rw [hg i hi] at hu
      simp [encI] at hu
      subst hu
      have := hcell i (by omega)
      simpa [encI] using this
    · rw [hlz]; unfold maxLen at hm; omega
    · rw [hlz] at hi
      rw [hg i hi]
      refine bounds_i64 (hwz _ ?_)
      have : i < zs.length := by omega
      rw [List.getD, List.getElem?_eq_getElem this]
      exact List.getElem_mem this
theorem lift_pairs {t e q : TypeId} {v : Value} {d : DataW H} {ps : List MemPlace} (ht : P.underlying t = some (.slice e)) (he : P.underlying e = some (.array 2 q)) (hq : P.underlying q = some (.int .i64)) (hc : P.cellsOf e = 2) (hc1 : P.cellsOf q = 1)
    (hv : Value.okWide P W .any 0 t v) (h : DataW.Trod enc P W 0 (fun _ => true) true t v d ps) :
    ∃ xs : List (Int × Int), RdE encP W.heap v xs ∧ xs.length ≤ 9223372036854775807 ∧ ∀ i, i < xs.length → (-9223372036854775808 ≤ (gt xs i).1 ∧ (gt xs i).1 ≤ 9223372036854775807) ∧ (-9223372036854775808 ≤ (gt xs i).2 ∧ (gt xs i).2 ≤ 9223372036854775807) := by
  obtain ⟨a0, len0, cap0, rfl⟩ := okWide_slice ht hv
  obtain ⟨fuel, hf⟩ := h
  rcases Deep.open_slice ht hf with ⟨hcs, _⟩ | ⟨a, len, cap, m, n, D, Pl, hcs, hb, hl, hm, hmm, _, hx⟩
  · simp [Value.cells] at hcs
    obtain ⟨rfl, rfl, rfl⟩ := hcs
    exact ⟨[], rd_nil _, by simp, fun i hi => absurd hi (by simp)⟩
  · simp [Value.cells] at hcs
    obtain ⟨rfl, rfl, rfl⟩ := hcs
    simp only [if_true] at hmm
    subst hmm
    have each : ∀ i, i < len0 → ∃ p : Int × Int, W.cell? (a.add (i * 2)) = some (.int .i64 p.1) ∧ W.cell? (a.add (i * 2 + 1)) = some (.int .i64 p.2) ∧ (Lit.int .i64 p.1).wf = true ∧ (Lit.int .i64 p.2).wf = true := by
      intro i hi
      obtain ⟨cs', h1, h2⟩ := hx i (by omega)
      rw [hc] at h1
      obtain ⟨_, hlen, hcell⟩ := World.cells?_some h1
      obtain ⟨xs, k, _, _, _, hxl, hf⟩ := DataW.trod_array he h2
      match xs, hxl, cs', hlen with
      | [y0, y1], _, [v0, v1], _ =>
        have g0 := hf 0 (by omega)
        have g1 := hf 1 (by omega)
        simp [hc1] at g0 g1
        obtain ⟨p0, e5, _, w0⟩ := DataW.trod_int hq g0
        obtain ⟨p1, e6, _, w1⟩ := DataW.trod_int hq g1
        obtain rfl : v0 = .int .i64 p0 := by simpa using e5
        obtain rfl : v1 = .int .i64 p1 := by simpa using e6
        have e0 := hcell 0 (by omega)
        have e1 := hcell 1 (by omega)
        rw [add_add] at e0 e1
        exact ⟨(_, _), by simpa using e0, by simpa using e1, w0, w1⟩
    obtain ⟨p, hp⟩ := Deep.choose_lt each
    have hlz : ((List.range len0).map p).length = len0 := by simp
    have hg : ∀ i, i < len0 → gt ((List.range len0).map p) i = p i := fun i hi => by
      rw [gt_eq (by simpa using hi)]; simp
    refine ⟨(List.range len0).map p, rdE_mk hl hlz fun i hi j hj u hu => ?_, ?_, fun i hi => ?_⟩
    · rw [hg i hi] at hu
      obtain ⟨h1, h2, _⟩ := hp i hi
      have : j = 0 ∨ j = 1 := by simp only [encP] at hj; omega
      rcases this with rfl | rfl
      · simp [encP] at hu; subst hu; simpa [encP] using h1
      · simp [encP] at hu; subst hu; simpa [encP] using h2
    · rw [hlz]; unfold maxLen at hm; omega
    · rw [hlz] at hi
      rw [hg i hi]
      obtain ⟨_, _, h3, h4⟩ := hp i hi
      exact ⟨bounds_i64 h3, bounds_i64 h4⟩
end

/-- What a law's walk gives: true, and below the old heap nothing has turned. -/
theorem lift_walk {P : Program} {f : Nat} {args : List Value} {W : World} (h : Fx P f args W.heap (fun v h' => v = .bool true ∧ Ext W.heap.size W.heap h')) :
    Calls P f args.toArray W fun e w' => e = .returned (.bool true) ∧ Below W.heap.size W w' :=
  (h W rfl).mono fun e w' ⟨v, he, hq, hv, hx⟩ => by
    subst hv
    exact ⟨he, ⟨hq.os, hq.tape, hq.output, hx.size, hx.block⟩⟩
end Go.X
namespace Go.X

section
variable {P : Program} {S : Heap → Prop} {kd : Oper → Kd} {ops : Array Oper} {rest : List Oper} {K : Env → Heap → Prop} {L : List (Nat × Value)} {b : Env} {h : Heap}
variable {d : Nat} {t tx ty : TypeId} {p : String} {af : Array Edge} {g : Option (Nat × Bool)} {x y z : Operand}
variable {α : Type} {E : Enc α} {v : Value} {xs : List α} {B : Nat} {ts el : TypeId} {bytes : Nat}

theorem lx_read {op : Op} (u : Value) (hw : Region.wanted ⟨some d, op, t, p, af, g⟩ (yieldE ops (ups L b)) = true) (hk : kd ⟨some d, op, t, p, af, g⟩ = .read ∨ kd ⟨some d, op, t, p, af, g⟩ = .eff) (hv : ReadOb P S ⟨some d, op, t, p, af, g⟩ (ups L b) h u)
    (hn : Lx P S kd ops rest K (ups ((d, u) :: L) b) h) : Lx P S kd ops (⟨some d, op, t, p, af, g⟩ :: rest) K (ups L b) h := by
  unfold Lx
  rw [if_pos hw]
  exact ob_of_read hk u hv hn

theorem lx_eff {o : Oper} (hw : Region.wanted o (yieldE ops (ups L b)) = true) (hk : kd o = .eff)
    (hv : S h → EffOb P S o (ups L b) h (fun v h' => Lx P S kd ops rest K (putE (ups L b) o.dst v) h')) : Lx P S kd ops (o :: rest) K (ups L b) h := by
  unfold Lx
  rw [if_pos hw, hk]
  exact hv

theorem lx_new {o : Oper} (hw : Region.wanted o (yieldE ops (ups L b)) = true) (hk : kd o = .new)
    (hv : S h → NewOb P S o (ups L b) h (fun v h' => Lx P S kd ops rest K (putE (ups L b) o.dst v) h')) : Lx P S kd ops (o :: rest) K (ups L b) h := by
  unfold Lx
  rw [if_pos hw, hk]
  exact hv
theorem Ext.grow {h h' : Heap} (hx : Ext h.size h h') : Grow h h' := ⟨hx.size, hx.block⟩
theorem Grow.ext {h h' : Heap} (hx : Grow h h') : Ext h.size h h' := ⟨hx.1, hx.2⟩

theorem rd_shape {hh : Heap} {n : Nat} {cs : List Value} (hr : Rd hh v n cs) : ∃ a cap, v = .slice a n cap := by
  obtain ⟨a, cap, hv, _⟩ := hr; exact ⟨a, cap, hv⟩
theorem rd_some {hh : Heap} {n : Nat} {cs : List Value} (hr : Rd hh v n cs) (hn : 0 < n) : ∃ a cap, v = .slice (some a) n cap := by
  obtain ⟨a, cap, hv, _, h2, _⟩ := hr
  cases a with
  | none => have := h2 rfl; omega
  | some a => exact ⟨a, cap, hv⟩

/-- 'len' of a slice. -/
theorem lx_len {hh : Heap} (hw : Region.wanted ⟨some d, .call ⟨.builtin .len, #[x], #[ts]⟩, t, p, af, g⟩ (yieldE ops (ups L b)) = true) (hu : P.underlying ts = some (.slice el)) (hr : RdE E hh v xs) (hx : ev (ups L b) x = v)
    (hn : Lx P S kd ops rest K (ups ((d, .int .i64 (xs.length : Int)) :: L) b) h) : Lx P S kd ops (⟨some d, .call ⟨.builtin .len, #[x], #[ts]⟩, t, p, af, g⟩ :: rest) K (ups L b) h :=
  lx_free _ hw (fun w _ => by
    obtain ⟨a, cap, rfl⟩ := rd_shape hr
    simp only [execOp, resolve, invoke, builtin, Sem.run_bind, Sem.run_pure, Result.andThen_ok, List.map_toArray, List.map_cons, List.map_nil, hx]
    simp [Builtin.len_, run_underlying hu, goInt]) hn

/-- The address of an element. -/
theorem lx_ix {hh : Heap} {kk : IntKind} {i : Nat} (hw : Region.wanted ⟨some d, .indexAddr ts x y, t, p, af, g⟩ (yieldE ops (ups L b)) = true) (hT : ElemT P ts el E.k bytes) (hr : RdE E hh v xs) (hx : ev (ups L b) x = v) (hy : ev (ups L b) y = .int kk ((i : Nat) : Int)) (hi : i < xs.length)
    (hn : Lx P S kd ops rest K (ups ((d, ptrAt v (i * E.k)) :: L) b) h) : Lx P S kd ops (⟨some d, .indexAddr ts x y, t, p, af, g⟩ :: rest) K (ups L b) h :=
  lx_free _ hw (fun w _ => by
    obtain ⟨a, cap, rfl⟩ := rd_some hr (by omega)
    have h1 : ¬ xs.length ≤ i := by omega
    simp [execOp, hx, hy, Instr.indexAt, asIntOf, run_underlying hT.und, hT.size, h1, ptrAt]) hn

/-- The address of a cell of an element that is an array. -/
theorem lx_ixP {hh : Heap} {kk : IntKind} {i j c len e1 : Nat} (hw : Region.wanted ⟨some d, .indexAddr tx x y, t, p, af, g⟩ (yieldE ops (ups L b)) = true) (hu : P.underlying tx = some (.array len e1)) (hs : ∀ w, (sizeOf e1).run P w = .ok 1 w) (hr : RdE E hh v xs) (hi : i < xs.length)
    (hx : ev (ups L b) x = ptrAt v j) (hy : ev (ups L b) y = .int kk ((c : Nat) : Int)) (hc : c < len)
    (hn : Lx P S kd ops rest K (ups ((d, ptrAt v (j + c)) :: L) b) h) : Lx P S kd ops (⟨some d, .indexAddr tx x y, t, p, af, g⟩ :: rest) K (ups L b) h :=
  lx_free _ hw (fun w _ => by
    obtain ⟨a, cap, rfl⟩ := rd_some hr (by omega)
    have h1 : ¬ len ≤ c := by omega
    simp [execOp, hx, hy, Instr.indexAt, asIntOf, run_underlying hu, hs, h1, ptrAt, Instr.sureAddr, add_add]) hn

/-- A type whose values fill one cell. -/
def Flat (P : Program) (tt : TypeId) : Prop := ∀ w, (isAgg tt).run P w = .ok false w
/-- A struct or array type of 'n' cells. -/
def Wide (P : Program) (tt : TypeId) (n : Nat) : Prop := (∀ w, (isAgg tt).run P w = .ok true w) ∧ ∀ w, (sizeOf tt).run P w = .ok n w

theorem run_load_flat {tt : TypeId} (hf : Flat P tt) {w : World} {a : Addr} {u : Value} (hc : cellA w.heap a = some u) : (loadVar tt a).run P w = .ok u w := by
  have hc' : w.cell? a = some u := hc
  simp [loadVar, hf w, load, Sem.run, hc']
theorem run_load_wide {tt : TypeId} {n : Nat} (hf : Wide P tt n) {w : World} {a : Addr} {us : List Value} (hl : us.length = n) (hc : ∀ (j : Nat) (u : Value), us[j]? = some u → cellA w.heap (a.add j) = some u) : (loadVar tt a).run P w = .ok (.agg us.toArray) w := by
  have h1 := run_loadCells_list (P := P) w a us hc
  rw [hl] at h1
  simp [loadVar, hf.1 w, hf.2 w, h1]

/-- A cell of an element is read. -/
theorem lx_ld [Inhabited α] {i j : Nat} (u : Value) (hw : Region.wanted ⟨some d, .load t x, ty, p, af, g⟩ (yieldE ops (ups L b)) = true) (hk : kd ⟨some d, .load t x, ty, p, af, g⟩ = .read) (hf : Flat P t) (hr : RdE E h v xs) (hi : i < xs.length) (hj : (E.f (gt xs i))[j]? = some u) (hx : ev (ups L b) x = ptrAt v (i * E.k + j))
    (hn : Lx P S kd ops rest K (ups ((d, u) :: L) b) h) : Lx P S kd ops (⟨some d, .load t x, ty, p, af, g⟩ :: rest) K (ups L b) h :=
  lx_read u hw (.inl hk) (fun w _ hg => by
    have hr := hr.extS hg.ext
    have hjk : j < E.k := by have := (List.getElem?_eq_some_iff.1 hj).1; rwa [E.len] at this
    obtain ⟨a, cap, rfl, _, _, h3⟩ := hr
    obtain ⟨ad, rfl, hc⟩ := h3 (i * E.k + j) u (by rw [flat_get E xs i j hi hjk]; exact hj)
    simp [execOp, hx, Instr.loadAt, Instr.sureAddr, ptrAt, run_load_flat hf hc]) hn

/-- An element that is an array or a struct is read. -/
theorem lx_ldA [Inhabited α] {i : Nat} (us : List Value) (hw : Region.wanted ⟨some d, .load t x, ty, p, af, g⟩ (yieldE ops (ups L b)) = true) (hk : kd ⟨some d, .load t x, ty, p, af, g⟩ = .read) (hf : Wide P t E.k) (hr : RdE E h v xs) (hi : i < xs.length) (hj : E.f (gt xs i) = us) (hx : ev (ups L b) x = ptrAt v (i * E.k))
    (hn : Lx P S kd ops rest K (ups ((d, .agg us.toArray) :: L) b) h) : Lx P S kd ops (⟨some d, .load t x, ty, p, af, g⟩ :: rest) K (ups L b) h :=
  lx_read _ hw (.inl hk) (fun w _ hg => by
    have hr := hr.extS hg.ext
    subst hj
    have key : ∀ j u, (E.f (gt xs i))[j]? = some u → ∃ ad, (∃ cap, v = .slice (some ad) xs.length cap) ∧ cellA w.heap ((ad.add (i * E.k)).add j) = some u := by
      intro j u hju
      have hjk : j < E.k := by have := (List.getElem?_eq_some_iff.1 hju).1; rwa [E.len] at this
      obtain ⟨a, cap, rfl, _, _, h3⟩ := hr
      obtain ⟨ad, rfl, hc⟩ := h3 (i * E.k + j) u (by rw [flat_get E xs i j hi hjk]; exact hju)
      exact ⟨ad, ⟨cap, rfl⟩, by rw [add_add]; exact hc⟩
    obtain ⟨a, cap, rfl⟩ := rd_some hr (by omega)
    have h2 := run_load_wide (P := P) hf (w := w) (a := a.add (i * E.k)) (us := E.f (gt xs i)) (E.len _) (fun j u hju => by
      obtain ⟨ad, ⟨cap', hv⟩, hc⟩ := key j u hju
      cases hv
      exact hc)
    simp [execOp, hx, Instr.loadAt, Instr.sureAddr, ptrAt, h2]) hn

/-! ### Storing into a row of our own -/

theorem run_storeCells_own {g0 o : Nat} {e0 : TypeId} (us : List Value) (cur : Array Value) (w : World) (hg : w.heap[g0]? = some (.cells cur e0 (0, 0))) (hl : o + us.length ≤ cur.size) (h1 : ∀ u ∈ us, u.oneCell' = true) :
    (storeCells (⟨g0, o, none⟩ : Addr) us 0).run P w = .ok () (w.setRow g0 (cur.toList.take o ++ us ++ cur.toList.drop (o + us.length)).toArray) := by
  have := run_storeCells_at P g0 o e0 us 0 cur w hg (by simpa using hl) h1
  simpa using this

/-- An element of a slice of our own is written. -/
theorem lx_st [Inhabited α] {i : Nat} (a : α) (hw : Region.wanted ⟨none, .store t x y, ty, p, af, g⟩ (yieldE ops (ups L b)) = true) (hk : kd ⟨none, .store t x y, ty, p, af, g⟩ = .eff) (hs : ∀ w, (sizeOf t).run P w = .ok E.k w)
    (ho : OwE E h B el v xs) (hi : i < xs.length) (hx : ev (ups L b) x = ptrAt v (i * E.k)) (hy : (ev (ups L b) y).cells.toList = E.f a)
    (hS : S h → ∀ h', OwE E h' B el v (xs.set i a) → Chg v h h' → h'.size = h.size → S h')
    (hn : ∀ h', OwE E h' B el v (xs.set i a) → Chg v h h' → h'.size = h.size → Lx P S kd ops rest K (ups L b) h') : Lx P S kd ops (⟨none, .store t x y, ty, p, af, g⟩ :: rest) K (ups L b) h :=
  lx_eff hw hk fun hSh w hh => by
    subst hh
    obtain ⟨hl, hcase⟩ := ho
    have hpos := E.pos
    rcases hcase with ⟨_, h0⟩ | ⟨gb, cap, cur, rfl, hB, hg, hn', hm, hcs, ht⟩
    · omega
    have hlen := E.len a
    have hik : i * E.k + E.k ≤ xs.length * E.k := by
      have : (i + 1) * E.k ≤ xs.length * E.k := Nat.mul_le_mul_right _ hi
      rw [Nat.add_mul] at this; omega
    have hcap : xs.length * E.k ≤ cap * E.k := Nat.mul_le_mul_right _ hn'
    have hst := run_storeCells_own (P := P) (g0 := gb) (o := i * E.k) (E.f a) cur w hg (by rw [hlen, hcs]; omega) (E.one a)
    have hrun : (execOp (ev (ups L b)) ⟨none, .store t x y, ty, p, af, g⟩).run P w = .ok .skip (w.setRow gb (cur.toList.take (i * E.k) ++ E.f a ++ cur.toList.drop (i * E.k + (E.f a).length)).toArray) := by
      have e1 : (ev (ups L b) y).cells.size = E.k := by rw [← Array.length_toList, hy, hlen]
      simp [execOp, hx, ptrAt, add_lit, Instr.storeAt, Instr.sureAddr, storeVar, hs, e1, hy, hst]
    rw [hrun]
    have hch : Chg (.slice (some ⟨gb, 0, none⟩) xs.length cap) w.heap (w.setRow gb (cur.toList.take (i * E.k) ++ E.f a ++ cur.toList.drop (i * E.k + (E.f a).length)).toArray).heap :=
      ⟨by simp, fun k' _ hk' => setRow_other w gb k' _ (fun e => hk' (by simp [Value.ownBlock, e]))⟩
    have hown : OwE E (w.setRow gb (cur.toList.take (i * E.k) ++ E.f a ++ cur.toList.drop (i * E.k + (E.f a).length)).toArray).heap B el (.slice (some ⟨gb, 0, none⟩) xs.length cap) (xs.set i a) := by
      refine ⟨by rw [flat_length], .inr ⟨gb, cap, _, by simp, hB, setRow_heap w gb cur _ el _ hg, by simpa using hn', hm, ?_, ?_⟩⟩
      · simp only [List.size_toArray, List.length_append, List.length_take, List.length_drop, Array.length_toList]
        rw [hlen]
        omega
      · rw [flat_set E xs i a hi, ← ht, hlen]
        have hcl : cur.toList.length = cap * E.k := by rw [Array.length_toList]; exact hcs
        simp only [List.length_set]
        rw [List.take_append, List.take_append, List.take_take, List.take_take, List.length_append, List.length_take, hlen, hcl]
        rw [show min (i * E.k) (cap * E.k) = i * E.k from by omega, show min (xs.length * E.k) (i * E.k) = i * E.k from by omega, show min (i * E.k) (xs.length * E.k) = i * E.k from by omega]
        rw [List.take_of_length_le (l := E.f a) (by rw [hlen]; omega), List.drop_take]
    have hsz : (w.setRow gb (cur.toList.take (i * E.k) ++ E.f a ++ cur.toList.drop (i * E.k + (E.f a).length)).toArray).heap.size = w.heap.size := by simp
    exact ⟨⟨rfl, rfl, rfl⟩, hS hSh _ hown hch hsz, hn _ hown hch hsz⟩

/-- 'x[:n]', 'x[a:b]' of a slice that is read. -/
theorem lx_slice {hh : Heap} {el : TypeId} {n : Nat} {cs : List Value} {lo hi : Option Operand} (l u : Nat) (hw : Region.wanted ⟨some d, .slice ts x lo hi none, t, p, af, g⟩ (yieldE ops (ups L b)) = true) (hT : ElemT P ts el E.k bytes) (hx : ev (ups L b) x = v)
    (hlo : (match lo with | none => l = 0 | some o => ∃ k', ev (ups L b) o = .int k' ((l : Nat) : Int))) (hhi : (match hi with | none => u = n | some o => ∃ k', ev (ups L b) o = .int k' ((u : Nat) : Int)))
    (hr : Rd hh v n cs) (hlu : l ≤ u) (hun : u ≤ n)
    (hn : ∀ v', (∀ h' , Rd h' v n cs → cs.length = n * E.k → Rd h' v' (u - l) ((cs.drop (l * E.k)).take ((u - l) * E.k))) → (l = 0 → v'.ownBlock = v.ownBlock ∧ ∀ h' B e, Own h' B e E.k v n cs → Own h' B e E.k v' u (cs.take (u * E.k))) → Lx P S kd ops rest K (ups ((d, v') :: L) b) h) :
    Lx P S kd ops (⟨some d, .slice ts x lo hi none, t, p, af, g⟩ :: rest) K (ups L b) h := by
  obtain ⟨a, cap, rfl, hc, ha, _⟩ := hr
  refine lx_free (.slice (if cap = l then a else a.map (·.add (l * E.k))) (u - l) (cap - l)) hw (fun w _ => ?_) (hn _ ?_ ?_)
  · have h1 : ∀ w, (Instr.sliceBounds true n cap (lo.map (ev (ups L b))) (hi.map (ev (ups L b))) none).run P w = .ok (l, u, cap) w := by
      intro w
      cases lo with
      | none =>
        simp only at hlo
        subst hlo
        cases hi with
        | none => simp only at hhi; subst hhi; simp [Instr.sliceBounds]
        | some o =>
          obtain ⟨k', ho⟩ := hhi
          have h2 : u ≤ cap := by omega
          simp [Instr.sliceBounds, Instr.sliceBound, ho, asIntOf, h2]
      | some o1 =>
        obtain ⟨k1, ho1⟩ := hlo
        cases hi with
        | none => simp only at hhi; subst hhi; simp [Instr.sliceBounds, Instr.sliceBound, ho1, asIntOf, hlu]
        | some o =>
          obtain ⟨k', ho⟩ := hhi
          have h2 : u ≤ cap := by omega
          simp [Instr.sliceBounds, Instr.sliceBound, ho, ho1, asIntOf, h2, hlu]
    simp [execOp, hx, Instr.sliceAt, Instr.slice, run_underlying hT.und, h1, hT.size]
  · intro h' hr' hlen
    obtain ⟨a', cap', he, h1, h2, h3⟩ := hr'
    cases he
    refine ⟨_, _, rfl, by omega, ?_, ?_⟩
    · intro h0
      have : a = none := by
        split at h0
        · exact h0
        · cases a <;> simp_all
      have := h2 this
      omega
    · intro j w hj
      rw [List.getElem?_take] at hj
      split at hj
      · rename_i hjl
        rw [List.getElem?_drop] at hj
        obtain ⟨ad, rfl, hcell⟩ := h3 _ _ hj
        by_cases hcl : cap = l
        · have : (u - l) * E.k = 0 := by rw [show u - l = 0 from by omega]; simp
          omega
        · exact ⟨ad.add (l * E.k), by simp [hcl], by rw [add_add]; exact hcell⟩
      · cases hj
  · intro h0
    subst h0
    have e1 : (if cap = 0 then a else a.map (·.add (0 * E.k))) = a := by
      split
      · rfl
      · cases a <;> simp [add_zero]
    rw [e1]
    refine ⟨by cases a <;> rfl, fun h' B' e' ho => ?_⟩
    obtain ⟨hl, hcase⟩ := ho
    refine ⟨by rw [List.length_take, hl]; have := Nat.mul_le_mul_right E.k hun; omega, ?_⟩
    rcases hcase with ⟨h1, h2⟩ | ⟨g', cap', cur, h1, hB, hg, hn', hm, hcs, ht⟩
    · cases h1
      exact .inl ⟨by simp; omega, by omega⟩
    · cases h1
      refine .inr ⟨g', cap, cur, by simp, hB, hg, by omega, hm, hcs, ?_⟩
      rw [← ht, List.take_take]
      congr 1
      have := Nat.mul_le_mul_right E.k hun
      omega

end
end Go.X
namespace Go.X

section
variable {P : Program} {S : Heap → Prop} {kd : Oper → Kd} {ops : Array Oper} {rest : List Oper} {K : Env → Heap → Prop} {L : List (Nat × Value)} {b : Env} {h : Heap}
variable {d : Nat} {t tx ty : TypeId} {p : String} {af : Array Edge} {g : Option (Nat × Bool)} {x y z : Operand}
variable {α : Type} {E : Enc α} {v : Value} {xs : List α} {B : Nat} {ts el : TypeId} {bytes : Nat}

/-! ### Variables in blocks -/

theorem blk_push (h : Heap) (cs : Array Value) (t : TypeId) : Blk (h.push (.cells cs t)) h.size cs t := by simp [Blk]

/-- A new variable, zero. -/
theorem lx_alloc {z0 : Value} (hw : Region.wanted ⟨some d, .alloc t, ty, p, af, g⟩ (yieldE ops (ups L b)) = true) (hk : kd ⟨some d, .alloc t, ty, p, af, g⟩ = .new) (hz : ∀ w, (zeroValue t).run P w = .ok z0 w)
    (hS : S h → ∀ h', Ext h.size h h' → S h')
    (hn : ∀ (bn : Nat) (h' : Heap), bn = h.size → Blk h' bn z0.cells t → Ext h.size h h' → h'.size = h.size + 1 → Lx P S kd ops rest K (ups ((d, .pointer (some ⟨bn, 0, none⟩)) :: L) b) h') :
    Lx P S kd ops (⟨some d, .alloc t, ty, p, af, g⟩ :: rest) K (ups L b) h :=
  lx_new hw hk fun hSh w hh => by
    subst hh
    have hrun : (execOp (ev (ups L b)) ⟨some d, .alloc t, ty, p, af, g⟩).run P w = .ok (.value (.pointer (some ⟨w.heap.size, 0, none⟩))) { w with heap := w.heap.push (.cells z0.cells t) } := by
      simp [execOp, Instr.alloc, hz, newVar, newRow, newObj, Sem.run]
    rw [hrun]
    exact ⟨⟨rfl, rfl, rfl⟩, (ext_push _ _).grow, hS hSh _ (ext_push _ _), hn _ _ rfl (blk_push _ _ _) (ext_push _ _) (by simp)⟩

/-- A new variable that holds a value. -/
theorem lx_box (cs : Array Value) (hw : Region.wanted ⟨some d, .box t x, ty, p, af, g⟩ (yieldE ops (ups L b)) = true) (hk : kd ⟨some d, .box t x, ty, p, af, g⟩ = .new) (hx : (ev (ups L b) x).cells = cs)
    (hS : S h → ∀ h', Ext h.size h h' → S h')
    (hn : ∀ (bn : Nat) (h' : Heap), bn = h.size → Blk h' bn cs t → Ext h.size h h' → h'.size = h.size + 1 → Lx P S kd ops rest K (ups ((d, .pointer (some ⟨bn, 0, none⟩)) :: L) b) h') :
    Lx P S kd ops (⟨some d, .box t x, ty, p, af, g⟩ :: rest) K (ups L b) h :=
  lx_new hw hk fun hSh w hh => by
    subst hh; subst hx
    have hrun : (execOp (ev (ups L b)) ⟨some d, .box t x, ty, p, af, g⟩).run P w = .ok (.value (.pointer (some ⟨w.heap.size, 0, none⟩))) { w with heap := w.heap.push (.cells (ev (ups L b) x).cells t) } := by
      simp [execOp, Instr.box, newVar, newRow, newObj, Sem.run]
    rw [hrun]
    exact ⟨⟨rfl, rfl, rfl⟩, (ext_push _ _).grow, hS hSh _ (ext_push _ _), hn _ _ rfl (blk_push _ _ _) (ext_push _ _) (by simp)⟩

/-- The address of a cell of an array variable. -/
theorem lx_ixB {kk : IntKind} {i len e1 k1 bn o : Nat} (o' : Nat) (hw : Region.wanted ⟨some d, .indexAddr tx x y, t, p, af, g⟩ (yieldE ops (ups L b)) = true) (hu : P.underlying tx = some (.array len e1)) (hs : ∀ w, (sizeOf e1).run P w = .ok k1 w)
    (hx : ev (ups L b) x = .pointer (some ⟨bn, o, none⟩)) (hy : ev (ups L b) y = .int kk ((i : Nat) : Int)) (hi : i < len) (ho : o + i * k1 = o')
    (hn : Lx P S kd ops rest K (ups ((d, .pointer (some ⟨bn, o', none⟩)) :: L) b) h) : Lx P S kd ops (⟨some d, .indexAddr tx x y, t, p, af, g⟩ :: rest) K (ups L b) h :=
  lx_free _ hw (fun w _ => by
    subst ho
    have h1 : ¬ len ≤ i := by omega
    simp [execOp, hx, hy, Instr.indexAt, asIntOf, run_underlying hu, hs, h1, Instr.sureAddr, add_lit]) hn

/-- A cell of a variable is read. -/
theorem lx_ldB {bn o : Nat} {cs : Array Value} {te : TypeId} (u : Value) (hw : Region.wanted ⟨some d, .load t x, ty, p, af, g⟩ (yieldE ops (ups L b)) = true) (hk : kd ⟨some d, .load t x, ty, p, af, g⟩ = .read) (hf : Flat P t) (hb : Blk h bn cs te) (hj : cs[o]? = some u) (hx : ev (ups L b) x = .pointer (some ⟨bn, o, none⟩))
    (hn : Lx P S kd ops rest K (ups ((d, u) :: L) b) h) : Lx P S kd ops (⟨some d, .load t x, ty, p, af, g⟩ :: rest) K (ups L b) h :=
  lx_read u hw (.inl hk) (fun w _ hg => by
    have hb := hb.extS hg.ext
    have hc := hb.cell o
    rw [hj] at hc
    simp [execOp, hx, Instr.loadAt, Instr.sureAddr, run_load_flat hf hc]) hn

/-- A whole array or struct variable is read. -/
theorem lx_ldBA {bn n : Nat} {cs : Array Value} {te : TypeId} (hw : Region.wanted ⟨some d, .load t x, ty, p, af, g⟩ (yieldE ops (ups L b)) = true) (hk : kd ⟨some d, .load t x, ty, p, af, g⟩ = .read) (hf : Wide P t n) (hb : Blk h bn cs te) (hl : cs.size = n) (hx : ev (ups L b) x = .pointer (some ⟨bn, 0, none⟩))
    (hn : Lx P S kd ops rest K (ups ((d, .agg cs) :: L) b) h) : Lx P S kd ops (⟨some d, .load t x, ty, p, af, g⟩ :: rest) K (ups L b) h :=
  lx_read _ hw (.inl hk) (fun w _ hg => by
    have hb := hb.extS hg.ext
    have h2 := run_load_wide (P := P) hf (w := w) (a := ⟨bn, 0, none⟩) (us := cs.toList) (by simpa using hl) (fun j u hju => by
      rw [add_lit, hb.cell]; simpa using hju)
    simp [execOp, hx, Instr.loadAt, Instr.sureAddr, h2]) hn

/-- All but one block is as it was. -/
structure ChgB (bn : Nat) (h h' : Heap) : Prop where
  size : h'.size = h.size
  block : ∀ k, k ≠ bn → h'[k]? = h[k]?
theorem ChgB.ext {bn B : Nat} {h h' : Heap} (hx : ChgB bn h h') (hB : B ≤ bn) : Ext B h h' := ⟨Nat.le_of_eq hx.size.symm, fun k hk => hx.block k (by omega)⟩
theorem ChgB.blk {bn b' : Nat} {h h' : Heap} {cs : Array Value} {t : TypeId} (hx : ChgB bn h h') (hb : Blk h b' cs t) (hne : b' ≠ bn) : Blk h' b' cs t := (hx.block b' hne).trans hb
theorem ChgB.own {bn : Nat} {h h' : Heap} {B : Nat} {e : TypeId} {k : Nat} {v : Value} {n : Nat} {cs : List Value} (hx : ChgB bn h h') (ho : Own h B e k v n cs) (hne : v.ownBlock ≠ some bn) : Own h' B e k v n cs :=
  ho.keep fun g hg => hx.block g (fun e' => hne (by rw [hg, e']))
theorem ChgB.rd {bn : Nat} {h h' : Heap} {v : Value} {n : Nat} {cs : List Value} (hx : ChgB bn h h') (hr : Rd h v n cs) (hne : v.ownBlock ≠ some bn) : Rd h' v n cs := by
  obtain ⟨a, cap, rfl, h1, h2, h3⟩ := hr
  refine ⟨a, cap, rfl, h1, h2, fun j u hj => ?_⟩
  obtain ⟨ad, rfl, hc⟩ := h3 j u hj
  refine ⟨ad, rfl, ?_⟩
  have := hx.block (ad.add j).block (by rw [add_block]; exact fun e => hne (by simp [Value.ownBlock, e]))
  unfold cellA at *
  rw [this]; exact hc

theorem run_store_blk {bn o : Nat} {cs : Array Value} {te : TypeId} (us : List Value) (w : World) (hb : Blk w.heap bn cs te) (hl : o + us.length ≤ cs.size) (h1 : ∀ u ∈ us, u.oneCell' = true) :
    ∃ w', (storeCells (⟨bn, o, none⟩ : Addr) us 0).run P w = .ok () w' ∧ Qt w w' ∧ Blk w'.heap bn (cs.toList.take o ++ us ++ cs.toList.drop (o + us.length)).toArray te ∧ ChgB bn w.heap w'.heap :=
  ⟨_, run_storeCells_own us cs w hb hl h1, ⟨rfl, rfl, rfl⟩, setRow_heap w bn cs _ te _ hb, ⟨by simp, fun k hk => setRow_other w bn k _ hk⟩⟩

/-- A cell of a variable is written. -/
theorem lx_stB {bn o : Nat} {cs : Array Value} {te : TypeId} (u : Value) (hw : Region.wanted ⟨none, .store t x y, ty, p, af, g⟩ (yieldE ops (ups L b)) = true) (hk : kd ⟨none, .store t x y, ty, p, af, g⟩ = .eff) (hs : ∀ w, (sizeOf t).run P w = .ok 1 w)
    (hb : Blk h bn cs te) (ho : o < cs.size) (hx : ev (ups L b) x = .pointer (some ⟨bn, o, none⟩)) (hy : ev (ups L b) y = u) (hu : u.cells = #[u]) (h1 : u.oneCell' = true)
    (hS : S h → ∀ h', Blk h' bn (cs.setIfInBounds o u) te → ChgB bn h h' → S h')
    (hn : ∀ h', Blk h' bn (cs.setIfInBounds o u) te → ChgB bn h h' → Lx P S kd ops rest K (ups L b) h') : Lx P S kd ops (⟨none, .store t x y, ty, p, af, g⟩ :: rest) K (ups L b) h :=
  lx_eff hw hk fun hSh w hh => by
    subst hh; subst hy
    obtain ⟨w', hr, hq, hb', hc⟩ := run_store_blk (P := P) (bn := bn) (o := o) [ev (ups L b) y] w hb (by simp; omega) (fun u hu' => by simp at hu'; subst hu'; exact h1)
    have e1 : (cs.toList.take o ++ [ev (ups L b) y] ++ cs.toList.drop (o + [ev (ups L b) y].length)).toArray = cs.setIfInBounds o (ev (ups L b) y) := by
      apply Array.toList_inj.1
      rw [Array.toList_setIfInBounds, List.set_eq_take_append_cons_drop, if_pos (by simpa using ho)]
      simp
    rw [e1] at hb'
    have hrun : (execOp (ev (ups L b)) ⟨none, .store t x y, ty, p, af, g⟩).run P w = .ok .skip w' := by
      simp [execOp, hx, Instr.storeAt, Instr.sureAddr, storeVar, hs, hu, hr]
    rw [hrun]
    exact ⟨hq, hS hSh _ hb' hc, hn _ hb' hc⟩

/-- A whole variable is written. -/
theorem lx_stBA {bn n : Nat} {cs : Array Value} {te : TypeId} (us : Array Value) (hw : Region.wanted ⟨none, .store t x y, ty, p, af, g⟩ (yieldE ops (ups L b)) = true) (hk : kd ⟨none, .store t x y, ty, p, af, g⟩ = .eff) (hs : ∀ w, (sizeOf t).run P w = .ok n w)
    (hb : Blk h bn cs te) (hl : cs.size = n) (hl' : us.size = n) (hx : ev (ups L b) x = .pointer (some ⟨bn, 0, none⟩)) (hy : (ev (ups L b) y).cells = us) (h1 : ∀ u ∈ us.toList, u.oneCell' = true)
    (hS : S h → ∀ h', Blk h' bn us te → ChgB bn h h' → S h')
    (hn : ∀ h', Blk h' bn us te → ChgB bn h h' → Lx P S kd ops rest K (ups L b) h') : Lx P S kd ops (⟨none, .store t x y, ty, p, af, g⟩ :: rest) K (ups L b) h :=
  lx_eff hw hk fun hSh w hh => by
    subst hh; subst hy
    obtain ⟨w', hr, hq, hb', hc⟩ := run_store_blk (P := P) (bn := bn) (o := 0) (ev (ups L b) y).cells.toList w hb (by simp; omega) h1
    have e1 : (cs.toList.take 0 ++ (ev (ups L b) y).cells.toList ++ cs.toList.drop (0 + (ev (ups L b) y).cells.toList.length)).toArray = (ev (ups L b) y).cells := by
      rw [List.drop_of_length_le (by simp; omega)]
      simp
    rw [e1] at hb'
    have hrun : (execOp (ev (ups L b)) ⟨none, .store t x y, ty, p, af, g⟩).run P w = .ok .skip w' := by
      simp [execOp, hx, Instr.storeAt, Instr.sureAddr, storeVar, hs, hl', hr]
    rw [hrun]
    exact ⟨hq, hS hSh _ hb' hc, hn _ hb' hc⟩

/-! ### Values of arrays -/

/-- A literal of a struct or an array. -/
theorem lx_build {parts : Array (Nat × Operand)} (v' : Value) (ps : List (Nat × Value)) (hw : Region.wanted ⟨some d, .build t parts, ty, p, af, g⟩ (yieldE ops (ups L b)) = true) (hp : parts.toList.map (fun q => (q.1, ev (ups L b) q.2)) = ps)
    (hr : ∀ w, (Instr.build t ps.toArray).run P w = .ok v' w)
    (hn : Lx P S kd ops rest K (ups ((d, v') :: L) b) h) : Lx P S kd ops (⟨some d, .build t parts, ty, p, af, g⟩ :: rest) K (ups L b) h :=
  lx_free _ hw (fun w _ => by
    have e1 : parts.map (fun q => (q.1, ev (ups L b) q.2)) = ps.toArray := by rw [← hp, ← Array.toList_map]
    have e2 : (parts.map fun (q : Nat × Operand) => match q with | (i, x) => (i, ev (ups L b) x)) = ps.toArray := by rw [← e1]
    simp only [execOp, Sem.run_bind]
    rw [e2, hr w]
    simp) hn

end
end Go.X
