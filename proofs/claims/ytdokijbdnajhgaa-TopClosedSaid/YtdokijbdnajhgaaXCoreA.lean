/-
  A small framework of our own over the library's machine: environments as functions, heaps alone as the state.
  Nothing here names a program. It proves no statement by itself; its conditions stand at each theorem.
-/
import Derived.Orders
import Derived.Tactics
import Derived.TacticsIn
import Derived.OrdersIn
import Derived.RangeFuncIn
import Derived.RangeFuncRecord
import Derived.RangeFuncLeaves
set_option linter.unusedSimpArgs false
set_option linter.unusedVariables false
namespace Go.X

abbrev Heap := Array Obj
abbrev Env := Nat → Value

def upd (e : Env) (d : Nat) (v : Value) : Env := fun i => cond (Nat.beq i d) v (e i)
def putE (e : Env) (d : Option Nat) (v : Value) : Env := match d with | some d => upd e d v | none => e
def ups : List (Nat × Value) → Env → Env
  | [], b => b
  | (d, v) :: L, b => upd (ups L b) d v
def ev (e : Env) : Operand → Value
  | .tmp t => e t
  | .const v => v
  | .global g => .pointer (some ⟨g, 0, none⟩)
  | .func f => .func (.func f) #[] #[]

structure Qt (w w' : World) : Prop where
  os : w'.os = w.os
  tape : w'.tape = w.tape
  output : w'.output = w.output

theorem Qt.refl (w : World) : Qt w w := ⟨rfl, rfl, rfl⟩
theorem Qt.trans {a b c : World} (h : Qt a b) (k : Qt b c) : Qt a c := ⟨k.os.trans h.os, k.tape.trans h.tape, k.output.trans h.output⟩

structure Fits (n : Nat) (ds : List Deferred) (e : Env) (a : Act) : Prop where
  defers : a.defers = ds
  size : a.tmps.size = n
  get : ∀ i, a.tmps.getD i undef = e i

theorem Fits.ev {n : Nat} {ds : List Deferred} {e : Env} {a : Act} (h : Fits n ds e a) : a.eval = X.ev e := by
  funext x
  cases x with
  | tmp t => exact h.get t
  | _ => rfl

theorem upd_same (e : Env) (d : Nat) (v : Value) : upd e d v d = v := by simp [upd]
theorem upd_other (e : Env) {d i : Nat} (v : Value) (h : i ≠ d) : upd e d v i = e i := by
  have : Nat.beq i d = false := by
    cases hb : Nat.beq i d with
    | false => rfl
    | true => exact absurd (Nat.eq_of_beq_eq_true hb) h
  simp [upd, this]

theorem Fits.put {n : Nat} {ds : List Deferred} {e : Env} {a : Act} (h : Fits n ds e a) (dst : Option Nat) (v : Value) (hd : ∀ d, dst = some d → d < n) : Fits n ds (putE e dst v) (a.put dst v) := by
  cases dst with
  | none => exact h
  | some d =>
    have hlt := hd d rfl
    refine ⟨h.defers, by simp [Act.put, h.size], fun i => ?_⟩
    simp only [Act.put, putE]
    by_cases hi : i = d
    · subst hi
      rw [upd_same]
      have : i < a.tmps.size := by rw [h.size]; exact hlt
      simp [Array.getD_eq_getD_getElem?, this]
    · rw [upd_other _ _ hi, ← h.get i]
      simp [Array.getD_eq_getD_getElem?, Array.getElem?_setIfInBounds_ne (Ne.symm hi)]

def yieldE (ops : Array Oper) (e : Env) (j : Nat) : Option Bool :=
  match (ops[j]?).bind (·.dst) with
  | some d => (match e d with | .bool b => some b | _ => none)
  | none => none

theorem Fits.yielded {n : Nat} {ds : List Deferred} {e : Env} {a : Act} (h : Fits n ds e a) (ops : Array Oper) : Go.yielded ops a.tmps = yieldE ops e := by
  funext j
  unfold Go.yielded yieldE
  cases hd : (ops[j]?).bind (·.dst) with
  | none => rfl
  | some d =>
    have hg := h.get d
    simp only [Option.bind_some]
    rw [Array.getD_eq_getD_getElem?] at hg
    cases ht : a.tmps[d]? with
    | none => rw [ht] at hg; simp only [Option.getD_none] at hg; rw [← hg]; rfl
    | some v => rw [ht] at hg; simp only [Option.getD_some] at hg; rw [← hg]; cases v <;> rfl

/-! ### The obligations of one operation -/

/-- All functions, any depth; in a round or not. -/
def Fc (ro : Option Nat) : Fence := { Fence.wide with round := ro }
theorem fc_room (ro : Option Nat) (n : Nat) : (Fc ro).room n := fun _ h => by simp [Fc, Fence.wide] at h
theorem calls_fc {ro : Option Nat} {n : Nat} {P : Program} {f : FuncId} {args : Array Value} {w : World} {R : Ending → World → Prop} (h : Calls P f args w R) : CallsIn (Fc ro) n P f args w R :=
  ⟨trivial, fun cs _ => ((callsIn_wide (n := 0)).2 h).2 cs (room_wide _)⟩
theorem round_fc {ro : Option Nat} {n m : Nat} {P : Program} {l : Nat} {f : FuncId} {tmps : Array Value} {assign body : Code} {w : World} {R : Ending → World → Prop} (h : RoundIn Fence.wide m P l f tmps assign body w R) : RoundIn (Fc ro) n P l f tmps assign body w R :=
  ⟨trivial, fun c cs _ => h.2 c cs (room_wide _)⟩
def notDefer (o : Oper) : Bool := match o.op with | .defer _ => false | _ => true
theorem notDefer_spec {o : Oper} (h : notDefer o = true) : ∀ c, o.op ≠ .defer c := fun c hc => by unfold notDefer at h; rw [hc] at h; cases h

inductive Kd where
  | free | read | new | eff

/-- What was there is there still; more may be. -/
def Grow (h h' : Heap) : Prop := h.size ≤ h'.size ∧ ∀ k, k < h.size → h'[k]? = h[k]?
theorem Grow.refl (h : Heap) : Grow h h := ⟨Nat.le_refl _, fun _ _ => rfl⟩
theorem Grow.trans {a b c : Heap} (h : Grow a b) (k : Grow b c) : Grow a c := ⟨Nat.le_trans h.1 k.1, fun i hi => (k.2 i (Nat.lt_of_lt_of_le hi h.1)).trans (h.2 i hi)⟩

section
variable (P : Program) (S : Heap → Prop)

def FreeOb (o : Oper) (e : Env) (v : Value) : Prop := ∀ w : World, S w.heap → (execOp (ev e) o).run P w = .ok (.value v) w
def ReadOb (o : Oper) (e : Env) (h : Heap) (v : Value) : Prop := ∀ w : World, S w.heap → Grow h w.heap → (execOp (ev e) o).run P w = .ok (.value v) w
def effUpon (w : World) (K : Value → Heap → Prop) : Result Next → Prop
  | .ok (.value v) w' => Qt w w' ∧ S w'.heap ∧ K v w'.heap
  | .ok .skip w' => Qt w w' ∧ S w'.heap ∧ K undef w'.heap
  | .ok (.enter f args) w' => Qt w w' ∧ Calls P f args w' (fun x w'' => ∃ v, x = .returned v ∧ Qt w' w'' ∧ S w''.heap ∧ K v w''.heap)
  | .ok (.round l f tmps assign body) w' => Qt w w' ∧ RoundIn Fence.wide 0 P l f tmps assign body w' (fun x w'' => ∃ v, x = .returned v ∧ Qt w' w'' ∧ S w''.heap ∧ K v w''.heap)
  | _ => False
def newUpon (w : World) (K : Value → Heap → Prop) : Result Next → Prop
  | .ok (.value v) w' => Qt w w' ∧ Grow w.heap w'.heap ∧ S w'.heap ∧ K v w'.heap
  | _ => False
def NewOb (o : Oper) (e : Env) (h : Heap) (K : Value → Heap → Prop) : Prop := ∀ w : World, w.heap = h → newUpon S w K ((execOp (ev e) o).run P w)
def EffOb (o : Oper) (e : Env) (h : Heap) (K : Value → Heap → Prop) : Prop := ∀ w : World, w.heap = h → effUpon P S w K ((execOp (ev e) o).run P w)

def Ob (k : Kd) (o : Oper) (e : Env) (h : Heap) (K : Value → Heap → Prop) : Prop :=
  match k with
  | .free => ∃ v, FreeOb P S o e v ∧ K v h
  | .read => S h → ∃ v, ReadOb P S o e h v ∧ K v h
  | .new => S h → NewOb P S o e h K
  | .eff => S h → EffOb P S o e h K

/-- The operations in the order of the text. -/
def Lx (kd : Oper → Kd) (ops : Array Oper) : List Oper → (Env → Heap → Prop) → Env → Heap → Prop
  | [], K, e, h => K e h
  | o :: rest, K, e, h =>
    if Region.wanted o (yieldE ops e) then Ob P S (kd o) o e h (fun v h' => Lx kd ops rest K (putE e o.dst v) h')
    else Lx kd ops rest K (putE e o.dst undef) h
end

section
variable {P : Program} {S : Heap → Prop}

theorem effUpon_mono {w : World} {K K' : Value → Heap → Prop} (h : ∀ v h', S h' → K v h' → K' v h') {r : Result Next} (hr : effUpon P S w K r) : effUpon P S w K' r := by
  cases r with
  | halt x w' => exact hr
  | ok n w' =>
    cases n <;> simp only [effUpon] at hr ⊢
    case value v => exact ⟨hr.1, hr.2.1, h _ _ hr.2.1 hr.2.2⟩
    case skip => exact ⟨hr.1, hr.2.1, h _ _ hr.2.1 hr.2.2⟩
    case enter f args => exact ⟨hr.1, hr.2.mono fun x w'' ⟨v, hx, hq, hs, hk⟩ => ⟨v, hx, hq, hs, h _ _ hs hk⟩⟩
    case round l f tmps assign body => exact ⟨hr.1, hr.2.mono fun x w'' ⟨v, hx, hq, hs, hk⟩ => ⟨v, hx, hq, hs, h _ _ hs hk⟩⟩

theorem newUpon_mono {w : World} {K K' : Value → Heap → Prop} (h : ∀ v h', S h' → Grow w.heap h' → K v h' → K' v h') {r : Result Next} (hr : newUpon S w K r) : newUpon S w K' r := by
  cases r with
  | halt x w' => exact hr
  | ok n w' =>
    cases n <;> simp only [newUpon] at hr ⊢
    case value v => exact ⟨hr.1, hr.2.1, hr.2.2.1, h _ _ hr.2.2.1 hr.2.1 hr.2.2.2⟩
theorem eff_of_new {w : World} {K : Value → Heap → Prop} {r : Result Next} (hr : newUpon S w K r) : effUpon P S w K r := by
  cases r with
  | halt x w' => exact hr
  | ok n w' =>
    cases n <;> simp only [newUpon] at hr
    case value v => exact ⟨hr.1, hr.2.2.1, hr.2.2.2⟩
theorem ob_mono {k : Kd} {o : Oper} {e : Env} {h : Heap} {K K' : Value → Heap → Prop} (hS : S h) (hm : ∀ v h', S h' → K v h' → K' v h') (ho : Ob P S k o e h K) : Ob P S k o e h K' := by
  cases k with
  | free => obtain ⟨v, hv, hk⟩ := ho; exact ⟨v, hv, hm _ _ hS hk⟩
  | read => intro hs; obtain ⟨v, hv, hk⟩ := ho hs; exact ⟨v, hv, hm _ _ hs hk⟩
  | new => intro hs w hw; exact newUpon_mono (fun v h' hs' _ hk => hm v h' hs' hk) (ho hs w hw)
  | eff => intro hs w hw; exact effUpon_mono hm (ho hs w hw)

theorem ob_of_free {k : Kd} {o : Oper} {e : Env} {h : Heap} {K : Value → Heap → Prop} (v : Value) (hv : FreeOb P S o e v) (hK : K v h) : Ob P S k o e h K := by
  cases k with
  | free => exact ⟨v, hv, hK⟩
  | read => exact fun hs => ⟨v, fun w hs' _ => hv w hs', hK⟩
  | new =>
    intro hs w hw
    rw [hv w (by rw [hw]; exact hs)]
    exact ⟨Qt.refl _, Grow.refl _, by rw [hw]; exact hs, by rw [hw]; exact hK⟩
  | eff =>
    intro hs w hw
    rw [hv w (by rw [hw]; exact hs)]
    exact ⟨Qt.refl _, by rw [hw]; exact hs, by rw [hw]; exact hK⟩

theorem ob_of_read {k : Kd} {o : Oper} {e : Env} {h : Heap} {K : Value → Heap → Prop} (hk : k = .read ∨ k = .eff) (v : Value) (hv : ReadOb P S o e h v) (hK : K v h) : Ob P S k o e h K := by
  rcases hk with rfl | rfl
  · exact fun _ => ⟨v, hv, hK⟩
  · intro hs w hw
    rw [hv w (by rw [hw]; exact hs) (by rw [hw]; exact Grow.refl _)]
    exact ⟨Qt.refl _, by rw [hw]; exact hs, by rw [hw]; exact hK⟩

/-- What an obligation says of the machine's own operation. -/
theorem oper_wp {ro : Option Nat} {ds : List Deferred} {k : Kd} {n : Nat} {o : Oper} {e : Env} {h : Heap} {K : Value → Heap → Prop} {a : Act} {w : World} {K' : Act → World → Prop} {Q : Exit → Act → World → Prop}
    (hnd : notDefer o = true) (hS : S h) (hf : Fits n ds e a) (hw : w.heap = h)
    (ho : Ob P S k o e h K) (hK : ∀ v w', Qt w w' → S w'.heap → K v w'.heap → K' (a.put o.dst v) w') : o.wpIn (Fc ro) 0 P a w K' Q := by
  have he : EffOb P S o e h K := by
    cases k with
    | free =>
      obtain ⟨v, hv, hk⟩ := ho
      intro w1 hw1
      rw [hv w1 (by rw [hw1]; exact hS)]
      exact ⟨Qt.refl _, by rw [hw1]; exact hS, by rw [hw1]; exact hk⟩
    | read =>
      obtain ⟨v, hv, hk⟩ := ho hS
      intro w1 hw1
      rw [hv w1 (by rw [hw1]; exact hS) (by rw [hw1]; exact Grow.refl _)]
      exact ⟨Qt.refl _, by rw [hw1]; exact hS, by rw [hw1]; exact hk⟩
    | new => exact fun w1 hw1 => eff_of_new (ho hS w1 hw1)
    | eff => exact ho hS
  have := he w hw
  refine ⟨fun f _ => trivial, ?_⟩
  rw [Oper.semAt_eq _ _ _ (notDefer_spec hnd), hf.ev]
  generalize (execOp (ev e) o).run P w = r at *
  cases r with
  | halt x w' => exact this.elim
  | ok nx w' =>
    cases nx <;> simp only [effUpon] at this <;> simp only [Oper.uponIn]
    case value v => exact hK v w' this.1 this.2.1 this.2.2
    case skip => exact hK undef w' this.1 this.2.1 this.2.2
    case enter f args =>
      exact ⟨fun h => by simp [Fc, Fence.wide] at h, calls_fc (this.2.mono fun x w'' ⟨v, hx, hq, hs, hk⟩ => by subst hx; exact hK v w'' (this.1.trans hq) hs hk)⟩
    case round l f tmps assign body =>
      exact ⟨fun h => by simp [Fc, Fence.wide] at h, round_fc (this.2.mono fun x w'' ⟨v, hx, hq, hs, hk⟩ => by subst hx; exact hK v w'' (this.1.trans hq) hs hk)⟩

/-- One step of the machine's region, in whatever order. -/
def obAt (P : Program) (S : Heap → Prop) (kd : Oper → Kd) (ops : Array Oper) (i : Nat) (K : Env → Heap → Prop) (e : Env) (h : Heap) : Prop :=
  match ops[i]? with
  | none => K e h
  | some o => if Region.wanted o (yieldE ops e) then Ob P S (kd o) o e h (fun v h' => K (putE e o.dst v) h') else K (putE e o.dst undef) h

def anyX (P : Program) (S : Heap → Prop) (kd : Oper → Kd) (ops : Array Oper) (K : Env → Heap → Prop) : Nat → Array Bool → Env → Heap → Prop
  | 0, listed, e, h => Region.ready .any ops listed = [] ∧ K e h
  | fuel + 1, listed, e, h =>
    (Region.ready .any ops listed = [] → K e h) ∧
    ∀ i ∈ Region.ready .any ops listed, obAt P S kd ops i (anyX P S kd ops K fuel (listed.setIfInBounds i true)) e h

def boundsB (n : Nat) (l : List Oper) : Bool := l.all fun o => notDefer o && match o.dst with | some d => Nat.blt d n | none => true

theorem boundsB_spec {n : Nat} {l : List Oper} (h : boundsB n l = true) {i : Nat} {o : Oper} (hi : l.toArray[i]? = some o) : ∀ d, o.dst = some d → d < n := by
  intro d hd
  have hm : o ∈ l := by
    have : l[i]? = some o := by simpa using hi
    exact List.mem_of_getElem? this
  have := List.all_eq_true.1 h o hm
  rw [hd] at this
  simp only [Bool.and_eq_true, Nat.blt_eq] at this
  exact this.2
theorem boundsB_nd {n : Nat} {l : List Oper} (h : boundsB n l = true) {i : Nat} {o : Oper} (hi : l.toArray[i]? = some o) : notDefer o = true := by
  have hm : o ∈ l := by
    have : l[i]? = some o := by simpa using hi
    exact List.mem_of_getElem? this
  have := List.all_eq_true.1 h o hm
  simp only [Bool.and_eq_true] at this
  exact this.1

theorem wpAny_of_anyX {ro : Option Nat} {ds : List Deferred} {kd : Oper → Kd} {ops : List Oper} {n : Nat} (hb : boundsB n ops = true) {K : Env → Heap → Prop} {w0 : World} {Q : Exit → Act → World → Prop}
    (hQ : ∀ e a w, Fits n ds e a → Qt w0 w → K e w.heap → Q .normal a w) :
    ∀ (fuel : Nat) (listed : Array Bool) (e : Env) (a : Act) (w : World), Fits n ds e a → Qt w0 w → S w.heap → anyX P S kd ops.toArray K fuel listed e w.heap → wpAnyIn (Fc ro) 0 P .any ops.toArray Q fuel listed a w
  | 0, _, e, a, w, hf, hq, _, h => ⟨h.1, hQ e a w hf hq h.2⟩
  | fuel + 1, listed, e, a, w, hf, hq, hS, h => by
    refine ⟨fun h0 => hQ e a w hf hq (h.1 h0), fun i hi => ?_⟩
    have h1 := h.2 i hi
    unfold wpOpIn
    unfold obAt at h1
    cases ho : ops.toArray[i]? with
    | none => simp only [ho] at h1; exact wpAny_of_anyX hb hQ fuel _ e a w hf hq hS h1
    | some o =>
      simp only [ho] at h1
      have hd := boundsB_spec hb ho
      simp only []
      rw [hf.yielded]
      split
      · rename_i hw
        simp only [hw, if_true] at h1
        exact (oper_wp (boundsB_nd hb ho) hS hf rfl h1 fun v w' hq' hs' hk => wpAny_of_anyX hb hQ fuel _ _ _ w' (hf.put _ _ hd) (hq.trans hq') hs' hk)
      · rename_i hw
        simp only [hw] at h1
        exact ⟨fun f _ => trivial, wpAny_of_anyX hb hQ fuel _ _ _ w (hf.put _ _ hd) hq hS h1⟩

/-! ### Any order out of the order of the text -/

theorem putE_ev {e : Env} {dst : Option Nat} {v : Value} {x : Operand} (h : ∀ d, dst = some d → x ≠ .tmp d) : ev (putE e dst v) x = ev e x := by
  cases dst with
  | none => rfl
  | some d =>
    cases x with
    | tmp t => exact upd_other _ _ fun ht => h d rfl (by rw [ht])
    | _ => rfl

theorem execOp_putE {ops : Array Oper} (o : Oper) (hs : ∀ cs b, o.op ≠ .select cs b) (e : Env) (dst : Option Nat) (v : Value) (h : ∀ d, dst = some d → d ∉ o.looksAt ops) :
    execOp (ev (putE e dst v)) o = execOp (ev e) o :=
  execOp_congr o hs fun x hx => putE_ev fun d hd hxd => h d hd (by
    subst hxd
    exact List.mem_append_left _ (List.mem_filterMap.2 ⟨.tmp d, by simpa using hx, rfl⟩))

theorem wanted_putE {ops : Array Oper} (o : Oper) (e : Env) (dst : Option Nat) (v : Value) (h : ∀ d, dst = some d → d ∉ o.looksAt ops) :
    Region.wanted o (yieldE ops (putE e dst v)) = Region.wanted o (yieldE ops e) := by
  cases dst with
  | none => rfl
  | some d =>
    have hd := h d rfl
    cases hg : o.guard with
    | none => simp [Region.wanted, hg]
    | some gw =>
      obtain ⟨g, want⟩ := gw
      simp only [Region.wanted, hg]
      have : yieldE ops (putE e (some d) v) g = yieldE ops e g := by
        unfold yieldE
        cases hb : (ops[g]?).bind (·.dst) with
        | none => rfl
        | some t =>
          simp only []
          have hne : t ≠ d := by
            intro ht
            subst ht
            exact hd (List.mem_append_right _ (by simp [hg, hb]))
          show (match upd e d v t with | .bool b => some b | _ => none) = _
          rw [upd_other _ _ hne]
      rw [this]

theorem upd_comm (e : Env) {d d' : Nat} (v v' : Value) (h : d ≠ d') : upd (upd e d v) d' v' = upd (upd e d' v') d v := by
  funext i
  by_cases h1 : i = d
  · subst h1
    rw [upd_other _ _ h, upd_same, upd_same]
  · by_cases h2 : i = d'
    · subst h2
      rw [upd_same, upd_other _ _ h1, upd_same]
    · rw [upd_other _ _ h2, upd_other _ _ h1, upd_other _ _ h1, upd_other _ _ h2]

theorem putE_comm (e : Env) {x y : Option Nat} (v u : Value) (h : ∀ d, x = some d → y ≠ some d) : putE (putE e x v) y u = putE (putE e y u) x v := by
  cases x with
  | none => rfl
  | some d =>
    cases y with
    | none => rfl
    | some d' => exact upd_comm e v u fun hd => h d rfl (by rw [hd])

/-- Two operations that may change places: one is free, or both read. -/
def commB (kd : Oper → Kd) (x y : Oper) : Bool :=
  match kd x, kd y with
  | .free, _ | _, .free | .read, .read | .read, .new => true
  | _, _ => false

/-- What has been listed is closed under what must come before. -/
def Closed (ops : Array Oper) (listed : Array Bool) : Prop :=
  ∀ j oj, ops[j]? = some oj → listed.getD j false = true → ∀ e ∈ oj.after, Region.binds .any e = true → listed.getD e.on false = true

theorem Closed.set {ops : Array Oper} {listed : Array Bool} (hc : Closed ops listed) {i : Nat} (hi : i ∈ Region.ready .any ops listed) : Closed ops (listed.setIfInBounds i true) := by
  obtain ⟨_, oi, hoi, hall⟩ := mem_ready.1 hi
  intro j oj hj hl e he hb
  by_cases hij : i = j
  · subst hij
    have : oj = oi := Option.some.inj (hj.symm.trans hoi)
    subst this
    exact getD_set_true (hall e he hb)
  · rw [getD_set_ne false hij] at hl
    exact getD_set_true (hc j oj hj hl e he hb)

/-- 'i' must come before 'j', at one or more removes (as many as the fuel). -/
def beforeB (ops : Array Oper) : Nat → Nat → Nat → Bool
  | 0, _, _ => false
  | f + 1, i, j => match ops[j]? with
    | some oj => oj.after.any fun e => Region.binds .any e && (e.on == i || beforeB ops f i e.on)
    | none => false

theorem before_listed {ops : Array Oper} {listed : Array Bool} (hc : Closed ops listed) : ∀ (f i j : Nat) (oj : Oper), ops[j]? = some oj →
    (∀ e ∈ oj.after, Region.binds .any e = true → listed.getD e.on false = true) → beforeB ops f i j = true → listed.getD i false = true
  | 0, _, _, _, _, _, h => by simp [beforeB] at h
  | f + 1, i, j, oj, hj, hall, h => by
    simp only [beforeB, hj] at h
    obtain ⟨e, he, hb⟩ := Array.any_eq_true'.1 h
    simp only [Bool.and_eq_true, Bool.or_eq_true, beq_iff_eq] at hb
    have hl := hall e he hb.1
    rcases hb.2 with h1 | h1
    · rw [← h1]; exact hl
    · cases ho : ops[e.on]? with
      | none => cases f <;> simp [beforeB, ho] at h1
      | some oe => exact before_listed hc f i e.on oe ho (fun e' he' hb' => hc e.on oe ho hl e' he' hb') h1

end

end Go.X
