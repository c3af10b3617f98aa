/-
  The rules for operations that only reckon: moves, picks, arithmetic, comparisons, conversions, tuples.
-/
import Derived.Test.YtdokijbdnajhgaaXCoreC
set_option linter.unusedSimpArgs false
set_option linter.unusedVariables false
namespace Go.X

section
variable {P : Program} {S : Heap → Prop} {kd : Oper → Kd} {ops : Array Oper} {rest : List Oper} {K : Env → Heap → Prop} {L : List (Nat × Value)} {b : Env} {h : Heap}
variable {d : Nat} {t t2 : TypeId} {p : String} {af : Array Edge} {g : Option (Nat × Bool)} {x y z : Operand}

theorem lx_nil (hK : K (ups L b) h) : Lx P S kd ops [] K (ups L b) h := hK

theorem lx_free {op : Op} (v : Value) (hw : Region.wanted ⟨some d, op, t, p, af, g⟩ (yieldE ops (ups L b)) = true) (hv : FreeOb P S ⟨some d, op, t, p, af, g⟩ (ups L b) v)
    (hn : Lx P S kd ops rest K (ups ((d, v) :: L) b) h) : Lx P S kd ops (⟨some d, op, t, p, af, g⟩ :: rest) K (ups L b) h := by
  unfold Lx
  rw [if_pos hw]
  exact ob_of_free v hv hn

theorem lx_skip {op : Op} (hw : Region.wanted ⟨some d, op, t, p, af, g⟩ (yieldE ops (ups L b)) = false)
    (hn : Lx P S kd ops rest K (ups ((d, undef) :: L) b) h) : Lx P S kd ops (⟨some d, op, t, p, af, g⟩ :: rest) K (ups L b) h := by
  unfold Lx
  rw [if_neg (by rw [hw]; simp)]
  exact hn

theorem lx_move (v : Value) (hw : Region.wanted ⟨some d, .move x, t, p, af, g⟩ (yieldE ops (ups L b)) = true) (hx : ev (ups L b) x = v)
    (hn : Lx P S kd ops rest K (ups ((d, v) :: L) b) h) : Lx P S kd ops (⟨some d, .move x, t, p, af, g⟩ :: rest) K (ups L b) h :=
  lx_free v hw (fun w _ => by subst hx; simp [execOp]) hn

theorem lx_assign (v : Value) (hw : Region.wanted ⟨some d, .assign x, t, p, af, g⟩ (yieldE ops (ups L b)) = true) (hx : ev (ups L b) x = v)
    (hn : Lx P S kd ops rest K (ups ((d, v) :: L) b) h) : Lx P S kd ops (⟨some d, .assign x, t, p, af, g⟩ :: rest) K (ups L b) h :=
  lx_free v hw (fun w _ => by subst hx; simp [execOp]) hn

theorem lx_pick (c : Bool) (v : Value) (hw : Region.wanted ⟨some d, .pick x y z, t, p, af, g⟩ (yieldE ops (ups L b)) = true) (hx : ev (ups L b) x = .bool c) (hv : (if c then ev (ups L b) y else ev (ups L b) z) = v)
    (hn : Lx P S kd ops rest K (ups ((d, v) :: L) b) h) : Lx P S kd ops (⟨some d, .pick x y z, t, p, af, g⟩ :: rest) K (ups L b) h :=
  lx_free v hw (fun w _ => by subst hv; simp [execOp, hx, asBool]) hn

theorem lx_nilCheck (a : Addr) (hw : Region.wanted ⟨some d, .nilCheck x, t, p, af, g⟩ (yieldE ops (ups L b)) = true) (hx : ev (ups L b) x = .pointer (some a))
    (hn : Lx P S kd ops rest K (ups ((d, .pointer (some a)) :: L) b) h) : Lx P S kd ops (⟨some d, .nilCheck x, t, p, af, g⟩ :: rest) K (ups L b) h :=
  lx_free _ hw (fun w _ => by simp [execOp, hx]) hn

theorem lx_extract {vs : Array Value} {i : Nat} (v : Value) (hw : Region.wanted ⟨some d, .extract x i, t, p, af, g⟩ (yieldE ops (ups L b)) = true) (hx : ev (ups L b) x = .tuple vs) (hv : vs[i]? = some v)
    (hn : Lx P S kd ops rest K (ups ((d, v) :: L) b) h) : Lx P S kd ops (⟨some d, .extract x i, t, p, af, g⟩ :: rest) K (ups L b) h :=
  lx_free v hw (fun w _ => by simp [execOp, hx, Instr.extract, hv]) hn

theorem lx_makeFunc {fn : Go.Fn} {first cap : Array Operand} (v1 v2 : List Value) (hw : Region.wanted ⟨some d, .makeFunc fn first cap, t, p, af, g⟩ (yieldE ops (ups L b)) = true)
    (h1 : first.toList.map (ev (ups L b)) = v1) (h2 : cap.toList.map (ev (ups L b)) = v2)
    (hn : Lx P S kd ops rest K (ups ((d, .func fn v1.toArray v2.toArray) :: L) b) h) : Lx P S kd ops (⟨some d, .makeFunc fn first cap, t, p, af, g⟩ :: rest) K (ups L b) h :=
  lx_free _ hw (fun w _ => by
    subst h1; subst h2
    have e1 : ∀ A : Array Operand, A.map (ev (ups L b)) = (A.toList.map (ev (ups L b))).toArray := fun A => by rw [← Array.toList_map]
    simp only [execOp, Instr.makeFunc, e1]; rfl) hn

/-! ### Arithmetic -/

variable {tx ty : TypeId}

theorem run_guard_int {w : World} {op : BinOp} {k k' : IntKind} {m n : Int} : (eqGuard op t x y (.int k m) (.int k' n)).run P w = .ok () w := by
  unfold eqGuard
  cases op <;> simp

theorem run_guard_bool {w : World} {op : BinOp} {m n : Bool} : (eqGuard op t x y (.bool m) (.bool n)).run P w = .ok () w := by
  unfold eqGuard
  cases op <;> simp

theorem fo_int {op : BinOp} {e : Env} {k k' : IntKind} {m n : Int} {v : Value} (hx : ev e x = .int k m) (hy : ev e y = .int k' n)
    (hv : ∀ w, (binOp op tx (.int k m) (.int k' n)).run P w = .ok v w) : FreeOb P S ⟨some d, .binOp op tx x y ty, t, p, af, g⟩ e v := by
  intro w _
  simp only [execOp, hx, hy, Sem.run_bind, run_guard_int, Result.andThen_ok, hv, Sem.run_pure]

end

theorem wrap_i64 {r : Int} (h1 : -9223372036854775808 ≤ r) (h2 : r ≤ 9223372036854775807) : IntKind.i64.wrap r = r := by
  rw [IntKind.wrap_i64]
  omega
theorem wrap_u64 {r : Int} (h1 : 0 ≤ r) (h2 : r < 18446744073709551616) : IntKind.u64.wrap r = r := by
  have e : IntKind.u64.wrap r = r % 18446744073709551616 := by
    unfold IntKind.wrap IntKind.signed IntKind.bits
    simp
  rw [e]
  omega
theorem wrap_u64' (r : Int) : IntKind.u64.wrap r = r % 18446744073709551616 := by
  unfold IntKind.wrap IntKind.signed IntKind.bits
  simp

theorem tdiv_cast (m n : Nat) : ((m : Int)).tdiv (n : Int) = ((m / n : Nat) : Int) := by
  rw [Int.tdiv_eq_ediv_of_nonneg (by omega)]; rfl
theorem tmod_cast (m n : Nat) : ((m : Int)).tmod (n : Int) = ((m % n : Nat) : Int) := by
  rw [Int.tmod_eq_emod_of_nonneg (by omega)]; rfl

/-- What 'uint(n)' is. -/
def ur (m : Int) : Nat := (m % 18446744073709551616).toNat
theorem ur_cast (m : Int) : ((ur m : Nat) : Int) = m % 18446744073709551616 := by
  unfold ur
  omega
theorem ur_lt (m : Int) : ur m < 18446744073709551616 := by
  have := ur_cast m
  omega
theorem ur_nat {m : Nat} (h : m < 18446744073709551616) : ur (m : Int) = m := by
  have := ur_cast (m : Int)
  omega

theorem wrap_ur (m : Int) : IntKind.u64.wrap m = ((ur m : Nat) : Int) := by rw [wrap_u64', ur_cast]
theorem wrap_quo_i64 {m n : Nat} (h : m ≤ 9223372036854775807) : IntKind.i64.wrap ((m / n : Nat) : Int) = ((m / n : Nat) : Int) := by
  have := Nat.div_le_self m n
  generalize m / n = q at *
  exact wrap_i64 (by omega) (by omega)
theorem wrap_quo_u64 {m n : Nat} (h : m < 18446744073709551616) : IntKind.u64.wrap ((m / n : Nat) : Int) = ((m / n : Nat) : Int) := by
  have := Nat.div_le_self m n
  generalize m / n = q at *
  exact wrap_u64 (by omega) (by omega)

section
variable {P : Program} {S : Heap → Prop} {kd : Oper → Kd} {ops : Array Oper} {rest : List Oper} {K : Env → Heap → Prop} {L : List (Nat × Value)} {b : Env} {h : Heap}
variable {d : Nat} {t tx ty : TypeId} {p : String} {af : Array Edge} {g : Option (Nat × Bool)} {x y z : Operand}

theorem lx_add {m n : Int} (r : Int) (hw : Region.wanted ⟨some d, .binOp .add tx x y ty, t, p, af, g⟩ (yieldE ops (ups L b)) = true) (hx : ev (ups L b) x = .int .i64 m) (hy : ev (ups L b) y = .int .i64 n) (hr : m + n = r) (hlo : -9223372036854775808 ≤ r) (hhi : r ≤ 9223372036854775807)
    (hn : Lx P S kd ops rest K (ups ((d, .int .i64 r) :: L) b) h) : Lx P S kd ops (⟨some d, .binOp .add tx x y ty, t, p, af, g⟩ :: rest) K (ups L b) h :=
  lx_free _ hw (fo_int hx hy fun w => by subst hr; simp [binOp, Op.intArith, wrap_i64 hlo hhi]) hn
theorem lx_addW {k : IntKind} {m n : Int} (hw : Region.wanted ⟨some d, .binOp .add tx x y ty, t, p, af, g⟩ (yieldE ops (ups L b)) = true) (hx : ev (ups L b) x = .int k m) (hy : ev (ups L b) y = .int k n)
    (hn : Lx P S kd ops rest K (ups ((d, .int k (k.wrap (m + n))) :: L) b) h) : Lx P S kd ops (⟨some d, .binOp .add tx x y ty, t, p, af, g⟩ :: rest) K (ups L b) h :=
  lx_free _ hw (fo_int hx hy fun w => by simp [binOp, Op.intArith]) hn
theorem lx_sub {m n : Int} (r : Int) (hw : Region.wanted ⟨some d, .binOp .sub tx x y ty, t, p, af, g⟩ (yieldE ops (ups L b)) = true) (hx : ev (ups L b) x = .int .i64 m) (hy : ev (ups L b) y = .int .i64 n) (hr : m - n = r) (hlo : -9223372036854775808 ≤ r) (hhi : r ≤ 9223372036854775807)
    (hn : Lx P S kd ops rest K (ups ((d, .int .i64 r) :: L) b) h) : Lx P S kd ops (⟨some d, .binOp .sub tx x y ty, t, p, af, g⟩ :: rest) K (ups L b) h :=
  lx_free _ hw (fo_int hx hy fun w => by subst hr; simp [binOp, Op.intArith, wrap_i64 hlo hhi]) hn
theorem lx_subW {k : IntKind} {m n : Int} (hw : Region.wanted ⟨some d, .binOp .sub tx x y ty, t, p, af, g⟩ (yieldE ops (ups L b)) = true) (hx : ev (ups L b) x = .int k m) (hy : ev (ups L b) y = .int k n)
    (hn : Lx P S kd ops rest K (ups ((d, .int k (k.wrap (m - n))) :: L) b) h) : Lx P S kd ops (⟨some d, .binOp .sub tx x y ty, t, p, af, g⟩ :: rest) K (ups L b) h :=
  lx_free _ hw (fo_int hx hy fun w => by simp [binOp, Op.intArith]) hn
theorem lx_mul {m n : Int} (r : Int) (hw : Region.wanted ⟨some d, .binOp .mul tx x y ty, t, p, af, g⟩ (yieldE ops (ups L b)) = true) (hx : ev (ups L b) x = .int .i64 m) (hy : ev (ups L b) y = .int .i64 n) (hr : m * n = r) (hlo : -9223372036854775808 ≤ r) (hhi : r ≤ 9223372036854775807)
    (hn : Lx P S kd ops rest K (ups ((d, .int .i64 r) :: L) b) h) : Lx P S kd ops (⟨some d, .binOp .mul tx x y ty, t, p, af, g⟩ :: rest) K (ups L b) h :=
  lx_free _ hw (fo_int hx hy fun w => by subst hr; simp [binOp, Op.intArith, wrap_i64 hlo hhi]) hn
theorem lx_mulW {k : IntKind} {m n : Int} (hw : Region.wanted ⟨some d, .binOp .mul tx x y ty, t, p, af, g⟩ (yieldE ops (ups L b)) = true) (hx : ev (ups L b) x = .int k m) (hy : ev (ups L b) y = .int k n)
    (hn : Lx P S kd ops rest K (ups ((d, .int k (k.wrap (m * n))) :: L) b) h) : Lx P S kd ops (⟨some d, .binOp .mul tx x y ty, t, p, af, g⟩ :: rest) K (ups L b) h :=
  lx_free _ hw (fo_int hx hy fun w => by simp [binOp, Op.intArith]) hn
theorem lx_quo {k : IntKind} {m n : Nat} (hw : Region.wanted ⟨some d, .binOp .quo tx x y ty, t, p, af, g⟩ (yieldE ops (ups L b)) = true) (hx : ev (ups L b) x = .int k ((m : Nat) : Int)) (hy : ev (ups L b) y = .int k ((n : Nat) : Int)) (h0 : 0 < n) (hr : k.wrap ((m / n : Nat) : Int) = ((m / n : Nat) : Int))
    (hn : Lx P S kd ops rest K (ups ((d, .int k ((m / n : Nat) : Int)) :: L) b) h) : Lx P S kd ops (⟨some d, .binOp .quo tx x y ty, t, p, af, g⟩ :: rest) K (ups L b) h :=
  lx_free _ hw (fo_int hx hy fun w => by
    have h0' : ¬ ((n : Int) = 0) := by omega
    simp only [binOp, Op.intDiv, ne_eq, not_true_eq_false, if_false, h0', tdiv_cast, hr]
    simp) hn
theorem lx_rem {k : IntKind} {m n : Nat} (hw : Region.wanted ⟨some d, .binOp .rem tx x y ty, t, p, af, g⟩ (yieldE ops (ups L b)) = true) (hx : ev (ups L b) x = .int k ((m : Nat) : Int)) (hy : ev (ups L b) y = .int k ((n : Nat) : Int)) (h0 : 0 < n)
    (hn : Lx P S kd ops rest K (ups ((d, .int k ((m % n : Nat) : Int)) :: L) b) h) : Lx P S kd ops (⟨some d, .binOp .rem tx x y ty, t, p, af, g⟩ :: rest) K (ups L b) h :=
  lx_free _ hw (fo_int hx hy fun w => by
    have h0' : ¬ ((n : Int) = 0) := by omega
    simp only [binOp, Op.intDiv, ne_eq, not_true_eq_false, if_false, h0', tmod_cast]
    simp) hn
theorem lx_remZ {k : IntKind} {m n : Int} (hw : Region.wanted ⟨some d, .binOp .rem tx x y ty, t, p, af, g⟩ (yieldE ops (ups L b)) = true) (hx : ev (ups L b) x = .int k m) (hy : ev (ups L b) y = .int k n) (h0 : n ≠ 0)
    (hn : Lx P S kd ops rest K (ups ((d, .int k (m.tmod n)) :: L) b) h) : Lx P S kd ops (⟨some d, .binOp .rem tx x y ty, t, p, af, g⟩ :: rest) K (ups L b) h :=
  lx_free _ hw (fo_int hx hy fun w => by
    simp only [binOp, Op.intDiv, ne_eq, not_true_eq_false, if_false, h0]
    simp) hn
theorem lx_quoZ {k : IntKind} {m n : Int} (hw : Region.wanted ⟨some d, .binOp .quo tx x y ty, t, p, af, g⟩ (yieldE ops (ups L b)) = true) (hx : ev (ups L b) x = .int k m) (hy : ev (ups L b) y = .int k n) (h0 : n ≠ 0)
    (hn : Lx P S kd ops rest K (ups ((d, .int k (k.wrap (m.tdiv n))) :: L) b) h) : Lx P S kd ops (⟨some d, .binOp .quo tx x y ty, t, p, af, g⟩ :: rest) K (ups L b) h :=
  lx_free _ hw (fo_int hx hy fun w => by
    simp only [binOp, Op.intDiv, ne_eq, not_true_eq_false, if_false, h0]
    simp) hn
theorem lx_lss {k : IntKind} {m n : Int} (hw : Region.wanted ⟨some d, .binOp .lss tx x y ty, t, p, af, g⟩ (yieldE ops (ups L b)) = true) (hx : ev (ups L b) x = .int k m) (hy : ev (ups L b) y = .int k n)
    (hn : Lx P S kd ops rest K (ups ((d, .bool (decide (m < n))) :: L) b) h) : Lx P S kd ops (⟨some d, .binOp .lss tx x y ty, t, p, af, g⟩ :: rest) K (ups L b) h :=
  lx_free _ hw (fo_int hx hy fun w => by simp [binOp, Op.intCmp]) hn
theorem lx_lssB {k : IntKind} {m n : Int} (c : Bool) (hw : Region.wanted ⟨some d, .binOp .lss tx x y ty, t, p, af, g⟩ (yieldE ops (ups L b)) = true) (hx : ev (ups L b) x = .int k m) (hy : ev (ups L b) y = .int k n) (hc : decide (m < n) = c)
    (hn : Lx P S kd ops rest K (ups ((d, .bool c) :: L) b) h) : Lx P S kd ops (⟨some d, .binOp .lss tx x y ty, t, p, af, g⟩ :: rest) K (ups L b) h := by
  subst hc
  exact lx_lss hw hx hy hn
theorem lx_lssT {k : IntKind} {m n : Int} (hw : Region.wanted ⟨some d, .binOp .lss tx x y ty, t, p, af, g⟩ (yieldE ops (ups L b)) = true) (hx : ev (ups L b) x = .int k m) (hy : ev (ups L b) y = .int k n) (hc : m < n)
    (hn : Lx P S kd ops rest K (ups ((d, .bool true) :: L) b) h) : Lx P S kd ops (⟨some d, .binOp .lss tx x y ty, t, p, af, g⟩ :: rest) K (ups L b) h :=
  lx_lssB true hw hx hy (decide_eq_true hc) hn
theorem lx_lssF {k : IntKind} {m n : Int} (hw : Region.wanted ⟨some d, .binOp .lss tx x y ty, t, p, af, g⟩ (yieldE ops (ups L b)) = true) (hx : ev (ups L b) x = .int k m) (hy : ev (ups L b) y = .int k n) (hc : ¬ (m < n))
    (hn : Lx P S kd ops rest K (ups ((d, .bool false) :: L) b) h) : Lx P S kd ops (⟨some d, .binOp .lss tx x y ty, t, p, af, g⟩ :: rest) K (ups L b) h :=
  lx_lssB false hw hx hy (decide_eq_false hc) hn
theorem lx_lssS {k : IntKind} {m n : Int} (hw : Region.wanted ⟨some d, .binOp .lss tx x y ty, t, p, af, g⟩ (yieldE ops (ups L b)) = true) (hx : ev (ups L b) x = .int k m) (hy : ev (ups L b) y = .int k n)
    (h1 : m < n → Lx P S kd ops rest K (ups ((d, .bool true) :: L) b) h) (h2 : ¬ (m < n) → Lx P S kd ops rest K (ups ((d, .bool false) :: L) b) h) : Lx P S kd ops (⟨some d, .binOp .lss tx x y ty, t, p, af, g⟩ :: rest) K (ups L b) h := by
  by_cases hc : m < n
  · exact lx_lssT hw hx hy hc (h1 hc)
  · exact lx_lssF hw hx hy hc (h2 hc)
theorem lx_leq {k : IntKind} {m n : Int} (hw : Region.wanted ⟨some d, .binOp .leq tx x y ty, t, p, af, g⟩ (yieldE ops (ups L b)) = true) (hx : ev (ups L b) x = .int k m) (hy : ev (ups L b) y = .int k n)
    (hn : Lx P S kd ops rest K (ups ((d, .bool (decide (m ≤ n))) :: L) b) h) : Lx P S kd ops (⟨some d, .binOp .leq tx x y ty, t, p, af, g⟩ :: rest) K (ups L b) h :=
  lx_free _ hw (fo_int hx hy fun w => by simp [binOp, Op.intCmp]) hn
theorem lx_leqB {k : IntKind} {m n : Int} (c : Bool) (hw : Region.wanted ⟨some d, .binOp .leq tx x y ty, t, p, af, g⟩ (yieldE ops (ups L b)) = true) (hx : ev (ups L b) x = .int k m) (hy : ev (ups L b) y = .int k n) (hc : decide (m ≤ n) = c)
    (hn : Lx P S kd ops rest K (ups ((d, .bool c) :: L) b) h) : Lx P S kd ops (⟨some d, .binOp .leq tx x y ty, t, p, af, g⟩ :: rest) K (ups L b) h := by
  subst hc
  exact lx_leq hw hx hy hn
theorem lx_leqT {k : IntKind} {m n : Int} (hw : Region.wanted ⟨some d, .binOp .leq tx x y ty, t, p, af, g⟩ (yieldE ops (ups L b)) = true) (hx : ev (ups L b) x = .int k m) (hy : ev (ups L b) y = .int k n) (hc : m ≤ n)
    (hn : Lx P S kd ops rest K (ups ((d, .bool true) :: L) b) h) : Lx P S kd ops (⟨some d, .binOp .leq tx x y ty, t, p, af, g⟩ :: rest) K (ups L b) h :=
  lx_leqB true hw hx hy (decide_eq_true hc) hn
theorem lx_leqF {k : IntKind} {m n : Int} (hw : Region.wanted ⟨some d, .binOp .leq tx x y ty, t, p, af, g⟩ (yieldE ops (ups L b)) = true) (hx : ev (ups L b) x = .int k m) (hy : ev (ups L b) y = .int k n) (hc : ¬ (m ≤ n))
    (hn : Lx P S kd ops rest K (ups ((d, .bool false) :: L) b) h) : Lx P S kd ops (⟨some d, .binOp .leq tx x y ty, t, p, af, g⟩ :: rest) K (ups L b) h :=
  lx_leqB false hw hx hy (decide_eq_false hc) hn
theorem lx_leqS {k : IntKind} {m n : Int} (hw : Region.wanted ⟨some d, .binOp .leq tx x y ty, t, p, af, g⟩ (yieldE ops (ups L b)) = true) (hx : ev (ups L b) x = .int k m) (hy : ev (ups L b) y = .int k n)
    (h1 : m ≤ n → Lx P S kd ops rest K (ups ((d, .bool true) :: L) b) h) (h2 : ¬ (m ≤ n) → Lx P S kd ops rest K (ups ((d, .bool false) :: L) b) h) : Lx P S kd ops (⟨some d, .binOp .leq tx x y ty, t, p, af, g⟩ :: rest) K (ups L b) h := by
  by_cases hc : m ≤ n
  · exact lx_leqT hw hx hy hc (h1 hc)
  · exact lx_leqF hw hx hy hc (h2 hc)
theorem lx_gtr {k : IntKind} {m n : Int} (hw : Region.wanted ⟨some d, .binOp .gtr tx x y ty, t, p, af, g⟩ (yieldE ops (ups L b)) = true) (hx : ev (ups L b) x = .int k m) (hy : ev (ups L b) y = .int k n)
    (hn : Lx P S kd ops rest K (ups ((d, .bool (decide (n < m))) :: L) b) h) : Lx P S kd ops (⟨some d, .binOp .gtr tx x y ty, t, p, af, g⟩ :: rest) K (ups L b) h :=
  lx_free _ hw (fo_int hx hy fun w => by simp [binOp, Op.intCmp]) hn
theorem lx_gtrB {k : IntKind} {m n : Int} (c : Bool) (hw : Region.wanted ⟨some d, .binOp .gtr tx x y ty, t, p, af, g⟩ (yieldE ops (ups L b)) = true) (hx : ev (ups L b) x = .int k m) (hy : ev (ups L b) y = .int k n) (hc : decide (n < m) = c)
    (hn : Lx P S kd ops rest K (ups ((d, .bool c) :: L) b) h) : Lx P S kd ops (⟨some d, .binOp .gtr tx x y ty, t, p, af, g⟩ :: rest) K (ups L b) h := by
  subst hc
  exact lx_gtr hw hx hy hn
theorem lx_gtrT {k : IntKind} {m n : Int} (hw : Region.wanted ⟨some d, .binOp .gtr tx x y ty, t, p, af, g⟩ (yieldE ops (ups L b)) = true) (hx : ev (ups L b) x = .int k m) (hy : ev (ups L b) y = .int k n) (hc : n < m)
    (hn : Lx P S kd ops rest K (ups ((d, .bool true) :: L) b) h) : Lx P S kd ops (⟨some d, .binOp .gtr tx x y ty, t, p, af, g⟩ :: rest) K (ups L b) h :=
  lx_gtrB true hw hx hy (decide_eq_true hc) hn
theorem lx_gtrF {k : IntKind} {m n : Int} (hw : Region.wanted ⟨some d, .binOp .gtr tx x y ty, t, p, af, g⟩ (yieldE ops (ups L b)) = true) (hx : ev (ups L b) x = .int k m) (hy : ev (ups L b) y = .int k n) (hc : ¬ (n < m))
    (hn : Lx P S kd ops rest K (ups ((d, .bool false) :: L) b) h) : Lx P S kd ops (⟨some d, .binOp .gtr tx x y ty, t, p, af, g⟩ :: rest) K (ups L b) h :=
  lx_gtrB false hw hx hy (decide_eq_false hc) hn
theorem lx_gtrS {k : IntKind} {m n : Int} (hw : Region.wanted ⟨some d, .binOp .gtr tx x y ty, t, p, af, g⟩ (yieldE ops (ups L b)) = true) (hx : ev (ups L b) x = .int k m) (hy : ev (ups L b) y = .int k n)
    (h1 : n < m → Lx P S kd ops rest K (ups ((d, .bool true) :: L) b) h) (h2 : ¬ (n < m) → Lx P S kd ops rest K (ups ((d, .bool false) :: L) b) h) : Lx P S kd ops (⟨some d, .binOp .gtr tx x y ty, t, p, af, g⟩ :: rest) K (ups L b) h := by
  by_cases hc : n < m
  · exact lx_gtrT hw hx hy hc (h1 hc)
  · exact lx_gtrF hw hx hy hc (h2 hc)
theorem lx_geq {k : IntKind} {m n : Int} (hw : Region.wanted ⟨some d, .binOp .geq tx x y ty, t, p, af, g⟩ (yieldE ops (ups L b)) = true) (hx : ev (ups L b) x = .int k m) (hy : ev (ups L b) y = .int k n)
    (hn : Lx P S kd ops rest K (ups ((d, .bool (decide (n ≤ m))) :: L) b) h) : Lx P S kd ops (⟨some d, .binOp .geq tx x y ty, t, p, af, g⟩ :: rest) K (ups L b) h :=
  lx_free _ hw (fo_int hx hy fun w => by simp [binOp, Op.intCmp]) hn
theorem lx_geqB {k : IntKind} {m n : Int} (c : Bool) (hw : Region.wanted ⟨some d, .binOp .geq tx x y ty, t, p, af, g⟩ (yieldE ops (ups L b)) = true) (hx : ev (ups L b) x = .int k m) (hy : ev (ups L b) y = .int k n) (hc : decide (n ≤ m) = c)
    (hn : Lx P S kd ops rest K (ups ((d, .bool c) :: L) b) h) : Lx P S kd ops (⟨some d, .binOp .geq tx x y ty, t, p, af, g⟩ :: rest) K (ups L b) h := by
  subst hc
  exact lx_geq hw hx hy hn
theorem lx_geqT {k : IntKind} {m n : Int} (hw : Region.wanted ⟨some d, .binOp .geq tx x y ty, t, p, af, g⟩ (yieldE ops (ups L b)) = true) (hx : ev (ups L b) x = .int k m) (hy : ev (ups L b) y = .int k n) (hc : n ≤ m)
    (hn : Lx P S kd ops rest K (ups ((d, .bool true) :: L) b) h) : Lx P S kd ops (⟨some d, .binOp .geq tx x y ty, t, p, af, g⟩ :: rest) K (ups L b) h :=
  lx_geqB true hw hx hy (decide_eq_true hc) hn
theorem lx_geqF {k : IntKind} {m n : Int} (hw : Region.wanted ⟨some d, .binOp .geq tx x y ty, t, p, af, g⟩ (yieldE ops (ups L b)) = true) (hx : ev (ups L b) x = .int k m) (hy : ev (ups L b) y = .int k n) (hc : ¬ (n ≤ m))
    (hn : Lx P S kd ops rest K (ups ((d, .bool false) :: L) b) h) : Lx P S kd ops (⟨some d, .binOp .geq tx x y ty, t, p, af, g⟩ :: rest) K (ups L b) h :=
  lx_geqB false hw hx hy (decide_eq_false hc) hn
theorem lx_geqS {k : IntKind} {m n : Int} (hw : Region.wanted ⟨some d, .binOp .geq tx x y ty, t, p, af, g⟩ (yieldE ops (ups L b)) = true) (hx : ev (ups L b) x = .int k m) (hy : ev (ups L b) y = .int k n)
    (h1 : n ≤ m → Lx P S kd ops rest K (ups ((d, .bool true) :: L) b) h) (h2 : ¬ (n ≤ m) → Lx P S kd ops rest K (ups ((d, .bool false) :: L) b) h) : Lx P S kd ops (⟨some d, .binOp .geq tx x y ty, t, p, af, g⟩ :: rest) K (ups L b) h := by
  by_cases hc : n ≤ m
  · exact lx_geqT hw hx hy hc (h1 hc)
  · exact lx_geqF hw hx hy hc (h2 hc)
theorem lx_eql {k : IntKind} {m n : Int} (hw : Region.wanted ⟨some d, .binOp .eql tx x y ty, t, p, af, g⟩ (yieldE ops (ups L b)) = true) (hx : ev (ups L b) x = .int k m) (hy : ev (ups L b) y = .int k n)
    (hn : Lx P S kd ops rest K (ups ((d, .bool (decide (m = n))) :: L) b) h) : Lx P S kd ops (⟨some d, .binOp .eql tx x y ty, t, p, af, g⟩ :: rest) K (ups L b) h :=
  lx_free _ hw (fo_int hx hy fun w => by
    have : (m == n) = decide (m = n) := by rw [Bool.eq_iff_iff]; simp
    simp [binOp, Op.intCmp, this]) hn
theorem lx_eqlB {k : IntKind} {m n : Int} (c : Bool) (hw : Region.wanted ⟨some d, .binOp .eql tx x y ty, t, p, af, g⟩ (yieldE ops (ups L b)) = true) (hx : ev (ups L b) x = .int k m) (hy : ev (ups L b) y = .int k n) (hc : decide (m = n) = c)
    (hn : Lx P S kd ops rest K (ups ((d, .bool c) :: L) b) h) : Lx P S kd ops (⟨some d, .binOp .eql tx x y ty, t, p, af, g⟩ :: rest) K (ups L b) h := by
  subst hc
  exact lx_eql hw hx hy hn
theorem lx_eqlT {k : IntKind} {m n : Int} (hw : Region.wanted ⟨some d, .binOp .eql tx x y ty, t, p, af, g⟩ (yieldE ops (ups L b)) = true) (hx : ev (ups L b) x = .int k m) (hy : ev (ups L b) y = .int k n) (hc : m = n)
    (hn : Lx P S kd ops rest K (ups ((d, .bool true) :: L) b) h) : Lx P S kd ops (⟨some d, .binOp .eql tx x y ty, t, p, af, g⟩ :: rest) K (ups L b) h :=
  lx_eqlB true hw hx hy (decide_eq_true hc) hn
theorem lx_eqlF {k : IntKind} {m n : Int} (hw : Region.wanted ⟨some d, .binOp .eql tx x y ty, t, p, af, g⟩ (yieldE ops (ups L b)) = true) (hx : ev (ups L b) x = .int k m) (hy : ev (ups L b) y = .int k n) (hc : ¬ (m = n))
    (hn : Lx P S kd ops rest K (ups ((d, .bool false) :: L) b) h) : Lx P S kd ops (⟨some d, .binOp .eql tx x y ty, t, p, af, g⟩ :: rest) K (ups L b) h :=
  lx_eqlB false hw hx hy (decide_eq_false hc) hn
theorem lx_eqlS {k : IntKind} {m n : Int} (hw : Region.wanted ⟨some d, .binOp .eql tx x y ty, t, p, af, g⟩ (yieldE ops (ups L b)) = true) (hx : ev (ups L b) x = .int k m) (hy : ev (ups L b) y = .int k n)
    (h1 : m = n → Lx P S kd ops rest K (ups ((d, .bool true) :: L) b) h) (h2 : ¬ (m = n) → Lx P S kd ops rest K (ups ((d, .bool false) :: L) b) h) : Lx P S kd ops (⟨some d, .binOp .eql tx x y ty, t, p, af, g⟩ :: rest) K (ups L b) h := by
  by_cases hc : m = n
  · exact lx_eqlT hw hx hy hc (h1 hc)
  · exact lx_eqlF hw hx hy hc (h2 hc)
theorem lx_neq {k : IntKind} {m n : Int} (hw : Region.wanted ⟨some d, .binOp .neq tx x y ty, t, p, af, g⟩ (yieldE ops (ups L b)) = true) (hx : ev (ups L b) x = .int k m) (hy : ev (ups L b) y = .int k n)
    (hn : Lx P S kd ops rest K (ups ((d, .bool (decide (m ≠ n))) :: L) b) h) : Lx P S kd ops (⟨some d, .binOp .neq tx x y ty, t, p, af, g⟩ :: rest) K (ups L b) h :=
  lx_free _ hw (fo_int hx hy fun w => by
    have : (m != n) = decide (m ≠ n) := by rw [Bool.eq_iff_iff]; simp
    simp [binOp, Op.intCmp, this]) hn
theorem lx_neqB {k : IntKind} {m n : Int} (c : Bool) (hw : Region.wanted ⟨some d, .binOp .neq tx x y ty, t, p, af, g⟩ (yieldE ops (ups L b)) = true) (hx : ev (ups L b) x = .int k m) (hy : ev (ups L b) y = .int k n) (hc : decide (m ≠ n) = c)
    (hn : Lx P S kd ops rest K (ups ((d, .bool c) :: L) b) h) : Lx P S kd ops (⟨some d, .binOp .neq tx x y ty, t, p, af, g⟩ :: rest) K (ups L b) h := by
  subst hc
  exact lx_neq hw hx hy hn
theorem lx_neqT {k : IntKind} {m n : Int} (hw : Region.wanted ⟨some d, .binOp .neq tx x y ty, t, p, af, g⟩ (yieldE ops (ups L b)) = true) (hx : ev (ups L b) x = .int k m) (hy : ev (ups L b) y = .int k n) (hc : m ≠ n)
    (hn : Lx P S kd ops rest K (ups ((d, .bool true) :: L) b) h) : Lx P S kd ops (⟨some d, .binOp .neq tx x y ty, t, p, af, g⟩ :: rest) K (ups L b) h :=
  lx_neqB true hw hx hy (decide_eq_true hc) hn
theorem lx_neqF {k : IntKind} {m n : Int} (hw : Region.wanted ⟨some d, .binOp .neq tx x y ty, t, p, af, g⟩ (yieldE ops (ups L b)) = true) (hx : ev (ups L b) x = .int k m) (hy : ev (ups L b) y = .int k n) (hc : ¬ (m ≠ n))
    (hn : Lx P S kd ops rest K (ups ((d, .bool false) :: L) b) h) : Lx P S kd ops (⟨some d, .binOp .neq tx x y ty, t, p, af, g⟩ :: rest) K (ups L b) h :=
  lx_neqB false hw hx hy (decide_eq_false hc) hn
theorem lx_neqS {k : IntKind} {m n : Int} (hw : Region.wanted ⟨some d, .binOp .neq tx x y ty, t, p, af, g⟩ (yieldE ops (ups L b)) = true) (hx : ev (ups L b) x = .int k m) (hy : ev (ups L b) y = .int k n)
    (h1 : m ≠ n → Lx P S kd ops rest K (ups ((d, .bool true) :: L) b) h) (h2 : ¬ (m ≠ n) → Lx P S kd ops rest K (ups ((d, .bool false) :: L) b) h) : Lx P S kd ops (⟨some d, .binOp .neq tx x y ty, t, p, af, g⟩ :: rest) K (ups L b) h := by
  by_cases hc : m ≠ n
  · exact lx_neqT hw hx hy hc (h1 hc)
  · exact lx_neqF hw hx hy hc (h2 hc)

/-! ### Bits of numbers that are not negative -/

theorem bv_nat (k : IntKind) (m : Nat) : BitVec.ofInt k.bits (m : Int) = BitVec.ofNat k.bits m := by simp

theorem back_and {k : IntKind} {m n : Nat} (hm : m < 2 ^ k.bits) (hn : n < 2 ^ k.bits) : ((BitVec.ofInt k.bits (m : Int) &&& BitVec.ofInt k.bits (n : Int)).toNat : Nat) = (m &&& n : Nat) := by
  simp [BitVec.toNat_and, Nat.mod_eq_of_lt hm, Nat.mod_eq_of_lt hn]
theorem back_or {k : IntKind} {m n : Nat} (hm : m < 2 ^ k.bits) (hn : n < 2 ^ k.bits) : ((BitVec.ofInt k.bits (m : Int) ||| BitVec.ofInt k.bits (n : Int)).toNat : Nat) = (m ||| n : Nat) := by
  simp [BitVec.toNat_or, Nat.mod_eq_of_lt hm, Nat.mod_eq_of_lt hn]
theorem back_xor {k : IntKind} {m n : Nat} (hm : m < 2 ^ k.bits) (hn : n < 2 ^ k.bits) : ((BitVec.ofInt k.bits (m : Int) ^^^ BitVec.ofInt k.bits (n : Int)).toNat : Nat) = (m ^^^ n : Nat) := by
  simp [BitVec.toNat_xor, Nat.mod_eq_of_lt hm, Nat.mod_eq_of_lt hn]
/-- 'm &^ n'. -/
def andNot (m n : Nat) : Nat := m ^^^ (m &&& n)
theorem testBit_andNot (m n i : Nat) : (andNot m n).testBit i = (m.testBit i && !n.testBit i) := by
  simp only [andNot, Nat.testBit_xor, Nat.testBit_and]
  cases m.testBit i <;> cases n.testBit i <;> rfl
theorem back_andNot {k : IntKind} {m n : Nat} (hm : m < 2 ^ k.bits) (_hn : n < 2 ^ k.bits) : ((BitVec.ofInt k.bits (m : Int) &&& ~~~ BitVec.ofInt k.bits (n : Int)).toNat : Nat) = andNot m n := by
  apply Nat.eq_of_testBit_eq
  intro i
  rw [testBit_andNot]
  simp only [BitVec.toNat_and, Nat.testBit_and, bv_nat, BitVec.testBit_toNat, BitVec.toNat_ofNat, Nat.mod_eq_of_lt hm]
  rw [BitVec.getLsbD_not, BitVec.getLsbD_ofNat]
  by_cases hi : i < k.bits
  · simp [hi]
  · have : m.testBit i = false := Nat.testBit_lt_two_pow (Nat.lt_of_lt_of_le hm (Nat.pow_le_pow_right (by omega) (by omega)))
    simp [this]

theorem lx_and {k : IntKind} {m n : Nat} (hw : Region.wanted ⟨some d, .binOp .and tx x y ty, t, p, af, g⟩ (yieldE ops (ups L b)) = true) (hx : ev (ups L b) x = .int k ((m : Nat) : Int)) (hy : ev (ups L b) y = .int k ((n : Nat) : Int)) (hm : m < 2 ^ k.bits) (hn' : n < 2 ^ k.bits) (hr : k.wrap (((m &&& n : Nat) : Nat) : Int) = (((m &&& n : Nat) : Nat) : Int))
    (hn : Lx P S kd ops rest K (ups ((d, .int k (((m &&& n : Nat) : Nat) : Int)) :: L) b) h) : Lx P S kd ops (⟨some d, .binOp .and tx x y ty, t, p, af, g⟩ :: rest) K (ups L b) h :=
  lx_free _ hw (fo_int hx hy fun w => by
    simp only [binOp, Op.intBits, ne_eq, not_true_eq_false, if_false, back_and hm hn', hr]
    simp) hn
theorem lx_or {k : IntKind} {m n : Nat} (hw : Region.wanted ⟨some d, .binOp .or tx x y ty, t, p, af, g⟩ (yieldE ops (ups L b)) = true) (hx : ev (ups L b) x = .int k ((m : Nat) : Int)) (hy : ev (ups L b) y = .int k ((n : Nat) : Int)) (hm : m < 2 ^ k.bits) (hn' : n < 2 ^ k.bits) (hr : k.wrap (((m ||| n : Nat) : Nat) : Int) = (((m ||| n : Nat) : Nat) : Int))
    (hn : Lx P S kd ops rest K (ups ((d, .int k (((m ||| n : Nat) : Nat) : Int)) :: L) b) h) : Lx P S kd ops (⟨some d, .binOp .or tx x y ty, t, p, af, g⟩ :: rest) K (ups L b) h :=
  lx_free _ hw (fo_int hx hy fun w => by
    simp only [binOp, Op.intBits, ne_eq, not_true_eq_false, if_false, back_or hm hn', hr]
    simp) hn
theorem lx_xor {k : IntKind} {m n : Nat} (hw : Region.wanted ⟨some d, .binOp .xor tx x y ty, t, p, af, g⟩ (yieldE ops (ups L b)) = true) (hx : ev (ups L b) x = .int k ((m : Nat) : Int)) (hy : ev (ups L b) y = .int k ((n : Nat) : Int)) (hm : m < 2 ^ k.bits) (hn' : n < 2 ^ k.bits) (hr : k.wrap (((m ^^^ n : Nat) : Nat) : Int) = (((m ^^^ n : Nat) : Nat) : Int))
    (hn : Lx P S kd ops rest K (ups ((d, .int k (((m ^^^ n : Nat) : Nat) : Int)) :: L) b) h) : Lx P S kd ops (⟨some d, .binOp .xor tx x y ty, t, p, af, g⟩ :: rest) K (ups L b) h :=
  lx_free _ hw (fo_int hx hy fun w => by
    simp only [binOp, Op.intBits, ne_eq, not_true_eq_false, if_false, back_xor hm hn', hr]
    simp) hn
theorem lx_andNot {k : IntKind} {m n : Nat} (hw : Region.wanted ⟨some d, .binOp .andNot tx x y ty, t, p, af, g⟩ (yieldE ops (ups L b)) = true) (hx : ev (ups L b) x = .int k ((m : Nat) : Int)) (hy : ev (ups L b) y = .int k ((n : Nat) : Int)) (hm : m < 2 ^ k.bits) (hn' : n < 2 ^ k.bits) (hr : k.wrap ((andNot m n : Nat) : Int) = ((andNot m n : Nat) : Int))
    (hn : Lx P S kd ops rest K (ups ((d, .int k ((andNot m n : Nat) : Int)) :: L) b) h) : Lx P S kd ops (⟨some d, .binOp .andNot tx x y ty, t, p, af, g⟩ :: rest) K (ups L b) h :=
  lx_free _ hw (fo_int hx hy fun w => by
    simp only [binOp, Op.intBits, ne_eq, not_true_eq_false, if_false, back_andNot hm hn', hr]
    simp) hn
theorem lx_shl {k k' : IntKind} {m n : Nat} (hw : Region.wanted ⟨some d, .binOp .shl tx x y ty, t, p, af, g⟩ (yieldE ops (ups L b)) = true) (hx : ev (ups L b) x = .int k ((m : Nat) : Int)) (hy : ev (ups L b) y = .int k' ((n : Nat) : Int)) (hn' : n ≤ k.bits) (hr : k.wrap ((m * 2 ^ n : Nat) : Int) = ((m * 2 ^ n : Nat) : Int))
    (hn : Lx P S kd ops rest K (ups ((d, .int k ((m * 2 ^ n : Nat) : Int)) :: L) b) h) : Lx P S kd ops (⟨some d, .binOp .shl tx x y ty, t, p, af, g⟩ :: rest) K (ups L b) h :=
  lx_free _ hw (fo_int hx hy fun w => by
    have e1 : min n k.bits = n := Nat.min_eq_left hn'
    have e2 : ((m : Int) * 2 ^ n) = ((m * 2 ^ n : Nat) : Int) := by simp
    have e3 : ¬ ((n : Int) < 0) := by omega
    simp only [binOp, Op.shift, e3, if_false, Int.toNat_natCast, e1, e2, hr]
    simp) hn
theorem lx_shr {k k' : IntKind} {m n : Nat} (hw : Region.wanted ⟨some d, .binOp .shr tx x y ty, t, p, af, g⟩ (yieldE ops (ups L b)) = true) (hx : ev (ups L b) x = .int k ((m : Nat) : Int)) (hy : ev (ups L b) y = .int k' ((n : Nat) : Int)) (hn' : n ≤ k.bits)
    (hn : Lx P S kd ops rest K (ups ((d, .int k ((m / 2 ^ n : Nat) : Int)) :: L) b) h) : Lx P S kd ops (⟨some d, .binOp .shr tx x y ty, t, p, af, g⟩ :: rest) K (ups L b) h :=
  lx_free _ hw (fo_int hx hy fun w => by
    have e1 : min n k.bits = n := Nat.min_eq_left hn'
    have e2 : ((m : Int).fdiv (2 ^ n)) = ((m / 2 ^ n : Nat) : Int) := by rw [Int.fdiv_eq_ediv_of_nonneg _ (by exact Int.pow_nonneg (by omega))]; simp
    have e3 : ¬ ((n : Int) < 0) := by omega
    simp only [binOp, Op.shift, e3, if_false, Int.toNat_natCast, e1, e2]
    simp) hn

/-! ### Conversions and unary -/
theorem lx_conv {src dst : TypeId} {sd : TypeDesc} {k k' : IntKind} {m : Int} (r : Int) (hw : Region.wanted ⟨some d, .convert src dst x, t, p, af, g⟩ (yieldE ops (ups L b)) = true)
    (h1 : P.underlying src = some sd) (h2 : P.underlying dst = some (.int k')) (hx : ev (ups L b) x = .int k m) (hr : k'.wrap m = r)
    (hn : Lx P S kd ops rest K (ups ((d, .int k' r) :: L) b) h) : Lx P S kd ops (⟨some d, .convert src dst x, t, p, af, g⟩ :: rest) K (ups L b) h :=
  lx_free _ hw (fun w _ => by
    subst hr
    simp [execOp, hx, convert, run_underlying h1, run_underlying h2, Conv.intToInt]) hn
theorem lx_not {c : Bool} (hw : Region.wanted ⟨some d, .unOp .not tx x, t, p, af, g⟩ (yieldE ops (ups L b)) = true) (hx : ev (ups L b) x = .bool c)
    (hn : Lx P S kd ops rest K (ups ((d, .bool (!c)) :: L) b) h) : Lx P S kd ops (⟨some d, .unOp .not tx x, t, p, af, g⟩ :: rest) K (ups L b) h :=
  lx_free _ hw (fun w _ => by simp [execOp, hx, Op.unary]) hn
theorem lx_notB {c : Bool} (c' : Bool) (hw : Region.wanted ⟨some d, .unOp .not tx x, t, p, af, g⟩ (yieldE ops (ups L b)) = true) (hx : ev (ups L b) x = .bool c) (hc : (!c) = c')
    (hn : Lx P S kd ops rest K (ups ((d, .bool c') :: L) b) h) : Lx P S kd ops (⟨some d, .unOp .not tx x, t, p, af, g⟩ :: rest) K (ups L b) h := by
  subst hc; exact lx_not hw hx hn
theorem lx_neg {m : Int} (hw : Region.wanted ⟨some d, .unOp .neg tx x, t, p, af, g⟩ (yieldE ops (ups L b)) = true) (hx : ev (ups L b) x = .int .i64 m) (hlo : -9223372036854775808 < m) (hhi : m ≤ 9223372036854775807)
    (hn : Lx P S kd ops rest K (ups ((d, .int .i64 (-m)) :: L) b) h) : Lx P S kd ops (⟨some d, .unOp .neg tx x, t, p, af, g⟩ :: rest) K (ups L b) h :=
  lx_free _ hw (fun w _ => by
    have e : IntKind.i64.wrap (-m) = -m := wrap_i64 (by omega) (by omega)
    simp [execOp, hx, Op.unary, Op.intArith, e]) hn
theorem run_equalIn_bool {w : World} {D : Nat} {m n : Bool} (hT : P.underlying tx = some .bool) : (Op.equalIn (D + 1) tx (.bool m) (.bool n)).run P w = .ok (m == n) w := by
  simp only [Op.equalIn, Sem.run_bind, run_underlying hT, Result.andThen_ok, Sem.run_pure]
theorem run_equal_bool {w : World} {m n : Bool} (hT : P.underlying tx = some .bool) : (Op.equal tx (.bool m) (.bool n)).run P w = .ok (m == n) w := run_equalIn_bool (D := 9999) hT
/-- '==', '!=' of two bools. -/
theorem lx_eqlBool {m n : Bool} (c : Bool) (hw : Region.wanted ⟨some d, .binOp .eql tx x y ty, t, p, af, g⟩ (yieldE ops (ups L b)) = true) (hT : P.underlying tx = some .bool) (hx : ev (ups L b) x = .bool m) (hy : ev (ups L b) y = .bool n) (hc : (m == n) = c)
    (hn : Lx P S kd ops rest K (ups ((d, .bool c) :: L) b) h) : Lx P S kd ops (⟨some d, .binOp .eql tx x y ty, t, p, af, g⟩ :: rest) K (ups L b) h :=
  lx_free _ hw (fun w _ => by
    subst hc
    simp only [execOp, hx, hy, Sem.run_bind, run_guard_bool, Result.andThen_ok, binOp, run_equal_bool hT, Sem.run_pure]) hn
theorem lx_neqBool {m n : Bool} (c : Bool) (hw : Region.wanted ⟨some d, .binOp .neq tx x y ty, t, p, af, g⟩ (yieldE ops (ups L b)) = true) (hT : P.underlying tx = some .bool) (hx : ev (ups L b) x = .bool m) (hy : ev (ups L b) y = .bool n) (hc : (m != n) = c)
    (hn : Lx P S kd ops rest K (ups ((d, .bool c) :: L) b) h) : Lx P S kd ops (⟨some d, .binOp .neq tx x y ty, t, p, af, g⟩ :: rest) K (ups L b) h :=
  lx_free _ hw (fun w _ => by
    subst hc
    simp only [execOp, hx, hy, Sem.run_bind, run_guard_bool, Result.andThen_ok, binOp, run_equal_bool hT, Sem.run_pure]; rfl) hn

/-! ### The greatest and the least of two -/
theorem lx_max {m n : Int} {ts : Array TypeId} (r : Int) (hw : Region.wanted ⟨some d, .call ⟨.builtin .max, #[x, y], ts⟩, t, p, af, g⟩ (yieldE ops (ups L b)) = true) (hx : ev (ups L b) x = .int .i64 m) (hy : ev (ups L b) y = .int .i64 n) (hr : max m n = r)
    (hn : Lx P S kd ops rest K (ups ((d, .int .i64 r) :: L) b) h) : Lx P S kd ops (⟨some d, .call ⟨.builtin .max, #[x, y], ts⟩, t, p, af, g⟩ :: rest) K (ups L b) h :=
  lx_free _ hw (fun w _ => by
    subst hr
    have e : (max m n : Int) = if m < n then n else m := by omega
    rw [e]
    simp only [execOp, resolve, invoke, builtin, Sem.run_bind, Sem.run_pure, Result.andThen_ok, List.map_toArray, List.map_cons, List.map_nil, hx, hy]
    simp [Builtin.max_, Builtin.max2]) hn
theorem lx_min {m n : Int} {ts : Array TypeId} (r : Int) (hw : Region.wanted ⟨some d, .call ⟨.builtin .min, #[x, y], ts⟩, t, p, af, g⟩ (yieldE ops (ups L b)) = true) (hx : ev (ups L b) x = .int .i64 m) (hy : ev (ups L b) y = .int .i64 n) (hr : min m n = r)
    (hn : Lx P S kd ops rest K (ups ((d, .int .i64 r) :: L) b) h) : Lx P S kd ops (⟨some d, .call ⟨.builtin .min, #[x, y], ts⟩, t, p, af, g⟩ :: rest) K (ups L b) h :=
  lx_free _ hw (fun w _ => by
    subst hr
    have e : (min m n : Int) = if n < m then n else m := by omega
    rw [e]
    simp only [execOp, resolve, invoke, builtin, Sem.run_bind, Sem.run_pure, Result.andThen_ok, List.map_toArray, List.map_cons, List.map_nil, hx, hy]
    simp [Builtin.min_, Builtin.min2]) hn

end
end Go.X
