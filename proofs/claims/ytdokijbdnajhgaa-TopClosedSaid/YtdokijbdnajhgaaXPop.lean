/-
  How many bits a number has.
-/
import Derived.Test.YtdokijbdnajhgaaXSet
set_option linter.unusedSimpArgs false
set_option linter.unusedVariables false
namespace Go.X
section
variable {P : Program} {S : Heap → Prop} {kd : Oper → Kd} {ops : Array Oper} {rest : List Oper} {K : Env → Heap → Prop} {L : List (Nat × Value)} {b : Env} {h : Heap}
variable {d : Nat} {tx ty t : TypeId} {p : String} {af : Array Edge} {g : Option (Nat × Bool)} {x y : Operand}
theorem lx_addU {m n : Int} (r : Int) (hw : Region.wanted ⟨some d, .binOp .add tx x y ty, t, p, af, g⟩ (yieldE ops (ups L b)) = true) (hx : ev (ups L b) x = .int .u64 m) (hy : ev (ups L b) y = .int .u64 n) (hr : m + n = r) (hlo : 0 ≤ r) (hhi : r < 18446744073709551616)
    (hn : Lx P S kd ops rest K (ups ((d, .int .u64 r) :: L) b) h) : Lx P S kd ops (⟨some d, .binOp .add tx x y ty, t, p, af, g⟩ :: rest) K (ups L b) h :=
  lx_free _ hw (fo_int hx hy fun w => by subst hr; simp [binOp, Op.intArith, wrap_u64 hlo hhi]) hn
end
/-- How the library counts bits, step by step. -/
def on1 (x : Nat) : Nat := (x / 2 ^ 1 &&& 6148914691236517205) + (x &&& 6148914691236517205)
def on2 (x : Nat) : Nat := (x / 2 ^ 2 &&& 3689348814741910323) + (x &&& 3689348814741910323)
def on3 (x : Nat) : Nat := (x / 2 ^ 4 + x) &&& 1085102592571150095
def on4 (x : Nat) : Nat := x + x / 2 ^ 8
def on5 (x : Nat) : Nat := x + x / 2 ^ 16
def on6 (x : Nat) : Nat := x + x / 2 ^ 32
def popN (x : Nat) : Nat := (List.range 12).countP fun i => x.testBit i
theorem on_all : ((List.range 4096).all fun x => on1 x ≤ 4096 && on2 (on1 x) ≤ 4096 && on3 (on2 (on1 x)) ≤ 4096 && on4 (on3 (on2 (on1 x))) ≤ 8192 && on5 (on4 (on3 (on2 (on1 x)))) ≤ 8192 && on6 (on5 (on4 (on3 (on2 (on1 x))))) ≤ 8192 && (on6 (on5 (on4 (on3 (on2 (on1 x))))) &&& 127) == popN x) = true := by decide +kernel
theorem on_ok {x : Nat} (h : x < 4096) : on1 x ≤ 4096 ∧ on2 (on1 x) ≤ 4096 ∧ on3 (on2 (on1 x)) ≤ 4096 ∧ on4 (on3 (on2 (on1 x))) ≤ 8192 ∧ on5 (on4 (on3 (on2 (on1 x)))) ≤ 8192 ∧ on6 (on5 (on4 (on3 (on2 (on1 x))))) ≤ 8192 ∧ (on6 (on5 (on4 (on3 (on2 (on1 x))))) &&& 127) = popN x := by
  have := rall_iff.1 on_all x h
  simp only [Bool.and_eq_true, decide_eq_true_iff, beq_iff_eq] at this
  obtain ⟨⟨⟨⟨⟨⟨a, b⟩, c⟩, d⟩, e⟩, f⟩, g⟩ := this
  exact ⟨a, b, c, d, e, f, g⟩
end Go.X
