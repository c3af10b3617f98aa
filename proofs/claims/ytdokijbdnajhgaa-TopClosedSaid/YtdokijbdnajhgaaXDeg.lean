/-
  The degree of one function of two bits, plain.
-/
import Derived.Test.YtdokijbdnajhgaaXPop
import Derived.Lib.BitFns
set_option linter.unusedSimpArgs false
set_option linter.unusedVariables false
namespace Go.X
def bI (b : Bool) : Int := if b then 1 else 0
def trS (bit x : Nat) (ys : List Int) : List Int := if x &&& bit = 0 then (ys.set x (gt ys x)).set (x ||| bit) (gt ys (x ||| bit) - gt ys x) else ys
def trX (bit k : Nat) (ys : List Int) : List Int := (List.range k).foldl (fun ys x => trS bit x ys) ys
def tr0 : List Int := [0, 1, 1, 0]
def trT : Nat → Nat → List Int
  | 0, x => trX 1 x tr0
  | e + 1, x => trX (2 ^ (e + 1)) x (trT e 4)
theorem trX_succ (bit k : Nat) (ys : List Int) : trX bit (k + 1) ys = trS bit k (trX bit k ys) := by simp [trX, List.range_succ]
theorem trT_succ (e x : Nat) : trT e (x + 1) = trS (2 ^ e) x (trT e x) := by
  cases e with
  | zero => exact trX_succ 1 x tr0
  | succ e => exact trX_succ (2 ^ (e + 1)) x (trT e 4)
theorem trT_next (e : Nat) : trT (e + 1) 0 = trT e 4 := rfl
theorem trT_all : ((List.range 3).all fun e => (List.range 5).all fun x => (List.range 4).all fun j => decide ((trT e x).length = 4 ∧ -100 ≤ gt (trT e x) j ∧ gt (trT e x) j ≤ 100)) = true := by decide +kernel
theorem trT_ok {e x j : Nat} (he : e < 3) (hx : x < 5) (hj : j < 4) : (trT e x).length = 4 ∧ -100 ≤ gt (trT e x) j ∧ gt (trT e x) j ≤ 100 := by
  have := rall_iff.1 (rall_iff.1 (rall_iff.1 trT_all e he) x hx) j hj
  rwa [decide_eq_true_iff] at this
theorem or_all : ((List.range 2).all fun e => (List.range 4).all fun x => decide (x &&& 2 ^ e = 0 → x ||| 2 ^ e < 4)) = true := by decide +kernel
theorem or_ok {e x : Nat} (he : e < 2) (hx : x < 4) (h : x &&& 2 ^ e = 0) : x ||| 2 ^ e < 4 := by
  have := rall_iff.1 (rall_iff.1 or_all e he) x hx
  rw [decide_eq_true_iff] at this
  exact this h
def dgF (k : Nat) : Nat := (List.range k).foldl (fun n m => if gt (trT 2 0) m ≠ 0 then max n (popN m) else n) 0
theorem dgF_succ (k : Nat) : dgF (k + 1) = if gt (trT 2 0) k ≠ 0 then max (dgF k) (popN k) else dgF k := by simp [dgF, List.range_succ]
theorem dg_all : dgF 4 = 2 ∧ ((List.range 5).all fun k => decide (dgF k ≤ 12)) = true ∧ ((List.range 5).all fun k => decide (popN k ≤ 12)) = true := by decide +kernel
theorem dgF_le {k : Nat} (h : k < 5) : dgF k ≤ 12 := by have := rall_iff.1 dg_all.2.1 k h; rwa [decide_eq_true_iff] at this
theorem popN_le4 {k : Nat} (h : k < 5) : popN k ≤ 12 := by have := rall_iff.1 dg_all.2.2 k h; rwa [decide_eq_true_iff] at this
theorem len4 : Lib.bitLen 4 = 3 := by decide +kernel
end Go.X
