/-
  Structs of two integers.
-/
import Derived.Test.YtjfickfgpkejpaaXDisj
set_option linter.unusedSimpArgs false
set_option linter.unusedVariables false
namespace Go.X
structure Str2 (P : Program) (tx el : TypeId) (f0 f1 : Go.Field) : Prop where
  und : P.underlying tx = some (.struct #[f0, f1])
  t0 : f0.type = el
  t1 : f1.type = el
  o0 : f0.offset = 0
  o1 : f1.offset = 1
  n0 : f0.name ≠ "_"
  n1 : f1.name ≠ "_"
  elu : P.underlying el = some (.int .i64)
  size : ∀ w, (sizeOf el).run P w = .ok 1 w
  flat : Flat P el
  guard : P.eqGuardType P.depth tx = false
  held : P.stoodInHeld tx = false

section
variable {P : Program}
theorem bldS2 {tx el : TypeId} {f0 f1 : Go.Field} (hA : Str2 P tx el f0 f1) (hz : ∀ w, (zeroValue tx).run P w = .ok (.agg #[.int .i64 0, .int .i64 0]) w) (x y : Int) (w : World) :
    (Instr.build tx #[(0, .int .i64 x), (1, .int .i64 y)]).run P w = .ok (.agg #[.int .i64 x, .int .i64 y]) w := by
  have hs := hA.size
  simp [Instr.build, hz, run_underlying hA.und, hA.t0, hA.t1, hA.o0, hA.o1, hs, Instr.fill, Value.cells]

theorem run_eqS2 {tx el : TypeId} {f0 f1 : Go.Field} (hA : Str2 P tx el f0 f1) (D : Nat) (a0 a1 b0 b1 : Int) (w : World) :
    (Op.equalIn (D + 2) tx (.agg #[.int .i64 a0, .int .i64 a1]) (.agg #[.int .i64 b0, .int .i64 b1])).run P w = .ok (decide (a0 = b0 ∧ a1 = b1)) w := by
  have h0 : ∀ cs i v w, cs[i]? = some v → (part el cs i).run P w = .ok v w := by
    intro cs i v w hv
    simp [part, hA.flat w, hv]
  have hi : ∀ (m n : Int) w, (Op.equalIn (D + 1) el (.int .i64 m) (.int .i64 n)).run P w = .ok (m == n) w := fun m n w => run_equalIn_int w D el .i64 .i64 m n hA.elu
  have e0 : ∀ (u v : Value) w, (part el #[u, v] 0).run P w = .ok u w := fun u v w => h0 _ _ _ w rfl
  have e1 : ∀ (u v : Value) w, (part el #[u, v] 1).run P w = .ok v w := fun u v w => h0 _ _ _ w rfl
  rw [Op.equalIn]
  by_cases c0 : a0 = b0 <;> by_cases c1 : a1 = b1 <;>
    simp [run_underlying hA.und, hA.held, hA.n0, hA.n1, hA.t0, hA.t1, hA.o0, hA.o1, e0, e1, hi, c0, c1]
theorem run_eqlS2 {tx el : TypeId} {f0 f1 : Go.Field} (hA : Str2 P tx el f0 f1) {x y : Operand} (a0 a1 b0 b1 : Int) (w : World) :
    (do eqGuard .eql tx x y (.agg #[.int .i64 a0, .int .i64 a1]) (.agg #[.int .i64 b0, .int .i64 b1]); binOp .eql tx (.agg #[.int .i64 a0, .int .i64 a1]) (.agg #[.int .i64 b0, .int .i64 b1]) : Sem Value).run P w = .ok (.bool (decide (a0 = b0 ∧ a1 = b1))) w := by
  rw [Sem.run_bind, run_eqGuard_agg w _ _ _ _ _ _ hA.guard, Result.andThen_ok, run_eql_struct, run_eqS2 hA 9998, Result.andThen_ok]
end
section
variable {P : Program} {S : Heap → Prop} {kd : Oper → Kd} {ops : Array Oper} {rest : List Oper} {K : Env → Heap → Prop} {L : List (Nat × Value)} {b : Env} {h : Heap}
variable {d : Nat} {t tx ty el : TypeId} {p : String} {af : Array Edge} {g : Option (Nat × Bool)} {x y : Operand} {a0 a1 b0 b1 : Int} {f0 f1 : Go.Field}
theorem lx_eqlS2S (hw : Region.wanted ⟨some d, .binOp .eql tx x y ty, t, p, af, g⟩ (yieldE ops (ups L b)) = true) (hA : Str2 P tx el f0 f1) (hx : ev (ups L b) x = .agg #[.int .i64 a0, .int .i64 a1]) (hy : ev (ups L b) y = .agg #[.int .i64 b0, .int .i64 b1])
    (h1 : (a0 = b0 ∧ a1 = b1) → Lx P S kd ops rest K (ups ((d, .bool true) :: L) b) h) (h2 : ¬ (a0 = b0 ∧ a1 = b1) → Lx P S kd ops rest K (ups ((d, .bool false) :: L) b) h) : Lx P S kd ops (⟨some d, .binOp .eql tx x y ty, t, p, af, g⟩ :: rest) K (ups L b) h := by
  refine lx_free (.bool (decide (a0 = b0 ∧ a1 = b1))) hw (fun w _ => ?_) ?_
  · have := run_eqlS2 (P := P) hA (x := x) (y := y) a0 a1 b0 b1 w
    simp only [execOp, hx, hy]
    rw [Sem.run_bind, this]
    rfl
  · by_cases hc : a0 = b0 ∧ a1 = b1
    · rw [decide_eq_true hc]; exact h1 hc
    · rw [decide_eq_false hc]; exact h2 hc
/-- The address of a struct variable's first or second field. -/
theorem lx_field {bn i : Nat} (hw : Region.wanted ⟨some d, .fieldAddr tx x i, t, p, af, g⟩ (yieldE ops (ups L b)) = true) (hA : Str2 P tx el f0 f1) (hi : i = 0 ∨ i = 1) (hx : ev (ups L b) x = .pointer (some ⟨bn, 0, none⟩))
    (hn : Lx P S kd ops rest K (ups ((d, .pointer (some ⟨bn, i, none⟩)) :: L) b) h) : Lx P S kd ops (⟨some d, .fieldAddr tx x i, t, p, af, g⟩ :: rest) K (ups L b) h :=
  lx_free _ hw (fun w _ => by
    rcases hi with rfl | rfl
    · simp [execOp, hx, Instr.fieldAt, run_underlying hA.und, hA.o0, hA.t0, hA.size w, fieldPlace, Instr.sureAddr, add_lit]
    · simp [execOp, hx, Instr.fieldAt, run_underlying hA.und, hA.o1, hA.t1, hA.size w, fieldPlace, Instr.sureAddr, add_lit]) hn
end
end Go.X
