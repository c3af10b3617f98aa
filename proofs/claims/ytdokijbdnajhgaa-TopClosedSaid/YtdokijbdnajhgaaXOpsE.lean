/-
  Small rules more: arrays of two integers, slices against nil, cuts of slices.
-/
import Derived.Test.YtdokijbdnajhgaaXOpsD
import Derived.Laws.StructEq
set_option linter.unusedSimpArgs false
set_option linter.unusedVariables false
namespace Go.X

theorem agree_upsJ {W : Nat → Bool} {b : Env} : Agree W b b := fun _ _ => rfl
theorem dj_of {v w : Value} {lo hi lo' : Nat} (hv : ∀ g, v.ownBlock = some g → lo ≤ g ∧ g < hi) (hw : ∀ g, w.ownBlock = some g → lo' ≤ g) (h : hi ≤ lo') : ∀ g, v.ownBlock = some g → w.ownBlock ≠ some g := by
  intro g hg hg'
  have h1 := (hv g hg).2
  have h2 := hw g hg'
  omega

theorem Chg.trans {v : Value} {a b c : Heap} (h : Chg v a b) (k : Chg v b c) : Chg v a c :=
  ⟨Nat.le_trans h.size k.size, fun i hi hne => (k.block i (Nat.lt_of_lt_of_le hi h.size) hne).trans (h.block i hi hne)⟩

section
variable {α : Type} {E : Enc α} {h : Heap} {v v' : Value} {xs : List α} {B : Nat} {e : TypeId}
theorem flat_take (E : Enc α) (xs : List α) (n : Nat) : (xs.flatMap E.f).take (n * E.k) = (xs.take n).flatMap E.f := by
  induction xs generalizing n with
  | nil => simp
  | cons x xs ih =>
    cases n with
    | zero => simp
    | succ n =>
      have hl := E.len x
      simp only [List.flatMap_cons, List.take_succ_cons]
      rw [show (n + 1) * E.k = (E.f x).length + n * E.k from by rw [hl, Nat.add_mul]; omega, List.take_length_add_append, ih]

theorem sl_own {u : Nat} (ho : OwE E h B e v xs) (hs : ∀ h' B e, Own h' B e E.k v xs.length (xs.flatMap E.f) → Own h' B e E.k v' u ((xs.flatMap E.f).take (u * E.k))) (hu : u ≤ xs.length) : OwE E h B e v' (xs.take u) := by
  have h1 := hs h B e ho
  rw [flat_take] at h1
  unfold OwE
  rw [List.length_take, Nat.min_eq_left hu]
  exact h1

theorem sl_rd {u : Nat} (hr : RdE E h v xs) (hs : ∀ h', Rd h' v xs.length (xs.flatMap E.f) → (xs.flatMap E.f).length = xs.length * E.k → Rd h' v' (u - 0) (((xs.flatMap E.f).drop (0 * E.k)).take ((u - 0) * E.k))) (hu : u ≤ xs.length) : RdE E h v' (xs.take u) := by
  have h1 := hs h hr (flat_length E xs)
  rw [Nat.zero_mul, List.drop_zero, Nat.sub_zero, flat_take] at h1
  unfold RdE
  rw [List.length_take, Nat.min_eq_left hu]
  exact h1

theorem sl_cells {n : Nat} {cs : List Value} (hr : Rd h v n cs) : v.cells = #[v] := by
  obtain ⟨a, cap, rfl, _⟩ := hr; rfl
theorem sl_one {n : Nat} {cs : List Value} (hr : Rd h v n cs) : v.oneCell' = true := by
  obtain ⟨a, cap, rfl, _⟩ := hr; rfl
end

section
variable {P : Program}

structure Arr2 (P : Program) (tx el : TypeId) : Prop where
  und : P.underlying tx = some (.array 2 el)
  elu : P.underlying el = some (.int .i64)
  size : ∀ w, (sizeOf el).run P w = .ok 1 w
  flat : Flat P el
  guard : P.eqGuardType P.depth tx = false

theorem bld2 {tx el : TypeId} (hu : P.underlying tx = some (.array 2 el)) (hz : ∀ w, (zeroValue tx).run P w = .ok (.agg #[.int .i64 0, .int .i64 0]) w) (hs : ∀ w, (sizeOf el).run P w = .ok 1 w) (x y : Int) (w : World) :
    (Instr.build tx #[(0, .int .i64 x), (1, .int .i64 y)]).run P w = .ok (.agg #[.int .i64 x, .int .i64 y]) w := by
  simp [Instr.build, hz, run_underlying hu, hs, Instr.fill, Value.cells]

theorem run_eqA2 {tx el : TypeId} (hA : Arr2 P tx el) (D : Nat) (a0 a1 b0 b1 : Int) (w : World) :
    (Op.equalIn (D + 2) tx (.agg #[.int .i64 a0, .int .i64 a1]) (.agg #[.int .i64 b0, .int .i64 b1])).run P w = .ok (decide (a0 = b0 ∧ a1 = b1)) w := by
  have h0 : ∀ cs i v w, cs[i]? = some v → (part el cs i).run P w = .ok v w := by
    intro cs i v w hv
    simp [part, hA.flat w, hv]
  have hi : ∀ (m n : Int) w, (Op.equalIn (D + 1) el (.int .i64 m) (.int .i64 n)).run P w = .ok (m == n) w := fun m n w => run_equalIn_int w D el .i64 .i64 m n hA.elu
  rw [Op.equalIn]
  simp only [Sem.run_bind, run_underlying hA.und, Result.andThen_ok, hA.size]
  simp only [Std.Legacy.Range.forIn_eq_forIn_range', Std.Legacy.Range.size, List.range', List.forIn_cons, List.forIn_nil, Sem.run_bind, Sem.run_pure, Sem.run_ite]
  rw [h0 _ (0 * 1) (.int .i64 a0) w rfl, Result.andThen_ok, h0 _ (0 * 1) (.int .i64 b0) w rfl, Result.andThen_ok, hi, Result.andThen_ok]
  by_cases c0 : a0 = b0
  · have e0 : (a0 == b0) = true := by simp [c0]
    rw [e0]
    simp only [Bool.not_true, Bool.false_eq_true, if_false, Result.andThen_ok, Sem.run_bind]
    rw [h0 _ ((0 + 1) * 1) (.int .i64 a1) w rfl, Result.andThen_ok, h0 _ ((0 + 1) * 1) (.int .i64 b1) w rfl, Result.andThen_ok, hi, Result.andThen_ok]
    by_cases c1 : a1 = b1
    · simp [c0, c1]
    · have e1 : (a1 == b1) = false := by simp [c1]
      simp [e1, c0, c1]
  · have e0 : (a0 == b0) = false := by simp [c0]
    simp [e0, c0]

theorem run_eqlA2 {tx el : TypeId} (hA : Arr2 P tx el) {x y : Operand} (a0 a1 b0 b1 : Int) (w : World) :
    (do eqGuard .eql tx x y (.agg #[.int .i64 a0, .int .i64 a1]) (.agg #[.int .i64 b0, .int .i64 b1]); binOp .eql tx (.agg #[.int .i64 a0, .int .i64 a1]) (.agg #[.int .i64 b0, .int .i64 b1]) : Sem Value).run P w = .ok (.bool (decide (a0 = b0 ∧ a1 = b1))) w := by
  rw [Sem.run_bind, run_eqGuard_agg w _ _ _ _ _ _ hA.guard, Result.andThen_ok, run_eql_struct, run_eqA2 hA 9998, Result.andThen_ok]
theorem run_neqA2 {tx el : TypeId} (hA : Arr2 P tx el) {x y : Operand} (a0 a1 b0 b1 : Int) (w : World) :
    (do eqGuard .neq tx x y (.agg #[.int .i64 a0, .int .i64 a1]) (.agg #[.int .i64 b0, .int .i64 b1]); binOp .neq tx (.agg #[.int .i64 a0, .int .i64 a1]) (.agg #[.int .i64 b0, .int .i64 b1]) : Sem Value).run P w = .ok (.bool (!decide (a0 = b0 ∧ a1 = b1))) w := by
  rw [Sem.run_bind, run_eqGuard_agg w _ _ _ _ _ _ hA.guard, Result.andThen_ok, run_neq_struct, run_eqA2 hA 9998, Result.andThen_ok]
end

section
variable {P : Program} {S : Heap → Prop} {kd : Oper → Kd} {ops : Array Oper} {rest : List Oper} {K : Env → Heap → Prop} {L : List (Nat × Value)} {b : Env} {h : Heap}
variable {d : Nat} {t tx ty el : TypeId} {p : String} {af : Array Edge} {g : Option (Nat × Bool)} {x y : Operand} {a0 a1 b0 b1 : Int}

theorem lx_eqlA2 (hw : Region.wanted ⟨some d, .binOp .eql tx x y ty, t, p, af, g⟩ (yieldE ops (ups L b)) = true) (hA : Arr2 P tx el) (hx : ev (ups L b) x = .agg #[.int .i64 a0, .int .i64 a1]) (hy : ev (ups L b) y = .agg #[.int .i64 b0, .int .i64 b1])
    (hn : Lx P S kd ops rest K (ups ((d, .bool (decide (a0 = b0 ∧ a1 = b1))) :: L) b) h) : Lx P S kd ops (⟨some d, .binOp .eql tx x y ty, t, p, af, g⟩ :: rest) K (ups L b) h :=
  lx_free _ hw (fun w _ => by
    have := run_eqlA2 (P := P) hA (x := x) (y := y) a0 a1 b0 b1 w
    simp only [execOp, hx, hy]
    rw [Sem.run_bind, this]
    rfl) hn
theorem lx_neqA2 (hw : Region.wanted ⟨some d, .binOp .neq tx x y ty, t, p, af, g⟩ (yieldE ops (ups L b)) = true) (hA : Arr2 P tx el) (hx : ev (ups L b) x = .agg #[.int .i64 a0, .int .i64 a1]) (hy : ev (ups L b) y = .agg #[.int .i64 b0, .int .i64 b1])
    (hn : Lx P S kd ops rest K (ups ((d, .bool (!decide (a0 = b0 ∧ a1 = b1))) :: L) b) h) : Lx P S kd ops (⟨some d, .binOp .neq tx x y ty, t, p, af, g⟩ :: rest) K (ups L b) h :=
  lx_free _ hw (fun w _ => by
    have := run_neqA2 (P := P) hA (x := x) (y := y) a0 a1 b0 b1 w
    simp only [execOp, hx, hy]
    rw [Sem.run_bind, this]
    rfl) hn
theorem lx_eqlA2T (hw : Region.wanted ⟨some d, .binOp .eql tx x y ty, t, p, af, g⟩ (yieldE ops (ups L b)) = true) (hA : Arr2 P tx el) (hx : ev (ups L b) x = .agg #[.int .i64 a0, .int .i64 a1]) (hy : ev (ups L b) y = .agg #[.int .i64 b0, .int .i64 b1]) (hc : a0 = b0 ∧ a1 = b1)
    (hn : Lx P S kd ops rest K (ups ((d, .bool true) :: L) b) h) : Lx P S kd ops (⟨some d, .binOp .eql tx x y ty, t, p, af, g⟩ :: rest) K (ups L b) h :=
  lx_eqlA2 hw hA hx hy (by rw [decide_eq_true hc]; exact hn)
theorem lx_eqlA2F (hw : Region.wanted ⟨some d, .binOp .eql tx x y ty, t, p, af, g⟩ (yieldE ops (ups L b)) = true) (hA : Arr2 P tx el) (hx : ev (ups L b) x = .agg #[.int .i64 a0, .int .i64 a1]) (hy : ev (ups L b) y = .agg #[.int .i64 b0, .int .i64 b1]) (hc : ¬ (a0 = b0 ∧ a1 = b1))
    (hn : Lx P S kd ops rest K (ups ((d, .bool false) :: L) b) h) : Lx P S kd ops (⟨some d, .binOp .eql tx x y ty, t, p, af, g⟩ :: rest) K (ups L b) h :=
  lx_eqlA2 hw hA hx hy (by rw [decide_eq_false hc]; exact hn)
theorem lx_neqA2T (hw : Region.wanted ⟨some d, .binOp .neq tx x y ty, t, p, af, g⟩ (yieldE ops (ups L b)) = true) (hA : Arr2 P tx el) (hx : ev (ups L b) x = .agg #[.int .i64 a0, .int .i64 a1]) (hy : ev (ups L b) y = .agg #[.int .i64 b0, .int .i64 b1]) (hc : ¬ (a0 = b0 ∧ a1 = b1))
    (hn : Lx P S kd ops rest K (ups ((d, .bool true) :: L) b) h) : Lx P S kd ops (⟨some d, .binOp .neq tx x y ty, t, p, af, g⟩ :: rest) K (ups L b) h :=
  lx_neqA2 hw hA hx hy (by rw [decide_eq_false hc]; exact hn)
theorem lx_neqA2F (hw : Region.wanted ⟨some d, .binOp .neq tx x y ty, t, p, af, g⟩ (yieldE ops (ups L b)) = true) (hA : Arr2 P tx el) (hx : ev (ups L b) x = .agg #[.int .i64 a0, .int .i64 a1]) (hy : ev (ups L b) y = .agg #[.int .i64 b0, .int .i64 b1]) (hc : ¬ ¬ (a0 = b0 ∧ a1 = b1))
    (hn : Lx P S kd ops rest K (ups ((d, .bool false) :: L) b) h) : Lx P S kd ops (⟨some d, .binOp .neq tx x y ty, t, p, af, g⟩ :: rest) K (ups L b) h :=
  lx_neqA2 hw hA hx hy (by rw [decide_eq_true (Classical.not_not.1 hc)]; exact hn)
theorem lx_eqlA2S (hw : Region.wanted ⟨some d, .binOp .eql tx x y ty, t, p, af, g⟩ (yieldE ops (ups L b)) = true) (hA : Arr2 P tx el) (hx : ev (ups L b) x = .agg #[.int .i64 a0, .int .i64 a1]) (hy : ev (ups L b) y = .agg #[.int .i64 b0, .int .i64 b1])
    (h1 : (a0 = b0 ∧ a1 = b1) → Lx P S kd ops rest K (ups ((d, .bool true) :: L) b) h) (h2 : ¬ (a0 = b0 ∧ a1 = b1) → Lx P S kd ops rest K (ups ((d, .bool false) :: L) b) h) : Lx P S kd ops (⟨some d, .binOp .eql tx x y ty, t, p, af, g⟩ :: rest) K (ups L b) h := by
  by_cases hc : a0 = b0 ∧ a1 = b1
  · exact lx_eqlA2T hw hA hx hy hc (h1 hc)
  · exact lx_eqlA2F hw hA hx hy hc (h2 hc)
theorem lx_neqA2S (hw : Region.wanted ⟨some d, .binOp .neq tx x y ty, t, p, af, g⟩ (yieldE ops (ups L b)) = true) (hA : Arr2 P tx el) (hx : ev (ups L b) x = .agg #[.int .i64 a0, .int .i64 a1]) (hy : ev (ups L b) y = .agg #[.int .i64 b0, .int .i64 b1])
    (h1 : ¬ (a0 = b0 ∧ a1 = b1) → Lx P S kd ops rest K (ups ((d, .bool true) :: L) b) h) (h2 : (a0 = b0 ∧ a1 = b1) → Lx P S kd ops rest K (ups ((d, .bool false) :: L) b) h) : Lx P S kd ops (⟨some d, .binOp .neq tx x y ty, t, p, af, g⟩ :: rest) K (ups L b) h := by
  by_cases hc : a0 = b0 ∧ a1 = b1
  · exact lx_neqA2F hw hA hx hy (fun h => h hc) (h2 hc)
  · exact lx_neqA2T hw hA hx hy hc (h1 hc)

/-- A slice against nil. -/
theorem lx_eqlNil {a : Option Addr} {n c : Nat} (r : Bool) (hw : Region.wanted ⟨some d, .binOp .eql tx x y ty, t, p, af, g⟩ (yieldE ops (ups L b)) = true) (hu : P.underlying tx = some (.slice el)) (hx : ev (ups L b) x = .slice a n c) (hy : ev (ups L b) y = .slice none 0 0) (hr : a.isNone = r)
    (hn : Lx P S kd ops rest K (ups ((d, .bool r) :: L) b) h) : Lx P S kd ops (⟨some d, .binOp .eql tx x y ty, t, p, af, g⟩ :: rest) K (ups L b) h :=
  lx_free _ hw (fun w _ => by
    subst hr
    have hg : (eqGuard .eql tx x y (.slice a n c) (.slice none 0 0)).run P w = .ok () w := by simp [eqGuard]
    have he : ∀ D, (Op.equalIn (D + 1) tx (.slice a n c) (.slice none 0 0)).run P w = .ok a.isNone w := by
      intro D
      cases a <;> simp only [Op.equalIn, Sem.run_bind, run_underlying hu, Result.andThen_ok, Sem.run_pure, Option.isNone]
    have he' : (Op.equal tx (.slice a n c) (.slice none 0 0)).run P w = .ok a.isNone w := he 9999
    have hb : binOp .eql tx (.slice a n c) (.slice none 0 0) = (do let r ← Op.equal tx (.slice a n c) (.slice none 0 0); pure (.bool r)) := rfl
    simp only [execOp, hx, hy, Sem.run_bind, hg, Result.andThen_ok, hb, he', Sem.run_pure]) hn
/-- The same, of a slice that is read: nil or not. -/
theorem lx_eqlNilS {α : Type} {E : Enc α} {xs : List α} {hh : Heap} {v : Value} (hrd : RdE E hh v xs) (hw : Region.wanted ⟨some d, .binOp .eql tx x y ty, t, p, af, g⟩ (yieldE ops (ups L b)) = true) (hu : P.underlying tx = some (.slice el)) (hx : ev (ups L b) x = v) (hy : ev (ups L b) y = .slice none 0 0)
    (h1 : xs = [] → Lx P S kd ops rest K (ups ((d, .bool true) :: L) b) h) (h2 : True → Lx P S kd ops rest K (ups ((d, .bool false) :: L) b) h) : Lx P S kd ops (⟨some d, .binOp .eql tx x y ty, t, p, af, g⟩ :: rest) K (ups L b) h := by
  obtain ⟨a, cap, rfl, _, h3, _⟩ := hrd
  cases a with
  | none => exact lx_eqlNil true hw hu hx hy rfl (h1 (List.eq_nil_of_length_eq_zero (h3 rfl)))
  | some a => exact lx_eqlNil false hw hu hx hy rfl (h2 trivial)
end
end Go.X
