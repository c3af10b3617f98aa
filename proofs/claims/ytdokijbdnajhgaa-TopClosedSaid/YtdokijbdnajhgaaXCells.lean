/-
  Arrays in blocks: their cells as lists; scopes; results that lie in a cell.
-/
import Derived.Test.YtdokijbdnajhgaaXOpsE
import Derived.Laws.Rows
set_option linter.unusedSimpArgs false
set_option linter.unusedVariables false
namespace Go.X

def cof {α : Type} (f : α → Value) (xs : List α) : Array Value := (xs.map f).toArray
theorem cof_size {α : Type} (f : α → Value) (xs : List α) : (cof f xs).size = xs.length := by simp [cof]
theorem cof_get {α : Type} [Inhabited α] {f : α → Value} {xs : List α} {i : Nat} (hi : i < xs.length) : (cof f xs)[i]? = some (f (gt xs i)) := by
  simp [cof, hi, gt_eq hi]
theorem cof_set {α : Type} (f : α → Value) (xs : List α) (i : Nat) (x : α) : (cof f xs).setIfInBounds i (f x) = cof f (xs.set i x) := by
  apply Array.toList_inj.1
  simp [cof, List.map_set]
/-- Words, integers, bools. -/
def wv (x : Nat) : Value := .int .u64 (x : Int)
def wc (ws : List Nat) : Array Value := cof (fun x : Nat => Value.int .u64 (x : Int)) ws
def ic (xs : List Int) : Array Value := cof (fun x : Int => Value.int .i64 x) xs
def bc (bs : List Bool) : Array Value := cof (fun x : Bool => Value.bool x) bs
theorem wc_size (ws : List Nat) : (wc ws).size = ws.length := cof_size _ _
theorem ic_size (ws : List Int) : (ic ws).size = ws.length := cof_size _ _
theorem bc_size (ws : List Bool) : (bc ws).size = ws.length := cof_size _ _
theorem wc_get {ws : List Nat} {i : Nat} (hi : i < ws.length) : (wc ws)[i]? = some (.int .u64 ((gt ws i : Nat) : Int)) := cof_get hi
theorem ic_get {ws : List Int} {i : Nat} (hi : i < ws.length) : (ic ws)[i]? = some (.int .i64 (gt ws i)) := cof_get hi
theorem bc_get {ws : List Bool} {i : Nat} (hi : i < ws.length) : (bc ws)[i]? = some (.bool (gt ws i)) := cof_get hi
theorem wc_set (ws : List Nat) (i x : Nat) : (wc ws).setIfInBounds i (.int .u64 (x : Int)) = wc (ws.set i x) := cof_set _ ws i x
theorem ic_set (ws : List Int) (i : Nat) (x : Int) : (ic ws).setIfInBounds i (.int .i64 x) = ic (ws.set i x) := cof_set _ ws i x
theorem bc_set (ws : List Bool) (i : Nat) (x : Bool) : (bc ws).setIfInBounds i (.bool x) = bc (ws.set i x) := cof_set _ ws i x
theorem wc_one (ws : List Nat) : ∀ u ∈ (wc ws).toList, u.oneCell' = true := by
  intro u hu; simp only [wc, cof, List.toList_toArray, List.mem_map] at hu; obtain ⟨x, _, rfl⟩ := hu; rfl
theorem ic_one (ws : List Int) : ∀ u ∈ (ic ws).toList, u.oneCell' = true := by
  intro u hu; simp only [ic, cof, List.toList_toArray, List.mem_map] at hu; obtain ⟨x, _, rfl⟩ := hu; rfl
theorem bc_one (ws : List Bool) : ∀ u ∈ (bc ws).toList, u.oneCell' = true := by
  intro u hu; simp only [bc, cof, List.toList_toArray, List.mem_map] at hu; obtain ⟨x, _, rfl⟩ := hu; rfl

section
variable {M : Mo} {P : Program} {n : Nat} {k : List Item} {R : Option Code → Env → Heap → Prop} {e : Env} {h : Heap}
theorem stepR_scope {P : Program} {b : Frame} {a : Act} {k : List Item} {cs : List Frame} {w : World} {c : Code} : step P (lone (b.atR a (.code (.scope c) :: k)) cs w) = .next (lone (b.atR a (.code c :: .inScope c :: k)) cs w) :=
  step_lone_go (by simp [stepG, stepG.exec, Frame.atR])
theorem stepR_inScope {P : Program} {b : Frame} {a : Act} {k : List Item} {cs : List Frame} {w : World} {c : Code} : step P (lone (b.atR a (.inScope c :: k)) cs w) = .next (lone (b.atR a k) cs w) :=
  step_lone_go (by simp [stepG, stepG.exec, Frame.atR])
theorem wi_scope {c : Code} (hw : WpI M P n (.code c :: .inScope c :: k) R e h) : WpI M P n (.code (.scope c) :: k) R e h := of_step (fun _ _ _ _ _ => stepR_scope) hw
theorem wi_inScope {c : Code} (hw : WpI M P n k R e h) : WpI M P n (.inScope c :: k) R e h := of_step (fun _ _ _ _ _ => stepR_inScope) hw

theorem res_cell {fn : Func} {t ty m : Nat} (hr : fn.results = #[.cell t ty]) {bn te : Nat} {cs : Array Value} (hp : e t = .pointer (some ⟨bn, 0, none⟩)) (hb : Blk h bn cs te) (hW : Wide P ty m) (hl : cs.size = m) : ResOb P fn e h (.agg cs) := by
  intro a w ha hh
  subst hh
  have h2 := run_load_wide (P := P) hW (w := w) (a := ⟨bn, 0, none⟩) (us := cs.toList) (by simpa using hl) (fun j u hju => by
      rw [add_lit, hb.cell]; simpa using hju)
  have hp' : a.tmps[t]?.getD undef = .pointer (some ⟨bn, 0, none⟩) := by
    have := ha t
    rw [hp] at this
    simpa using this
  simp [results, hr, hp', asAddr, h2]
end
end Go.X
