/-
  The merge exchange sorts: by the kernel, at all patterns of up to ten wires.
-/
import Derived.Test.YtdokijbdnajhgaaXOut
set_option linter.unusedSimpArgs false
set_option linter.unusedVariables false
namespace Go.X
/-! ### The merge exchange -/
theorem merge_all : ∀ m : Nat, 1 ≤ m → m ≤ 10 → ((List.range (2 ^ m)).all fun q => inOrd (runV (mergeF m) (bitsV m q))) = true := by
  intro m h1 h2
  have : m = 1 ∨ m = 2 ∨ m = 3 ∨ m = 4 ∨ m = 5 ∨ m = 6 ∨ m = 7 ∨ m = 8 ∨ m = 9 ∨ m = 10 := by omega
  rcases this with rfl | rfl | rfl | rfl | rfl | rfl | rfl | rfl | rfl | rfl <;> decide +kernel
theorem merge_sorts {m : Nat} (h1 : 1 ≤ m) (h2 : m ≤ 10) : ∀ q, q < 2 ^ m → badC m (colF (mergeF m) m q) = false := fun q hq => by
  have := List.all_eq_true.1 (merge_all m h1 h2) q (List.mem_range.2 hq)
  rw [inOrd_bits (merge_lt h1 h2).ok hq] at this
  simpa using this
end Go.X
