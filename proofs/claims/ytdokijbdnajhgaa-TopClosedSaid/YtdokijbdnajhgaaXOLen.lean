/-
  The library's bits.Len, as a call.
-/
import Derived.Test.YtdokijbdnajhgaaXOBits
import Derived.Test.YtdokijbdnajhgaaXDisj
set_option linter.unusedSimpArgs false
set_option linter.unusedVariables false
namespace Go.Proofs.Ytdokijbdnajhgaa
open Go Go.X
theorem blen_spec (h : Heap) (x : Nat) (hp1 : x ≤ 1000000) : Fx Try.prog 127 [.int .u64 ((x : Nat) : Int)] h (fun v h' => v = .int .i64 ((Lib.bitLen x : Nat) : Int) ∧ h = h') := by
  intro w hw
  subst hw
  refine (Try.bits_Len (x : Int) w (by omega) (by omega)).mono ?_
  rintro e w' ⟨rfl, rfl⟩
  exact ⟨_, rfl, ⟨rfl, rfl, rfl⟩, by rw [Int.toNat_natCast], rfl⟩
end Go.Proofs.Ytdokijbdnajhgaa
