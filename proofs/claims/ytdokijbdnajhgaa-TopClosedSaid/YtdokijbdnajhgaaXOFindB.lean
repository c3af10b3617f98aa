/-
  The library's BinarySearch, as a call on a slice of our own.
-/
import Derived.Test.YtdokijbdnajhgaaXOFind
import Derived.Test.YtdokijbdnajhgaaXOSortB
set_option linter.unusedSimpArgs false
set_option linter.unusedVariables false
namespace Go.Proofs.Ytdokijbdnajhgaa
open Go Go.X Go.Sort
theorem lfind_spec (h : Heap) (B : Nat) (v : Value) (xs : List Int) (x : Int) (ho : OwE encI h B 3 v xs) (_ : B ≤ h.size) (hne : xs ≠ []) (hl : xs.length ≤ 1000000) (hs : xs.Pairwise (· ≤ ·)) :
    Fx Try.prog 83 [v, .int .i64 x] h (fun r h' => r = .tuple #[.int .i64 ((xs.countP (fun y => decide (y < x)) : Nat) : Int), .bool (xs.contains x)] ∧ h = h') := by
  obtain ⟨g, cap, cur, rfl, hB, hg, hn, hm, hsz, ht⟩ := own_parts ho hne
  intro w hw
  subst hw
  have hH := own_holds (w := w) (B := B) (cap := cap) hg ht
  refine (Try.slices_BinarySearch_int g 0 xs.length cap xs x w (Nat.le_refl _) (by omega) (fun j hj => ?_) (by rw [List.take_length]; exact hs)).mono ?_
  · have := (hH j (by simpa using hj)).1
    rw [this, getElem!_pos xs.toArray j (by simpa using hj)]
    simp [List.getD, List.getElem?_eq_getElem hj]
  · rintro e w' ⟨rfl, q, rfl⟩
    rw [List.take_length]
    exact ⟨_, rfl, by exact ⟨rfl, rfl, rfl⟩, rfl, rfl⟩
end Go.Proofs.Ytdokijbdnajhgaa
