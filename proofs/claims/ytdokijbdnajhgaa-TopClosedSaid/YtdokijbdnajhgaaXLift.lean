/-
  From a walk to the given statement: slices that came in, read as lists; what a law's walk gives.
-/
import Derived.Test.YtdokijbdnajhgaaXHeap
import Derived.WalkKit
import Derived.ProofKit
import Derived.OpenShut
import Derived.ShutString
import Derived.ChangeOld
import Derived.Below
import Derived.Carry
import Derived.ChangeSlices
import Derived.Deep.Slices
import Derived.JoinedOf
set_option linter.unusedSimpArgs false
set_option linter.unusedVariables false
namespace Go.X
open Go.ChangeShapes Go.WideShapes Go.RowKit

theorem rdE_mk {α : Type} [Inhabited α] {E : Enc α} {W : World} {a : Addr} {len cap : Nat} {xs : List α} (hl : len ≤ cap) (hx : xs.length = len)
    (hc : ∀ i, i < len → ∀ j, j < E.k → ∀ u, (E.f (gt xs i))[j]? = some u → W.cell? (a.add (i * E.k + j)) = some u) : RdE E W.heap (.slice (some a) len cap) xs := by
  subst hx
  refine ⟨some a, cap, rfl, hl, (fun h => by cases h), fun j u hj => ⟨a, rfl, ?_⟩⟩
  have hj' := (List.getElem?_eq_some_iff.1 hj).1
  rw [flat_length] at hj'
  have hk := E.pos
  have hd := Nat.div_add_mod j E.k
  have hm := Nat.mod_lt j hk
  have hi : j / E.k < xs.length := Nat.div_lt_of_lt_mul (by rw [Nat.mul_comm]; exact hj')
  rw [← hd, Nat.mul_comm] at hj ⊢
  rw [flat_get E xs _ _ hi hm] at hj
  exact hc _ hi _ hm u hj

section
variable {H : Type} {enc : TypeId × Value → H} {P : Program} {W : World}
theorem lift_ints {t e : TypeId} {v : Value} {d : DataW H} {ps : List MemPlace} (ht : P.underlying t = some (.slice e)) (he : P.underlying e = some (.int .i64)) (hc : P.cellsOf e = 1)
    (hv : Value.okWide P W .any 0 t v) (h : DataW.Trod enc P W 0 (fun _ => true) true t v d ps) :
    ∃ xs : List Int, RdE encI W.heap v xs ∧ xs.length ≤ 9223372036854775807 ∧ ∀ i, i < xs.length → -9223372036854775808 ≤ gt xs i ∧ gt xs i ≤ 9223372036854775807 := by
  obtain ⟨a0, len0, cap0, rfl⟩ := okWide_slice ht hv
  obtain ⟨fuel, hf⟩ := h
  rcases open_ints ht he hc hf with ⟨hcs, _⟩ | ⟨x, l, c, zs, hcs, _, hl, hm, hz, _, hcell, hwz⟩
  · simp [Value.cells] at hcs
    obtain ⟨rfl, rfl, rfl⟩ := hcs
    exact ⟨[], rd_nil _, by simp, fun i hi => absurd hi (by simp)⟩
  · simp [Value.cells] at hcs
    obtain ⟨rfl, rfl, rfl⟩ := hcs
    simp only [if_true] at hz
    have hlz : (zs.take len0).length = len0 := by simp; omega
    have hg : ∀ i, i < len0 → gt (zs.take len0) i = zs.getD i 0 := fun i hi => by
      unfold gt
      simp [List.getD, List.getElem?_take, hi]
    refine ⟨zs.take len0, rdE_mk hl hlz fun i hi j hj u hu => ?_, ?_, fun i hi => ?_⟩
    · have : j = 0 := by simp only [encI] at hj; omega
      subst this
      rw [hg i hi] at hu
      simp [encI] at hu
      subst hu
      have := hcell i (by omega)
      simpa [encI] using this
    · rw [hlz]; unfold maxLen at hm; omega
    · rw [hlz] at hi
      rw [hg i hi]
      refine bounds_i64 (hwz _ ?_)
      have : i < zs.length := by omega
      rw [List.getD, List.getElem?_eq_getElem this]
      exact List.getElem_mem this
theorem lift_pairs {t e q : TypeId} {v : Value} {d : DataW H} {ps : List MemPlace} (ht : P.underlying t = some (.slice e)) (he : P.underlying e = some (.array 2 q)) (hq : P.underlying q = some (.int .i64)) (hc : P.cellsOf e = 2) (hc1 : P.cellsOf q = 1)
    (hv : Value.okWide P W .any 0 t v) (h : DataW.Trod enc P W 0 (fun _ => true) true t v d ps) :
    ∃ xs : List (Int × Int), RdE encP W.heap v xs ∧ xs.length ≤ 9223372036854775807 ∧ ∀ i, i < xs.length → (-9223372036854775808 ≤ (gt xs i).1 ∧ (gt xs i).1 ≤ 9223372036854775807) ∧ (-9223372036854775808 ≤ (gt xs i).2 ∧ (gt xs i).2 ≤ 9223372036854775807) := by
  obtain ⟨a0, len0, cap0, rfl⟩ := okWide_slice ht hv
  obtain ⟨fuel, hf⟩ := h
  rcases Deep.open_slice ht hf with ⟨hcs, _⟩ | ⟨a, len, cap, m, n, D, Pl, hcs, hb, hl, hm, hmm, _, hx⟩
  · simp [Value.cells] at hcs
    obtain ⟨rfl, rfl, rfl⟩ := hcs
    exact ⟨[], rd_nil _, by simp, fun i hi => absurd hi (by simp)⟩
  · simp [Value.cells] at hcs
    obtain ⟨rfl, rfl, rfl⟩ := hcs
    simp only [if_true] at hmm
    subst hmm
    have each : ∀ i, i < len0 → ∃ p : Int × Int, W.cell? (a.add (i * 2)) = some (.int .i64 p.1) ∧ W.cell? (a.add (i * 2 + 1)) = some (.int .i64 p.2) ∧ (Lit.int .i64 p.1).wf = true ∧ (Lit.int .i64 p.2).wf = true := by
      intro i hi
      obtain ⟨cs', h1, h2⟩ := hx i (by omega)
      rw [hc] at h1
      obtain ⟨_, hlen, hcell⟩ := World.cells?_some h1
      obtain ⟨xs, k, _, _, _, hxl, hf⟩ := DataW.trod_array he h2
      match xs, hxl, cs', hlen with
      | [y0, y1], _, [v0, v1], _ =>
        have g0 := hf 0 (by omega)
        have g1 := hf 1 (by omega)
        simp [hc1] at g0 g1
        obtain ⟨p0, e5, _, w0⟩ := DataW.trod_int hq g0
        obtain ⟨p1, e6, _, w1⟩ := DataW.trod_int hq g1
        obtain rfl : v0 = .int .i64 p0 := by simpa using e5
        obtain rfl : v1 = .int .i64 p1 := by simpa using e6
        have e0 := hcell 0 (by omega)
        have e1 := hcell 1 (by omega)
        rw [add_add] at e0 e1
        exact ⟨(_, _), by simpa using e0, by simpa using e1, w0, w1⟩
    obtain ⟨p, hp⟩ := Deep.choose_lt each
    have hlz : ((List.range len0).map p).length = len0 := by simp
    have hg : ∀ i, i < len0 → gt ((List.range len0).map p) i = p i := fun i hi => by
      rw [gt_eq (by simpa using hi)]; simp
    refine ⟨(List.range len0).map p, rdE_mk hl hlz fun i hi j hj u hu => ?_, ?_, fun i hi => ?_⟩
    · rw [hg i hi] at hu
      obtain ⟨h1, h2, _⟩ := hp i hi
      have : j = 0 ∨ j = 1 := by simp only [encP] at hj; omega
      rcases this with rfl | rfl
      · simp [encP] at hu; subst hu; simpa [encP] using h1
      · simp [encP] at hu; subst hu; simpa [encP] using h2
    · rw [hlz]; unfold maxLen at hm; omega
    · rw [hlz] at hi
      rw [hg i hi]
      obtain ⟨_, _, h3, h4⟩ := hp i hi
      exact ⟨bounds_i64 h3, bounds_i64 h4⟩
end

/-- What a law's walk gives: true, and below the old heap nothing has turned. -/
theorem lift_walk {P : Program} {f : Nat} {args : List Value} {W : World} (h : Fx P f args W.heap (fun v h' => v = .bool true ∧ Ext W.heap.size W.heap h')) :
    Calls P f args.toArray W fun e w' => e = .returned (.bool true) ∧ Below W.heap.size W w' :=
  (h W rfl).mono fun e w' ⟨v, he, hq, hv, hx⟩ => by
    subst hv
    exact ⟨he, ⟨hq.os, hq.tape, hq.output, hx.size, hx.block⟩⟩
end Go.X
