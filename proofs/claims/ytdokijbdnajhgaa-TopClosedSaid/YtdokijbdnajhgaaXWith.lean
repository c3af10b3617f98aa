/-
  Sets within sets: the bits of a number that may be negative; all sets within one, rising; shattered sets.
-/
import Derived.Test.YtdokijbdnajhgaaXSet
set_option linter.unusedSimpArgs false
set_option linter.unusedVariables false
namespace Go.X
section
variable {P : Program} {S : Heap → Prop} {kd : Oper → Kd} {ops : Array Oper} {rest : List Oper} {K : Env → Heap → Prop} {L : List (Nat × Value)} {b : Env} {h : Heap}
variable {d : Nat} {tx ty t : TypeId} {p : String} {af : Array Edge} {g : Option (Nat × Bool)} {x y : Operand}
theorem back_andZ {m : Int} {n : Nat} (hn : n < 2 ^ 64) : ((BitVec.ofInt 64 m &&& BitVec.ofInt 64 (n : Int)).toNat : Nat) = (ur m &&& n : Nat) := by
  rw [BitVec.toNat_and, BitVec.toNat_ofInt, BitVec.toNat_ofInt]
  congr 1
  show ((n : Int) % ((2 ^ 64 : Nat) : Int)).toNat = n
  rw [Int.emod_eq_of_lt (by omega) (by omega)]; simp
theorem lx_andZ {m : Int} {n : Nat} (hw : Region.wanted ⟨some d, .binOp .and tx x y ty, t, p, af, g⟩ (yieldE ops (ups L b)) = true) (hx : ev (ups L b) x = .int .i64 m) (hy : ev (ups L b) y = .int .i64 ((n : Nat) : Int)) (hn' : n < 2 ^ 63)
    (hn : Lx P S kd ops rest K (ups ((d, .int .i64 (((ur m &&& n : Nat) : Nat) : Int)) :: L) b) h) : Lx P S kd ops (⟨some d, .binOp .and tx x y ty, t, p, af, g⟩ :: rest) K (ups L b) h :=
  lx_free _ hw (fo_int hx hy fun w => by
    have hle : (ur m &&& n) ≤ n := Nat.and_le_right
    have hwr : IntKind.i64.wrap (((ur m &&& n : Nat) : Nat) : Int) = (((ur m &&& n : Nat) : Nat) : Int) := wrap_i64 (by omega) (by omega)
    have hb : ((BitVec.ofInt IntKind.i64.bits m &&& BitVec.ofInt IntKind.i64.bits (n : Int)).toNat : Nat) = (ur m &&& n : Nat) := back_andZ (by omega)
    simp only [binOp, Op.intBits, ne_eq, not_true_eq_false, if_false, hb, hwr]
    simp) hn
end
/-- All sets within 'm', rising. -/
def subs (m : Nat) : List Nat := (List.range (m + 1)).filter fun s => s &&& m == s
def nxS (s m : Nat) : Nat := ur ((s : Int) - (m : Int)) &&& m
def subsB (m : Nat) : Bool := decide (0 < (subs m).length ∧ gt (subs m) 0 = 0 ∧ gt (subs m) ((subs m).length - 1) = m) && (List.range ((subs m).length - 1)).all fun j => decide (nxS (gt (subs m) j) m = gt (subs m) (j + 1) ∧ gt (subs m) j ≠ m)
theorem subs_all : ((List.range 128).all subsB) = true := by decide +kernel
theorem subs_ok {m : Nat} (h : m < 128) : 0 < (subs m).length ∧ gt (subs m) 0 = 0 ∧ gt (subs m) ((subs m).length - 1) = m ∧ ∀ j, j + 1 < (subs m).length → nxS (gt (subs m) j) m = gt (subs m) (j + 1) ∧ gt (subs m) j ≠ m := by
  have h1 := rall_iff.1 subs_all m h
  unfold subsB at h1
  rw [Bool.and_eq_true, decide_eq_true_iff, rall_iff] at h1
  exact ⟨h1.1.1, h1.1.2.1, h1.1.2.2, fun j hj => by have := h1.2 j (by omega); rwa [decide_eq_true_iff] at this⟩
theorem mem_subs {m s : Nat} : s ∈ subs m ↔ s &&& m = s := by
  unfold subs
  rw [List.mem_filter, List.mem_range, beq_iff_eq]
  exact ⟨fun h => h.2, fun h => ⟨by have : s &&& m ≤ m := Nat.and_le_right; omega, h⟩⟩
theorem subs_le {m k : Nat} (h : k < (subs m).length) : gt (subs m) k ≤ m := by
  have := mem_subs.1 (gt_mem h)
  have h2 : gt (subs m) k &&& m ≤ m := Nat.and_le_right
  omega
/-- Whether the common parts with 'm' of a family are 's', too. -/
def trB (xs : List Int) (m s : Nat) : Bool := xs.any fun x => x.toNat &&& m == s
def shB (xs : List Int) (m : Nat) : Bool := (List.range (subs m).length).all fun k => trB xs m (gt (subs m) k)
theorem shB_iff {xs : List Int} {m : Nat} : shB xs m = true ↔ ∀ s, s &&& m = s → ∃ x, x ∈ xs ∧ x.toNat &&& m = s := by
  unfold shB trB
  rw [rall_iff]
  constructor
  · intro h s hs
    obtain ⟨k, hk, rfl⟩ := mem_gt (mem_subs.2 hs)
    obtain ⟨x, hx, he⟩ := List.any_eq_true.1 (h k hk)
    exact ⟨x, hx, by simpa using he⟩
  · intro h k hk
    obtain ⟨x, hx, he⟩ := h _ (mem_subs.1 (gt_mem hk))
    exact List.any_eq_true.2 ⟨x, hx, by simpa using he⟩
def trBk (xs : List Int) (m k s : Nat) : Bool := (xs.take k).any fun x => x.toNat &&& m == s
theorem trBk_succ {xs : List Int} {m k s : Nat} (hk : k < xs.length) : trBk xs m (k + 1) s = (trBk xs m k s || ((gt xs k).toNat &&& m == s)) := by
  unfold trBk
  rw [List.take_add_one, gt_some hk, List.any_append]; simp
theorem trBk_all {xs : List Int} {m k s : Nat} (hk : k = xs.length) : trBk xs m k s = trB xs m s := by unfold trBk trB; rw [hk, List.take_length]
theorem filtF_len_yes {N : Nat} {f : Nat → Bool} (h : f N = true) : (filtF (N + 1) f).length = (filtF N f).length + 1 := by rw [← filtF_yes h]; simp
theorem filtF_len_no {N : Nat} {f : Nat → Bool} (h : f N = false) : (filtF (N + 1) f).length = (filtF N f).length := by rw [← filtF_no h]
theorem filtF_pre {f : Nat → Bool} {w : Nat} : ∀ d, ∃ r, filtF (w + d) f = filtF w f ++ r
  | 0 => ⟨[], by simp⟩
  | d + 1 => by
    obtain ⟨r, hr⟩ := filtF_pre (f := f) (w := w) d
    rw [show w + (d + 1) = (w + d) + 1 from rfl, filtF_succ, hr, List.append_assoc]
    exact ⟨_, rfl⟩
theorem filtF_at {N w : Nat} {f : Nat → Bool} (hw : w < N) (h : f w = true) : (filtF w f).length < (filtF N f).length ∧ gt (filtF N f) (filtF w f).length = (w : Int) := by
  obtain ⟨r, hr⟩ := filtF_pre (f := f) (w := w + 1) (N - (w + 1))
  rw [show w + 1 + (N - (w + 1)) = N from by omega, ← filtF_yes h] at hr
  rw [hr]
  refine ⟨by rw [List.length_append, List.length_append]; show _ < _ + 1 + _; omega, ?_⟩
  rw [gt_append_left (by rw [List.length_append]; show _ < _ + 1; omega), gt_append_right]
theorem gt_asc {xs : List Int} (h : xs.Pairwise (· < ·)) {i j : Nat} (hij : i < j) (hj : j < xs.length) : gt xs i < gt xs j := by
  rw [gt_eq (by omega), gt_eq hj]
  exact List.pairwise_iff_getElem.1 h i j (by omega) hj hij
theorem bit_no {s x : Nat} (h : ¬ s / 2 ^ x % 2 = 1) : s.testBit x = false := by
  cases c : s.testBit x
  · rfl
  · exact absurd (bit_mod.2 c) h
end Go.X
