/-
  Texts in one: XOSort, XOSortB, XOMin, XArr, XFive, PD, PE, PF, PG, PH, XSubs, PV, PI, PK, PL, PN, PS, PT, PU, PO, PP, OO, XOBits, XOLen.
-/
import Derived.Test.YtdokijbdnajhgaaMSub5
import Derived.Shelf.Sort.Plain
import Derived.Ground.Names2Prog
import Derived.Shelf.Slices.CompactI
import Derived.Test.YtdokijbdnajhgaaProg
import Derived.Shelf.Slices.Turned
import Derived.Shelf.Small.Bits
set_option linter.unusedSimpArgs false
set_option linter.unusedVariables false
namespace Go.Proofs.Ytdokijbdnajhgaa
open Go.Shelf
def Try.lays189_ren : Go.Shelf.Ren := ⟨fun | 189 => 82 | 125 => 127 | 257 => 126 | 128 => 166 | 129 => 167 | 294 => 158 | 295 => 159 | 296 => 160 | 297 => 161 | 298 => 162 | 299 => 163 | 216 => 128 | 300 => 164 | 301 => 165 | 328 => 177 | 329 => 178 | 330 => 179 | 331 => 180 | 332 => 181 | 215 => 168 | 343 => 185 | n => n, fun | 28 => 25 | 3 => 3 | 46 => 45 | 0 => 0 | 51 => 163 | 53 => 149 | 4 => 4 | 183 => 184 | 182 => 183 | 131 => 113 | 5 => 5 | 9 => 9 | 218 => 194 | 222 => 198 | 228 => 203 | 229 => 77 | n => n, fun | n => n⟩
theorem Try.lays189 : Go.Proofs.Lays.n189 Try.prog Try.lays189_ren := {
  mixed := by kernel_rfl
  f125 := Try.func127.trans (congrArg some (by kernel_rfl))
  f128 := Try.func166.trans (congrArg some (by kernel_rfl))
  f129 := Try.func167.trans (congrArg some (by kernel_rfl))
  f189 := Try.func82.trans (congrArg some (by kernel_rfl))
  f215 := Try.func168.trans (congrArg some (by kernel_rfl))
  f216 := Try.func128.trans (congrArg some (by kernel_rfl))
  f257 := Try.func126.trans (congrArg some (by kernel_rfl))
  f294 := Try.func158.trans (congrArg some (by kernel_rfl))
  f295 := Try.func159.trans (congrArg some (by kernel_rfl))
  f296 := Try.func160.trans (congrArg some (by kernel_rfl))
  f297 := Try.func161.trans (congrArg some (by kernel_rfl))
  f298 := Try.func162.trans (congrArg some (by kernel_rfl))
  f299 := Try.func163.trans (congrArg some (by kernel_rfl))
  f300 := Try.func164.trans (congrArg some (by kernel_rfl))
  f301 := Try.func165.trans (congrArg some (by kernel_rfl))
  f328 := Try.func177.trans (congrArg some (by kernel_rfl))
  f329 := Try.func178.trans (congrArg some (by kernel_rfl))
  f330 := Try.func179.trans (congrArg some (by kernel_rfl))
  f331 := Try.func180.trans (congrArg some (by kernel_rfl))
  f332 := Try.func181.trans (congrArg some (by kernel_rfl))
  f343 := Try.func185.trans (congrArg some (by kernel_rfl))
  t0 := Try.underlying0
  a0 := Try.isAgg0
  z0 := Try.sizeOf0
  v0 := Try.zeroValue0
  t3 := Try.underlying3
  a3 := Try.isAgg3
  z3 := Try.sizeOf3
  v3 := Try.zeroValue3
  t4 := Try.underlying4
  a4 := Try.isAgg4
  z4 := Try.sizeOf4
  v4 := Try.zeroValue4
  t5 := Try.underlying5
  a5 := Try.isAgg5
  z5 := Try.sizeOf5
  v5 := Try.zeroValue5
  t9 := Try.underlying9
  a9 := Try.isAgg9
  z9 := Try.sizeOf9
  v9 := Try.zeroValue9
  t28 := Try.underlying25
  a28 := Try.isAgg25
  z28 := Try.sizeOf25
  v28 := Try.zeroValue25
  t46 := Try.underlying45
  a46 := Try.isAgg45
  z46 := Try.sizeOf45
  v46 := Try.zeroValue45
  t51 := Try.underlying163
  a51 := Try.isAgg163
  z51 := Try.sizeOf163
  v51 := Try.zeroValue163
  t53 := Try.underlying149
  a53 := Try.isAgg149
  z53 := Try.sizeOf149
  v53 := Try.zeroValue149
  t131 := Try.underlying113
  a131 := Try.isAgg113
  z131 := Try.sizeOf113
  v131 := Try.zeroValue113
  t182 := Try.underlying183
  a182 := Try.isAgg183
  z182 := Try.sizeOf183
  v182 := Try.zeroValue183
  t183 := Try.underlying184
  a183 := Try.isAgg184
  z183 := Try.sizeOf184
  v183 := Try.zeroValue184
  t218 := Try.underlying194
  a218 := Try.isAgg194
  z218 := Try.sizeOf194
  v218 := Try.zeroValue194
  t222 := Try.underlying198
  a222 := Try.isAgg198
  z222 := Try.sizeOf198
  v222 := Try.zeroValue198
  t228 := Try.underlying203
  a228 := Try.isAgg203
  z228 := Try.sizeOf203
  v228 := Try.zeroValue203
  t229 := Try.underlying77
  a229 := Try.isAgg77
  z229 := Try.sizeOf77
  v229 := Try.zeroValue77 }
open Go.Sort Go.RowKit in
theorem Try.slices_Sort_int (blk off cap : Nat) (zs : List Int) (w : World) (hH : Holds (Value.int .i64) w blk off zs.toArray) (hblk : blk < w.heap.size) (hsz : zs.length < 4611686018427387904) :
    Calls Try.prog 82 #[.slice (some ⟨blk, off, none⟩) zs.length cap] w fun e w' =>
      e = .returned (.tuple #[]) ∧ ∃ n os, w' = grow (putRow (Value.int .i64) (Sort.ahead w n) blk off (zs.mergeSort fun x y => decide (x ≤ y)).toArray) os := Any.slices_Sort_int Try.lays189 blk off cap zs w hH hblk hsz
def Try.laysNm220_ren : Go.Shelf.Ren := ⟨fun | 20 => 123 | n => n, fun | 22 => 25 | 3 => 3 | 4 => 4 | 0 => 0 | n => n, fun | n => n⟩
theorem Try.laysNm220 : Go.Proofs.Lays2.n20 Try.prog Try.laysNm220_ren := {
  mixed := by kernel_rfl
  f20 := Try.func123.trans (congrArg some (by kernel_rfl))
  t0 := Try.underlying0
  a0 := Try.isAgg0
  z0 := Try.sizeOf0
  v0 := Try.zeroValue0
  t3 := Try.underlying3
  a3 := Try.isAgg3
  z3 := Try.sizeOf3
  v3 := Try.zeroValue3
  t4 := Try.underlying4
  a4 := Try.isAgg4
  z4 := Try.sizeOf4
  v4 := Try.zeroValue4
  t22 := Try.underlying25
  a22 := Try.isAgg25
  z22 := Try.sizeOf25
  v22 := Try.zeroValue25
  i3 := by kernel_rfl }
open Go.RowKit Go.Lib Go.Sort in
theorem Try.slices_Compact_int (blk off cap : Nat) (zs : List Int) (w : World) (hH : Holds (Value.int .i64) w blk off zs.toArray) (hsz : zs.length ≤ 9223372036854775807) (hcap : zs.length ≤ cap) :
    Calls Try.prog 123 #[.slice (some ⟨blk, off, none⟩) zs.length cap] w fun e w' => e = .returned (.slice (some ⟨blk, off, none⟩) (Lib.compact zs).length cap) ∧ ∃ q, w' = putRow (Value.int .i64) (Sort.ahead w q) blk off (Lib.compact zs ++ List.replicate (zs.length - (Lib.compact zs).length) 0).toArray := Any.slices_Compact_int Try.laysNm220 blk off cap zs w hH hsz hcap
end Go.Proofs.Ytdokijbdnajhgaa
namespace Go.Proofs.Ytdokijbdnajhgaa
open Go Go.X Go.Sort
/-- The name, here. -/
abbrev encI : Enc Int := Go.X.encI
theorem flat_encI (xs : List Int) : xs.flatMap encI.f = xs.map (Value.int .i64) := by
  induction xs with
  | nil => rfl
  | cons x xs ih => rw [List.flatMap_cons, ih]; rfl
theorem put_take (d : List Int) (c : Array Value) (k : Nat) (hk : k ≤ d.length) (hc : d.length ≤ c.size) : (putCells (Value.int .i64) 0 d.toArray c).toList.take k = (d.take k).map (Value.int .i64) := by
  apply List.ext_getElem?
  intro i
  unfold putCells
  rw [List.getElem?_take]
  by_cases hi : i < k
  · rw [if_pos hi, Array.getElem?_toList, Array.getElem?_mapIdx, List.getElem?_map, List.getElem?_take, if_pos hi]
    rw [Array.getElem?_eq_getElem (by omega : i < c.size), List.getElem?_eq_getElem (by omega : i < d.length)]
    simp only [Option.map_some, Nat.sub_zero, Nat.zero_add, Nat.zero_le, true_and, List.size_toArray]
    rw [if_pos (by omega), getElem!_pos d.toArray i (by simpa using (by omega : i < d.length))]
    simp
  · rw [if_neg hi, List.getElem?_map, List.getElem?_take, if_neg hi]; rfl
/-- What the heap is when a row's cells have been written and blocks have come. -/
theorem put_own {h h' : Heap} {B : Nat} {e : TypeId} {g cap : Nat} {cur : Array Value} {d : List Int} {os : Array Obj} (hB : B ≤ g) (hg : h[g]? = some (.cells cur e (0, 0))) (hd : d.length ≤ cap) (hcap : cap ≤ maxLen) (hcur : cur.size = cap * 1)
    (hh : h' = (h.modify g (onCells (putCells (Value.int .i64) 0 d.toArray))) ++ os) (k : Nat) (hk : k ≤ d.length) :
    OwE encI h' B e (.slice (some ⟨g, 0, none⟩) k cap) (d.take k) ∧ Chg (.slice (some ⟨g, 0, none⟩) d.length cap) h h' := by
  have hgl : g < h.size := (Array.getElem?_eq_some_iff.1 hg).1
  have hsz : (h.modify g (onCells (putCells (Value.int .i64) 0 d.toArray))).size = h.size := by simp
  have e1 : h'[g]? = some (.cells (putCells (Value.int .i64) 0 d.toArray cur) e (0, 0)) := by
    rw [hh, Array.getElem?_append_left (by omega), Array.getElem?_modify, if_pos rfl, hg]; rfl
  refine ⟨⟨by rw [flat_encI, List.length_map]; exact (Nat.mul_one _).symm, .inr ⟨g, cap, putCells (Value.int .i64) 0 d.toArray cur, ?_, hB, e1, ?_, hcap, ?_, ?_⟩⟩, ⟨?_, fun i hi hne => ?_⟩⟩
  · rw [List.length_take, Nat.min_eq_left hk]
  · rw [List.length_take]; omega
  · unfold putCells; rw [Array.size_mapIdx]; exact hcur
  · rw [List.length_take, Nat.min_eq_left hk, flat_encI, show k * encI.k = k from Nat.mul_one k]
    exact put_take d cur k hk (by omega)
  · rw [hh, Array.size_append]; omega
  · have hig : g ≠ i := fun e' => hne (by rw [e']; rfl)
    rw [hh, Array.getElem?_append_left (by omega), Array.getElem?_modify, if_neg hig]
theorem own_parts {h : Heap} {B : Nat} {e : TypeId} {v : Value} {xs : List Int} (ho : OwE encI h B e v xs) (hne : xs ≠ []) :
    ∃ g cap cur, v = .slice (some ⟨g, 0, none⟩) xs.length cap ∧ B ≤ g ∧ h[g]? = some (.cells cur e (0, 0)) ∧ xs.length ≤ cap ∧ cap ≤ maxLen ∧ cur.size = cap * 1 ∧ cur.toList.take xs.length = xs.map (Value.int .i64) := by
  obtain ⟨_, h1 | ⟨g, cap, cur, hv, hB, hg, hn, hm, hs, ht⟩⟩ := ho
  · exact absurd (List.length_eq_zero_iff.1 h1.2) hne
  · rw [flat_encI, show xs.length * encI.k = xs.length from Nat.mul_one _] at ht
    exact ⟨g, cap, cur, hv, hB, hg, hn, hm, hs, ht⟩
theorem own_holds {w : World} {B : Nat} {e : TypeId} {xs : List Int} {g cap : Nat} {cur : Array Value} (hg : w.heap[g]? = some (.cells cur e (0, 0))) (ht : cur.toList.take xs.length = xs.map (Value.int .i64)) : Holds (Value.int .i64) w g 0 xs.toArray := by
  intro j hj
  have hj' : j < xs.length := by simpa using hj
  have hc : cur[j]? = some (Value.int .i64 xs[j]) := by
    have := congrArg (fun l => l[j]?) ht
    simp only [List.getElem?_take, List.getElem?_map] at this
    rw [if_pos hj', Array.getElem?_toList] at this
    rw [this, List.getElem?_eq_getElem hj']; rfl
  constructor
  · rw [cell_eq]
    unfold cellA
    rw [hg]
    simp only [Nat.zero_add, hc]
    rw [getElem!_pos xs.toArray j (by simpa using hj')]
    simp
  · unfold World.frozen?
    rw [hg]
    simp
theorem lsort_gen {t : TypeId} (h : Heap) (B : Nat) (v : Value) (xs : List Int) (ho : OwE encI h B t v xs) (_ : B ≤ h.size) (hne : xs ≠ []) (hl : xs.length ≤ 1000000) :
    Fx Try.prog 82 [v] h (fun r h' => r = .tuple #[] ∧ OwE encI h' B t v (xs.mergeSort fun x y => decide (x ≤ y)) ∧ Chg v h h') := by
  obtain ⟨g, cap, cur, rfl, hB, hg, hn, hm, hs, ht⟩ := own_parts ho hne
  intro w hw
  subst hw
  have hgl : g < w.heap.size := (Array.getElem?_eq_some_iff.1 hg).1
  refine (Try.slices_Sort_int g 0 cap xs w (own_holds (B := B) (cap := cap) hg ht) hgl (by omega)).mono ?_
  rintro e w' ⟨rfl, n, os, hw'⟩
  have hlen : (xs.mergeSort fun x y => decide (x ≤ y)).length = xs.length := List.length_mergeSort _
  have hh : w'.heap = (w.heap.modify g (onCells (putCells (Value.int .i64) 0 (xs.mergeSort fun x y => decide (x ≤ y)).toArray))) ++ os := by rw [hw']; rfl
  have := put_own (d := xs.mergeSort fun x y => decide (x ≤ y)) hB hg (by omega) hm hs hh xs.length (by omega)
  rw [List.take_of_length_le (by omega), hlen] at this
  exact ⟨_, rfl, by subst hw'; exact ⟨rfl, rfl, rfl⟩, rfl, this.1, this.2⟩
theorem lcompact_gen {t : TypeId} (h : Heap) (B : Nat) (v : Value) (xs : List Int) (ho : OwE encI h B t v xs) (_ : B ≤ h.size) (hne : xs ≠ []) (hl : xs.length ≤ 1000000) :
    Fx Try.prog 123 [v] h (fun r h' => ∃ s, r = s ∧ OwE encI h' B t s (Lib.compact xs) ∧ Chg v h h') := by
  obtain ⟨g, cap, cur, rfl, hB, hg, hn, hm, hs, ht⟩ := own_parts ho hne
  intro w hw
  subst hw
  have hgl : g < w.heap.size := (Array.getElem?_eq_some_iff.1 hg).1
  refine (Try.slices_Compact_int g 0 cap xs w (own_holds (B := B) (cap := cap) hg ht) (by omega) hn).mono ?_
  rintro e w' ⟨rfl, q, hw'⟩
  have hcl : (Lib.compact xs).length ≤ xs.length := by
    unfold Lib.compact Lib.compactUpTo
    rw [List.length_map]
    exact Nat.le_trans (List.length_filter_le ..) (by simp)
  have hdl : (Lib.compact xs ++ List.replicate (xs.length - (Lib.compact xs).length) 0).length = xs.length := by simp; omega
  have hh : w'.heap = (w.heap.modify g (onCells (putCells (Value.int .i64) 0 (Lib.compact xs ++ List.replicate (xs.length - (Lib.compact xs).length) 0).toArray))) ++ #[] := by rw [hw', Array.append_empty]; rfl
  have := put_own hB hg (by omega) hm hs hh (Lib.compact xs).length (by omega)
  rw [List.take_left', hdl] at this
  · exact ⟨_, rfl, by subst hw'; exact ⟨rfl, rfl, rfl⟩, _, rfl, this.1, this.2⟩
  · rfl
theorem lsort_spec (h : Heap) (B : Nat) (v : Value) (xs : List Int) (ho : OwE encI h B 3 v xs) (hB : B ≤ h.size) (hne : xs ≠ []) (hl : xs.length ≤ 1000000) :
    Fx Try.prog 82 [v] h (fun r h' => r = .tuple #[] ∧ OwE encI h' B 3 v (xs.mergeSort fun x y => decide (x ≤ y)) ∧ Chg v h h') := lsort_gen h B v xs ho hB hne hl
theorem lcompact_spec (h : Heap) (B : Nat) (v : Value) (xs : List Int) (ho : OwE encI h B 3 v xs) (hB : B ≤ h.size) (hne : xs ≠ []) (hl : xs.length ≤ 1000000) :
    Fx Try.prog 123 [v] h (fun r h' => ∃ s, r = s ∧ OwE encI h' B 3 s (Lib.compact xs) ∧ Chg v h h') := lcompact_gen h B v xs ho hB hne hl
end Go.Proofs.Ytdokijbdnajhgaa
namespace Go.Proofs.Ytdokijbdnajhgaa
open Go.Shelf
end Go.Proofs.Ytdokijbdnajhgaa
namespace Go.X
section
variable {P : Program} {S : Heap → Prop} {kd : Oper → Kd} {ops : Array Oper} {rest : List Oper} {K : Env → Heap → Prop} {L : List (Nat × Value)} {b : Env} {h : Heap}
variable {d : Nat} {t ty : TypeId} {p : String} {af : Array Edge} {g : Option (Nat × Bool)} {x : Operand}
theorem lx_sliceA {m k1 bn : Nat} {el : TypeId} (hw : Region.wanted ⟨some d, .slice t x none none none, ty, p, af, g⟩ (yieldE ops (ups L b)) = true) (hu : P.underlying t = some (.array m el)) (hs : ∀ w, (sizeOf el).run P w = .ok k1 w)
    (hx : ev (ups L b) x = .pointer (some ⟨bn, 0, none⟩))
    (hn : Lx P S kd ops rest K (ups ((d, .slice (some ⟨bn, 0, none⟩) m m) :: L) b) h) : Lx P S kd ops (⟨some d, .slice t x none none none, ty, p, af, g⟩ :: rest) K (ups L b) h :=
  lx_free _ hw (fun w _ => by
    have e0 : (if m = 0 then (⟨bn, 0, none⟩ : Addr) else (⟨bn, 0, none⟩ : Addr).add (0 * k1)) = ⟨bn, 0, none⟩ := by
      split
      · rfl
      · rw [Nat.zero_mul]; exact add_zero _
    simp [execOp, hx, Instr.sliceAt, Instr.sliceBounds, run_underlying hu, hs, Instr.sureAddr, add_zero]) hn
end
theorem own_of_blk {h : Heap} {B bn : Nat} {t : TypeId} {xs : List Int} (hb : Blk h bn (ic xs) t) (hB : B ≤ bn) (hl : xs.length ≤ 1000000) : OwE encI h B t (.slice (some ⟨bn, 0, none⟩) xs.length xs.length) xs := by
  have hf : xs.flatMap encI.f = xs.map (Value.int .i64) := Go.Proofs.Ytdokijbdnajhgaa.flat_encI xs
  refine ⟨by rw [hf, List.length_map]; exact (Nat.mul_one _).symm, .inr ⟨bn, xs.length, ic xs, rfl, hB, hb, Nat.le_refl _, Nat.le_trans hl (by decide), by rw [ic_size]; exact (Nat.mul_one _).symm, ?_⟩⟩
  rw [hf, show xs.length * encI.k = xs.length from Nat.mul_one _]
  show (xs.map _).toArray.toList.take _ = _
  rw [List.take_of_length_le (by simp)]
end Go.X
namespace Go.Proofs.Ytdokijbdnajhgaa
open Go Go.X
end Go.Proofs.Ytdokijbdnajhgaa
namespace Go.X
section
variable {P : Program}
theorem bld5 {tx el : TypeId} (hu : P.underlying tx = some (.array 5 el)) (hz : ∀ w, (zeroValue tx).run P w = .ok (.agg #[.int .i64 0, .int .i64 0, .int .i64 0, .int .i64 0, .int .i64 0]) w) (hs : ∀ w, (sizeOf el).run P w = .ok 1 w) (a b c d e : Int) (w : World) :
    (Instr.build tx #[(0, .int .i64 a), (1, .int .i64 b), (2, .int .i64 c), (3, .int .i64 d), (4, .int .i64 e)]).run P w = .ok (.agg #[.int .i64 a, .int .i64 b, .int .i64 c, .int .i64 d, .int .i64 e]) w := by
  have hc : (Value.agg #[Value.int .i64 0, Value.int .i64 0, Value.int .i64 0, Value.int .i64 0, Value.int .i64 0]).cells = #[Value.int .i64 0, Value.int .i64 0, Value.int .i64 0, Value.int .i64 0, Value.int .i64 0] := rfl
  simp [Instr.build, hz, run_underlying hu, hs, Instr.fill, hc, Value.cells]
theorem bld5z {tx el : TypeId} (hu : P.underlying tx = some (.array 5 el)) (hz : ∀ w, (zeroValue tx).run P w = .ok (.agg #[.int .i64 0, .int .i64 0, .int .i64 0, .int .i64 0, .int .i64 0]) w) (hs : ∀ w, (sizeOf el).run P w = .ok 1 w) (w : World) :
    (Instr.build tx #[]).run P w = .ok (.agg #[.int .i64 0, .int .i64 0, .int .i64 0, .int .i64 0, .int .i64 0]) w := by
  have hc : (Value.agg #[Value.int .i64 0, Value.int .i64 0, Value.int .i64 0, Value.int .i64 0, Value.int .i64 0]).cells = #[Value.int .i64 0, Value.int .i64 0, Value.int .i64 0, Value.int .i64 0, Value.int .i64 0] := rfl
  simp [Instr.build, hz, run_underlying hu, hs, Instr.fill, hc]
end
end Go.X
namespace Go.X
theorem adj_lt : ∀ {zs : List Int}, zs.Pairwise (· ≤ ·) → (∀ (j : Nat) (h : j + 1 < zs.length), zs[j] ≠ zs[j + 1]) → zs.Pairwise (· < ·)
  | [], _, _ => List.Pairwise.nil
  | [a], _, _ => List.pairwise_singleton _ _
  | a :: b :: zs, hp, hn => by
    rw [List.pairwise_cons] at hp ⊢
    have ih := adj_lt hp.2 fun j h => hn (j + 1) (by simpa using h)
    have hab : a < b := by
      have h1 := hp.1 b (by simp)
      have h2 := hn 0 (by simp)
      simp at h2
      omega
    refine ⟨fun z hz => ?_, ih⟩
    rcases List.mem_cons.1 hz with rfl | hz
    · exact hab
    · have := (List.pairwise_cons.1 ih).1 z hz
      omega
theorem compact_less {zs : List Int} (hp : zs.Pairwise (· ≤ ·)) : (Lib.compact zs).length < zs.length ↔ ¬ zs.Nodup := by
  have hlen : (Lib.compact zs).length = ((List.range zs.length).filter (Lib.keeps zs.toArray)).length := by unfold Lib.compact Lib.compactUpTo; rw [List.length_map]
  have hle : ((List.range zs.length).filter (Lib.keeps zs.toArray)).length ≤ zs.length := by
    have := List.length_filter_le (Lib.keeps zs.toArray) (List.range zs.length)
    rwa [List.length_range] at this
  have key : ((List.range zs.length).filter (Lib.keeps zs.toArray)).length = zs.length ↔ zs.Nodup := by
    constructor
    · intro h
      have h1 : ∀ j ∈ List.range zs.length, Lib.keeps zs.toArray j = true := by
        rw [← List.length_filter_eq_length_iff, h, List.length_range]
      refine (adj_lt hp fun j hj e => ?_).imp fun h => by omega
      have := h1 (j + 1) (List.mem_range.2 hj)
      unfold Lib.keeps at this
      simp [hj, Nat.lt_of_succ_lt hj] at this
      exact this e.symm
    · intro h
      have h1 : ∀ j ∈ List.range zs.length, Lib.keeps zs.toArray j = true := by
        intro j hj
        rw [List.mem_range] at hj
        unfold Lib.keeps
        rw [decide_eq_true_iff]
        by_cases h0 : j = 0
        · exact .inl h0
        · right
          have hj1 : j - 1 < zs.length := by omega
          simp [hj, hj1]
          intro e
          exact List.pairwise_iff_getElem.1 h (j - 1) j hj1 hj (by omega) e.symm
      rw [List.length_filter_eq_length_iff.2 h1, List.length_range]
  rw [hlen]
  constructor
  · intro h hn; rw [key.2 hn] at h; omega
  · intro h
    rcases Nat.lt_or_ge ((List.range zs.length).filter (Lib.keeps zs.toArray)).length zs.length with h1 | h1
    · exact h1
    · exact absurd (key.1 (by omega)) h
theorem sort_asc5 (xs : List Int) : (xs.mergeSort fun x y => decide (x ≤ y)).Pairwise (· ≤ ·) := by
  have := List.pairwise_mergeSort (le := fun x y : Int => decide (x ≤ y)) (by intro a b c h1 h2; simp at *; omega) (by intro a b; simp; omega) xs
  exact this.imp fun h => by simpa using h
theorem compact_sorted (xs : List Int) : (Lib.compact (xs.mergeSort fun x y => decide (x ≤ y))).length < xs.length ↔ ¬ xs.Nodup := by
  have h1 := compact_less (sort_asc5 xs)
  rw [List.length_mergeSort, List.Perm.nodup_iff (List.mergeSort_perm xs _)] at h1
  exact h1
end Go.X
namespace Go.Proofs.Ytdokijbdnajhgaa
open Go Go.X

def mtB (n : Nat) (f : Nat → Nat → Bool) (x y o i : Nat) : Bool := decide (joinF n f x y = ((i : Nat) : Int)) && decide (meetF n f x y = ((o : Nat) : Int))
theorem mtB_iff {n x y o i : Nat} {f : Nat → Nat → Bool} (ho : IsO n f) (hg : noGap n f) (hx : x < n) (hy : y < n) : mtB n f x y o i = true ↔ mN n f x y = o ∧ jN n f x y = i := by
  unfold mtB
  rw [Bool.and_eq_true, decide_eq_true_iff, decide_eq_true_iff, (jN_at ho hg hx hy).1, (mN_at ho hg hx hy).1]
  omega
theorem nodup5 {o a b c i : Nat} : ([((o : Nat) : Int), ((a : Nat) : Int), ((b : Nat) : Int), ((c : Nat) : Int), ((i : Nat) : Int)]).Nodup ↔ (o ≠ a ∧ o ≠ b ∧ o ≠ c ∧ o ≠ i ∧ a ≠ b ∧ a ≠ c ∧ a ≠ i ∧ b ≠ c ∧ b ≠ i ∧ c ≠ i) := by
  simp only [List.nodup_cons, List.mem_cons, List.not_mem_nil, or_false, not_or, List.nodup_nil, not_false_eq_true, and_true]
  omega
theorem bad_dec {n o a b c i : Nat} {f : Nat → Nat → Bool} (ho : IsO n f) (hg : noGap n f) (ha : a < n) (hb : b < n) (hc : c < n) :
    badP n f o a b c i ↔ ([((o : Nat) : Int), ((a : Nat) : Int), ((b : Nat) : Int), ((c : Nat) : Int), ((i : Nat) : Int)]).Nodup ∧ mtB n f a c o i = true ∧ mtB n f b c o i = true ∧ ((decide (a ≠ b) && f a b) = true ∨ mtB n f a b o i = true) := by
  rw [nodup5, mtB_iff ho hg ha hc, mtB_iff ho hg hb hc, mtB_iff ho hg ha hb, Bool.and_eq_true, decide_eq_true_iff]
  unfold badP
  constructor
  · rintro ⟨h1, h2, h3, h4, h5, h6⟩
    exact ⟨h1, ⟨h2, h3⟩, ⟨h4, h5⟩, h6.imp (fun h => ⟨h1.2.2.2.2.1, h⟩) id⟩
  · rintro ⟨h1, ⟨h2, h3⟩, ⟨h4, h5⟩, h6⟩
    exact ⟨h1, h2, h3, h4, h5, h6.imp (fun h => h.2) id⟩

set_option maxRecDepth 10000 in
theorem meets_spec (h : Heap) (x : Nat) (y : Nat) (n : Nat) (f : Nat → Nat → Bool) (o : Nat) (i : Nat) (vj : Value) (hj : List Hdr) (rj : List (List Int)) (vm : Value) (hm : List Hdr) (rm : List (List Int)) (bl : Nat) (bi : Nat) (bo : Nat) (hb_bl : Blk h bl (#[vj, vm]) 119) (hb_bi : Blk h bi (#[.int .i64 ((i : Nat) : Int)]) 3) (hb_bo : Blk h bo (#[.int .i64 ((o : Nat) : Int)]) 3) (hr_vj : RdE encHd h vj hj) (ht_vj : RT encI h hj rj) (hr_vm : RdE encHd h vm hm) (ht_vm : RT encI h hm rm) (hp1 : n ≤ 12) (hp2 : rj = tabI n (joinF n f)) (hp3 : rm = tabI n (meetF n f)) (hp4 : x < n) (hp5 : y < n) : Fx Try.prog 133 [.int .i64 ((x : Nat) : Int), .int .i64 ((y : Nat) : Int), .pointer (some ⟨bl, 0, none⟩), .pointer (some ⟨bi, 0, none⟩), .pointer (some ⟨bo, 0, none⟩)] h (fun v h' => v = .bool ((decide (joinF n f x y = ((i : Nat) : Int)) && decide (meetF n f x y = ((o : Nat) : Int)))) ∧ h = h') := by
  have hl_vj := ht_vj.1
  have hl_vm := ht_vm.1
  refine fx_intro (n := 30) [(0, .int .i64 ((x : Nat) : Int)), (1, .int .i64 ((y : Nat) : Int)), (2, .pointer (some ⟨bl, 0, none⟩)), (3, .pointer (some ⟨bi, 0, none⟩)), (4, .pointer (some ⟨bo, 0, none⟩))] Try.func133 rfl rfl (by simp) ⟨rfl, rfl, rfl, rfl, rfl, trivial⟩ fun g0 => ?_
  refine wi_seq <| wi_reg rfl <| lx_assign (.bool false) rfl rfl <| lx_nil <| wi_seq <| wi_draw mo rfl (by decide +kernel) <| ?_
  have hjl : rj.length = n := by rw [hp2]; exact tabI_len _ _
  have hml : rm.length = n := by rw [hp3]; exact tabI_len _ _
  have hjr : gt rj x = mapR n (joinF n f x) := by rw [hp2, gt_tabI (by omega)]
  have hmr : gt rm x = mapR n (meetF n f x) := by rw [hp3, gt_tabI (by omega)]
  have hjl2 : (gt rj x).length = n := by rw [hjr]; exact mapR_len _ _
  have hml2 : (gt rm x).length = n := by rw [hmr]; exact mapR_len _ _
  have hje : gt (gt rj x) y = joinF n f x y := by rw [hjr, gt_mapR (by omega)]
  have hme : gt (gt rm x) y = meetF n f x y := by rw [hmr, gt_mapR (by omega)]
  refine lx_fieldL (i := 0) rfl st119 (.inl rfl) rfl <| lx_ldB (vj) rfl rfl fl49 hb_bl rfl rfl <| lx_move (.int .i64 ((x : Nat) : Int)) rfl rfl <| lx_ix (i := x) rfl eT49 hr_vj rfl rfl (by omega) <| lx_ld (i := x) (j := 0) ((gt hj x).v) rfl rfl fl25 hr_vj (by omega) rfl rfl <| lx_move (.int .i64 ((y : Nat) : Int)) rfl rfl <| lx_ix (i := y) rfl eT25 (ht_vj.2 x (by omega)) rfl rfl (by omega) <| lx_ld (i := y) (j := 0) (.int .i64 (gt (gt rj x) y)) rfl rfl fl3 (ht_vj.2 x (by omega)) (by omega) rfl rfl <| lx_ldB (.int .i64 ((i : Nat) : Int)) rfl rfl fl3 hb_bi rfl rfl <| lx_eqlS rfl rfl rfl (fun c1 => ?_) (fun c1 => ?_)
  · refine lx_move (.bool true) rfl rfl <| lx_fieldL (i := 1) rfl st119 (.inr rfl) rfl <| lx_ldB (vm) rfl rfl fl49 hb_bl rfl rfl <| lx_move (.int .i64 ((x : Nat) : Int)) rfl rfl <| lx_ix (i := x) rfl eT49 hr_vm rfl rfl (by omega) <| lx_ld (i := x) (j := 0) ((gt hm x).v) rfl rfl fl25 hr_vm (by omega) rfl rfl <| lx_move (.int .i64 ((y : Nat) : Int)) rfl rfl <| lx_ix (i := y) rfl eT25 (ht_vm.2 x (by omega)) rfl rfl (by omega) <| lx_ld (i := y) (j := 0) (.int .i64 (gt (gt rm x) y)) rfl rfl fl3 (ht_vm.2 x (by omega)) (by omega) rfl rfl <| lx_ldB (.int .i64 ((o : Nat) : Int)) rfl rfl fl3 hb_bo rfl rfl <| lx_eqlS rfl rfl rfl (fun c2 => ?_) (fun c2 => ?_)
    · refine lx_pick true (.bool true) rfl rfl rfl <| lx_assign (.bool true) rfl rfl <| lx_nil <| ?_
      -- R1
      refine wi_ret ⟨.bool true, (res_one rfl rfl), ⟨?_, rfl⟩⟩
      · rw [← hje, ← hme, decide_eq_true (by omega), decide_eq_true (by omega)]; rfl
    · refine lx_pick true (.bool false) rfl rfl rfl <| lx_assign (.bool false) rfl rfl <| lx_nil <| ?_
      -- R2
      refine wi_ret ⟨.bool false, (res_one rfl rfl), ⟨?_, rfl⟩⟩
      · rw [← hje, ← hme, decide_eq_true (by omega), decide_eq_false (by omega)]; rfl
  · refine lx_move (.bool false) rfl rfl <| lx_skip rfl <| lx_skip rfl <| lx_skip rfl <| lx_skip rfl <| lx_skip rfl <| lx_skip rfl <| lx_skip rfl <| lx_skip rfl <| lx_skip rfl <| lx_skip rfl <| lx_pick false (.bool false) rfl rfl rfl <| lx_assign (.bool false) rfl rfl <| lx_nil <| ?_
    -- R3
    refine wi_ret ⟨.bool false, (res_one rfl rfl), ⟨?_, rfl⟩⟩
    · rw [← hje, decide_eq_false (by omega), Bool.false_and]

set_option maxRecDepth 10000 in
theorem isBad_spec (h : Heap) (vp : Value) (hs : List Hdr) (p : List (List Bool)) (o : Nat) (a : Nat) (b : Nat) (c : Nat) (i : Nat) (vj : Value) (hj : List Hdr) (rj : List (List Int)) (vm : Value) (hm : List Hdr) (rm : List (List Int)) (hr_vj : RdE encHd h vj hj) (ht_vj : RT encI h hj rj) (hr_vm : RdE encHd h vm hm) (ht_vm : RT encI h hm rm) (hr_vp : RdE encHd h vp hs) (ht_vp : RT encB h hs p) (hp1 : p.length ≤ 12) (hp2 : Sq p p.length) (hp3 : IsO p.length (pb p)) (hp4 : noGap p.length (pb p)) (hp5 : rj = tabI p.length (joinF p.length (pb p))) (hp6 : rm = tabI p.length (meetF p.length (pb p))) (hp7 : o < p.length) (hp8 : a < p.length) (hp9 : b < p.length) (hp10 : c < p.length) (hp11 : i < p.length) : Fx Try.prog 99 [.agg #[vj, vm], vp, .agg #[.int .i64 ((o : Nat) : Int), .int .i64 ((a : Nat) : Int), .int .i64 ((b : Nat) : Int), .int .i64 ((c : Nat) : Int), .int .i64 ((i : Nat) : Int)]] h (fun v h' => v = .bool (decide (badP p.length (pb p) o a b c i)) ∧ Ext h.size h h') := by
  have hl_vp := ht_vp.1
  have hl_vj := ht_vj.1
  have hl_vm := ht_vm.1
  refine fx_intro (n := 56) [(0, .agg #[vj, vm]), (1, vp), (2, .agg #[.int .i64 ((o : Nat) : Int), .int .i64 ((a : Nat) : Int), .int .i64 ((b : Nat) : Int), .int .i64 ((c : Nat) : Int), .int .i64 ((i : Nat) : Int)])] Try.func99 rfl rfl (by simp) ⟨rfl, rfl, rfl, trivial⟩ fun g0 => ?_
  refine wi_seq <| wi_reg rfl <| lx_box #[vj, vm] rfl rfl rfl (fun _ _ _ => trivial) fun bn1 h1 hbn1 hbk1 hx1 hsz1 => ?_
  have hbb1 : h.size ≤ bn1 := by have := (Nat.le_refl h.size); omega
  refine lx_box #[.int .i64 ((o : Nat) : Int), .int .i64 ((a : Nat) : Int), .int .i64 ((b : Nat) : Int), .int .i64 ((c : Nat) : Int), .int .i64 ((i : Nat) : Int)] rfl rfl rfl (fun _ _ _ => trivial) fun bn2 h2 hbn2 hbk2 hx2 hsz2 => ?_
  have hbb2 : h.size ≤ bn2 := by have := hx1.size; omega
  have hne1 : bn2 ≠ bn1 := by have := hbk1.lt; omega
  have hx0_1 := hx1.trans2 hx2 hx1.size
  have hb1 := hbk1.extS hx2
  refine lx_assign (.bool false) rfl rfl <| lx_nil <| wi_seq <| wi_draw2 10 (fun h9 => Blk h9 bn2 #[.int .i64 ((o : Nat) : Int), .int .i64 ((a : Nat) : Int), .int .i64 ((b : Nat) : Int), .int .i64 ((c : Nat) : Int), .int .i64 ((i : Nat) : Int)] 48) (fun o => match o.dst with | some 15 | some 17 | some 19 | some 21 | some 23 => .free | _ => kindOf o) mo rfl (by decide +kernel) hbk2 <| lx_ixB (i := 0) (0) rfl Try.underlying48 Try.sizeOf3 rfl rfl (by omega) rfl <| lx_ldBF (.int .i64 ((o : Nat) : Int)) rfl fl3 (fun _ hs => hs) rfl rfl <| lx_ixB (i := 1) (1) rfl Try.underlying48 Try.sizeOf3 rfl rfl (by omega) rfl <| lx_ldBF (.int .i64 ((a : Nat) : Int)) rfl fl3 (fun _ hs => hs) rfl rfl <| lx_ixB (i := 2) (2) rfl Try.underlying48 Try.sizeOf3 rfl rfl (by omega) rfl <| lx_ldBF (.int .i64 ((b : Nat) : Int)) rfl fl3 (fun _ hs => hs) rfl rfl <| lx_ixB (i := 3) (3) rfl Try.underlying48 Try.sizeOf3 rfl rfl (by omega) rfl <| lx_ldBF (.int .i64 ((c : Nat) : Int)) rfl fl3 (fun _ hs => hs) rfl rfl <| lx_ixB (i := 4) (4) rfl Try.underlying48 Try.sizeOf3 rfl rfl (by omega) rfl <| lx_ldBF (.int .i64 ((i : Nat) : Int)) rfl fl3 (fun _ hs => hs) rfl rfl <| lx_nil <| ⟨?_, ?_⟩
  · refine lx_alloc rfl rfl Try.zeroValue3 (fun hs _ hx => Blk.extS hs hx) fun bn3 h3 hbn3 hbk3 hx3 hsz3 => ?_
    have hbb3 : h.size ≤ bn3 := by have := hx0_1.size; omega
    have hne2 : bn3 ≠ bn1 := by have := hb1.lt; omega
    have hne3 : bn3 ≠ bn2 := by have := hbk2.lt; omega
    have hx0_2 := hx0_1.trans2 hx3 hx0_1.size
    have hb2 := hb1.extS hx3
    have hb3 := hbk2.extS hx3
    have hbk3 : Blk h3 bn3 #[.int .i64 0] 3 := hbk3
    refine lx_alloc rfl rfl Try.zeroValue3 (fun hs _ hx => Blk.extS hs hx) fun bn4 h4 hbn4 hbk4 hx4 hsz4 => ?_
    have hbb4 : h.size ≤ bn4 := by have := hx0_2.size; omega
    have hne4 : bn4 ≠ bn1 := by have := hb2.lt; omega
    have hne5 : bn4 ≠ bn2 := by have := hb3.lt; omega
    have hne6 : bn4 ≠ bn3 := by have := hbk3.lt; omega
    have hx0_3 := hx0_2.trans2 hx4 hx0_2.size
    have hb4 := hb2.extS hx4
    have hb5 := hb3.extS hx4
    have hb6 := hbk3.extS hx4
    have hbk4 : Blk h4 bn4 #[.int .i64 0] 3 := hbk4
    refine lx_stB (.int .i64 ((o : Nat) : Int)) rfl rfl Try.sizeOf3 hb6 (by simp) rfl rfl rfl rfl (fun hs _ _ hc => ChgB.blk hc hs (by omega)) fun h5 hbk5 hc1 => ?_
    have hx0_4 := hx0_3.trans (hc1.ext hbb3)
    have hb7 := hc1.blk hb4 (Ne.symm hne2)
    have hb8 := hc1.blk hb5 (Ne.symm hne3)
    have hb9 := hc1.blk hbk4 hne6
    have hbk5 : Blk h5 bn3 #[.int .i64 ((o : Nat) : Int)] 3 := hbk5
    refine lx_assign (.int .i64 ((a : Nat) : Int)) rfl rfl <| lx_assign (.int .i64 ((b : Nat) : Int)) rfl rfl <| lx_assign (.int .i64 ((c : Nat) : Int)) rfl rfl <| lx_stB (.int .i64 ((i : Nat) : Int)) rfl rfl Try.sizeOf3 hb9 (by simp) rfl rfl rfl rfl (fun hs _ _ hc => ChgB.blk hc hs (by omega)) fun h6 hbk6 hc2 => ?_
    have hx0_5 := hx0_4.trans (hc2.ext hbb4)
    have hb10 := hc2.blk hb7 (Ne.symm hne4)
    have hb11 := hc2.blk hb8 (Ne.symm hne5)
    have hb12 := hc2.blk hbk5 (Ne.symm hne6)
    have hbk6 : Blk h6 bn4 #[.int .i64 ((i : Nat) : Int)] 3 := hbk6
    refine lx_nil <| wi_seq <| wi_reg rfl <| lx_makeFunc [] [.pointer (some ⟨bn1, 0, none⟩), .pointer (some ⟨bn4, 0, none⟩), .pointer (some ⟨bn3, 0, none⟩)] rfl rfl rfl <| lx_assign (.func (.func 133) #[] #[.pointer (some ⟨bn1, 0, none⟩), .pointer (some ⟨bn4, 0, none⟩), .pointer (some ⟨bn3, 0, none⟩)]) rfl rfl <| lx_nil <| wi_seq <| wi_reg rfl <| lx_ldBA rfl rfl wd48 hb11 rfl rfl <| lx_alloc rfl rfl Try.zeroValue48 (fun _ _ _ => trivial) fun bn5 h7 hbn5 hbk7 hx5 hsz5 => ?_
    have hbb5 : h.size ≤ bn5 := by have := hx0_5.size; omega
    have hne7 : bn5 ≠ bn1 := by have := hb10.lt; omega
    have hne8 : bn5 ≠ bn2 := by have := hb11.lt; omega
    have hne9 : bn5 ≠ bn3 := by have := hb12.lt; omega
    have hne10 : bn5 ≠ bn4 := by have := hbk6.lt; omega
    have hx0_6 := hx0_5.trans2 hx5 hx0_5.size
    have hb13 := hb10.extS hx5
    have hb14 := hb11.extS hx5
    have hb15 := hb12.extS hx5
    have hb16 := hbk6.extS hx5
    have hbk7 : Blk h7 bn5 #[.int .i64 0, .int .i64 0, .int .i64 0, .int .i64 0, .int .i64 0] 48 := hbk7
    refine lx_stBA (#[.int .i64 ((o : Nat) : Int), .int .i64 ((a : Nat) : Int), .int .i64 ((b : Nat) : Int), .int .i64 ((c : Nat) : Int), .int .i64 ((i : Nat) : Int)]) rfl rfl Try.sizeOf48 hbk7 rfl rfl rfl rfl (by simp [Value.oneCell']) (fun _ _ _ _ => trivial) fun h8 hbk8 hc3 => ?_
    have hx0_7 := hx0_6.trans (hc3.ext hbb5)
    have hb17 := hc3.blk hb13 (Ne.symm hne7)
    have hb18 := hc3.blk hb14 (Ne.symm hne8)
    have hb19 := hc3.blk hb15 (Ne.symm hne9)
    have hb20 := hc3.blk hb16 (Ne.symm hne10)
    refine lx_nil <| wi_seq <| wi_reg rfl <| lx_sliceA rfl Try.underlying48 Try.sizeOf3 rfl <| ?_
    have ho1 : OwE encI h8 h.size 48 (.slice (some ⟨bn5, 0, none⟩) 5 5) ([((o : Nat) : Int), ((a : Nat) : Int), ((b : Nat) : Int), ((c : Nat) : Int), ((i : Nat) : Int)]) := own_of_blk (xs := [((o : Nat) : Int), ((a : Nat) : Int), ((b : Nat) : Int), ((c : Nat) : Int), ((i : Nat) : Int)]) hbk8 hbb5 (by simp)
    have hdj1 : Value.ownBlock (.slice (some ⟨bn5, 0, none⟩) 5 5) ≠ some bn1 := fun e => (Ne.symm hne7) (Option.some.inj e).symm
    have hdj2 : Value.ownBlock (.slice (some ⟨bn5, 0, none⟩) 5 5) ≠ some bn2 := fun e => (Ne.symm hne8) (Option.some.inj e).symm
    have hdj3 : Value.ownBlock (.slice (some ⟨bn5, 0, none⟩) 5 5) ≠ some bn3 := fun e => (Ne.symm hne9) (Option.some.inj e).symm
    have hdj4 : Value.ownBlock (.slice (some ⟨bn5, 0, none⟩) 5 5) ≠ some bn4 := fun e => (Ne.symm hne10) (Option.some.inj e).symm
    refine lx_call [(.slice (some ⟨bn5, 0, none⟩) 5 5)] rfl rfl Try.call82 rfl (lsort_gen (t := 48) h8 h.size ((.slice (some ⟨bn5, 0, none⟩) 5 5)) ([((o : Nat) : Int), ((a : Nat) : Int), ((b : Nat) : Int), ((c : Nat) : Int), ((i : Nat) : Int)]) ho1 hx0_7.size (by simp) (by simp)) (fun _ _ _ => trivial) ?_
    rintro _ h9 ⟨rfl, ho2, hx6⟩
    have hx0_8 := hx0_7.trans (ho1.ext hx6 hx0_7.size)
    have hb21 := hb17.chg hx6 hdj1
    have hb22 := hb18.chg hx6 hdj2
    have hb23 := hb19.chg hx6 hdj3
    have hb24 := hb20.chg hx6 hdj4
    refine lx_nil <| wi_seq <| wi_seq <| wi_reg rfl <| lx_sliceA rfl Try.underlying48 Try.sizeOf3 rfl <| ?_
    refine lx_call [(.slice (some ⟨bn5, 0, none⟩) 5 5)] rfl rfl Try.call123 rfl (lcompact_gen (t := 48) h9 h.size ((.slice (some ⟨bn5, 0, none⟩) 5 5)) ((([((o : Nat) : Int), ((a : Nat) : Int), ((b : Nat) : Int), ((c : Nat) : Int), ((i : Nat) : Int)]).mergeSort fun x y => decide (x ≤ y))) ho2 hx0_8.size (fun e => by have := congrArg List.length e; simp at this) (by simp)) (fun _ _ _ => trivial) ?_
    rintro v1 h10 ⟨_, rfl, ho3, hx7⟩
    have hx0_9 := hx0_8.trans (ho2.ext hx7 hx0_8.size)
    have hb25 := hb21.chg hx7 hdj1
    have hb26 := hb22.chg hx7 hdj2
    have hb27 := hb23.chg hx7 hdj3
    have hb28 := hb24.chg hx7 hdj4
    refine lx_len rfl Try.underlying25 ho3.rd rfl <| lx_lssS rfl rfl rfl (fun c1 => ?_) (fun c1 => ?_)
    · refine lx_move (.bool true) rfl rfl <| lx_skip rfl <| lx_skip rfl <| lx_skip rfl <| lx_skip rfl <| lx_skip rfl <| lx_pick true (.bool true) rfl rfl rfl <| lx_move (.bool true) rfl rfl <| lx_skip rfl <| lx_skip rfl <| lx_skip rfl <| lx_skip rfl <| lx_skip rfl <| lx_pick true (.bool true) rfl rfl rfl <| lx_nil <| wi_true rfl <| wi_seq <| wi_reg rfl <| lx_assign (.bool false) rfl rfl <| lx_nil <| ?_
      -- R1
      refine wi_ret ⟨.bool false, (res_one rfl rfl), ⟨?_, hx0_9⟩⟩
      · congr 1; exact (decide_eq_false fun hb => absurd ((bad_dec hp3 hp4 (by omega) (by omega) (by omega)).1 hb).1 ((compact_sorted [((o : Nat) : Int), ((a : Nat) : Int), ((b : Nat) : Int), ((c : Nat) : Int), ((i : Nat) : Int)]).1 (by simp only [List.length_cons, List.length_nil]; omega))).symm
    · refine lx_move (.bool false) rfl rfl <| lx_move (.func (.func 133) #[] #[.pointer (some ⟨bn1, 0, none⟩), .pointer (some ⟨bn4, 0, none⟩), .pointer (some ⟨bn3, 0, none⟩)]) rfl rfl <| lx_move (.int .i64 ((a : Nat) : Int)) rfl rfl <| lx_move (.int .i64 ((c : Nat) : Int)) rfl rfl <| lx_callV [] [.pointer (some ⟨bn1, 0, none⟩), .pointer (some ⟨bn4, 0, none⟩), .pointer (some ⟨bn3, 0, none⟩)] [.int .i64 ((a : Nat) : Int), .int .i64 ((c : Nat) : Int)] rfl rfl Try.call133 rfl rfl (meets_spec h10 a c p.length ((pb p)) o i vj hj rj vm hm rm bn1 bn4 bn3 hb25 hb28 hb27 (hr_vj.extS hx0_9) (ht_vj.extS hx0_9) (hr_vm.extS hx0_9) (ht_vm.extS hx0_9) (by omega) (by omega) (by omega) (by omega) (by omega)) (fun _ _ _ => trivial) ?_
      rintro _ h11 ⟨rfl, rfl⟩
      refine lx_not rfl rfl <| lx_pick false (.bool (!((decide (joinF p.length ((pb p)) a c = ((i : Nat) : Int)) && decide (meetF p.length ((pb p)) a c = ((o : Nat) : Int)))))) rfl rfl rfl <| lx_move (.bool (!((decide (joinF p.length ((pb p)) a c = ((i : Nat) : Int)) && decide (meetF p.length ((pb p)) a c = ((o : Nat) : Int)))))) rfl rfl <| ?_
      cases c2 : ((decide (joinF p.length ((pb p)) a c = ((i : Nat) : Int)) && decide (meetF p.length ((pb p)) a c = ((o : Nat) : Int))))
      · refine lx_skip rfl <| lx_skip rfl <| lx_skip rfl <| lx_skip rfl <| lx_skip rfl <| lx_pick true (.bool true) rfl rfl rfl <| lx_nil <| wi_true rfl <| wi_seq <| wi_reg rfl <| lx_assign (.bool false) rfl rfl <| lx_nil <| ?_
        -- R2
        refine wi_ret ⟨.bool false, (res_one rfl rfl), ⟨?_, hx0_9⟩⟩
        · congr 1; exact (decide_eq_false fun hb => by have := ((bad_dec hp3 hp4 (by omega) (by omega) (by omega)).1 hb).2.1; unfold mtB at this; rw [c2] at this; cases this).symm
      · refine lx_move (.func (.func 133) #[] #[.pointer (some ⟨bn1, 0, none⟩), .pointer (some ⟨bn4, 0, none⟩), .pointer (some ⟨bn3, 0, none⟩)]) rfl rfl <| lx_move (.int .i64 ((b : Nat) : Int)) rfl rfl <| lx_move (.int .i64 ((c : Nat) : Int)) rfl rfl <| lx_callV [] [.pointer (some ⟨bn1, 0, none⟩), .pointer (some ⟨bn4, 0, none⟩), .pointer (some ⟨bn3, 0, none⟩)] [.int .i64 ((b : Nat) : Int), .int .i64 ((c : Nat) : Int)] rfl rfl Try.call133 rfl rfl (meets_spec h10 b c p.length ((pb p)) o i vj hj rj vm hm rm bn1 bn4 bn3 hb25 hb28 hb27 (hr_vj.extS hx0_9) (ht_vj.extS hx0_9) (hr_vm.extS hx0_9) (ht_vm.extS hx0_9) (by omega) (by omega) (by omega) (by omega) (by omega)) (fun _ _ _ => trivial) ?_
        rintro _ h12 ⟨rfl, rfl⟩
        refine lx_not rfl rfl <| lx_pick false (.bool (!((decide (joinF p.length ((pb p)) b c = ((i : Nat) : Int)) && decide (meetF p.length ((pb p)) b c = ((o : Nat) : Int)))))) rfl rfl rfl <| lx_nil <| wi_condS (t := !((decide (joinF p.length ((pb p)) b c = ((i : Nat) : Int)) && decide (meetF p.length ((pb p)) b c = ((o : Nat) : Int))))) rfl (fun c3 => ?_) (fun c3 => ?_)
        · refine wi_seq <| wi_reg rfl <| lx_assign (.bool false) rfl rfl <| lx_nil <| ?_
          -- R3
          refine wi_ret ⟨.bool false, (res_one rfl rfl), ⟨?_, hx0_9⟩⟩
          · congr 1; exact (decide_eq_false fun hb => by have := ((bad_dec hp3 hp4 (by omega) (by omega) (by omega)).1 hb).2.2.1; unfold mtB at this; rw [this] at c3; cases c3).symm
        · refine wi_skip <| wi_seq <| wi_reg rfl <| lx_move (vp) rfl rfl <| lx_move (.int .i64 ((a : Nat) : Int)) rfl rfl <| lx_move (.int .i64 ((b : Nat) : Int)) rfl rfl <| lx_call [vp, .int .i64 ((a : Nat) : Int), .int .i64 ((b : Nat) : Int)] rfl rfl Try.call106 rfl (below_spec h10 vp hs p a b (hr_vp.extS hx0_9) (ht_vp.extS hx0_9) (by omega) (by first | with_reducible assumption | omega) (by omega) (by omega)) (fun _ _ _ => trivial) ?_
          rintro _ h13 ⟨rfl, rfl⟩
          refine lx_move (.bool (decide (a ≠ b) && pb p a b)) rfl rfl <| ?_
          cases c4 : (decide (a ≠ b) && pb p a b)
          · refine lx_move (.func (.func 133) #[] #[.pointer (some ⟨bn1, 0, none⟩), .pointer (some ⟨bn4, 0, none⟩), .pointer (some ⟨bn3, 0, none⟩)]) rfl rfl <| lx_move (.int .i64 ((a : Nat) : Int)) rfl rfl <| lx_move (.int .i64 ((b : Nat) : Int)) rfl rfl <| lx_callV [] [.pointer (some ⟨bn1, 0, none⟩), .pointer (some ⟨bn4, 0, none⟩), .pointer (some ⟨bn3, 0, none⟩)] [.int .i64 ((a : Nat) : Int), .int .i64 ((b : Nat) : Int)] rfl rfl Try.call133 rfl rfl (meets_spec h10 a b p.length ((pb p)) o i vj hj rj vm hm rm bn1 bn4 bn3 hb25 hb28 hb27 (hr_vj.extS hx0_9) (ht_vj.extS hx0_9) (hr_vm.extS hx0_9) (ht_vm.extS hx0_9) (by omega) (by omega) (by omega) (by omega) (by omega)) (fun _ _ _ => trivial) ?_
            rintro _ h14 ⟨rfl, rfl⟩
            refine lx_pick false (.bool ((decide (joinF p.length ((pb p)) a b = ((i : Nat) : Int)) && decide (meetF p.length ((pb p)) a b = ((o : Nat) : Int))))) rfl rfl rfl <| lx_assign (.bool ((decide (joinF p.length ((pb p)) a b = ((i : Nat) : Int)) && decide (meetF p.length ((pb p)) a b = ((o : Nat) : Int))))) rfl rfl <| lx_nil <| ?_
            -- R4
            refine wi_ret ⟨.bool ((decide (joinF p.length ((pb p)) a b = ((i : Nat) : Int)) && decide (meetF p.length ((pb p)) a b = ((o : Nat) : Int)))), (res_one rfl rfl), ⟨?_, hx0_9⟩⟩
            · congr 1
              rw [Bool.eq_iff_iff, decide_eq_true_iff, (bad_dec hp3 hp4 (by omega) (by omega) (by omega))]
              exact ⟨fun h => ⟨Classical.byContradiction fun hn => c1 (by have := (compact_sorted [((o : Nat) : Int), ((a : Nat) : Int), ((b : Nat) : Int), ((c : Nat) : Int), ((i : Nat) : Int)]).2 hn; simp only [List.length_cons, List.length_nil] at this; omega), c2, by unfold mtB; simpa using c3, .inr h⟩, fun h => h.2.2.2.resolve_left (by rw [c4]; simp)⟩
          · refine lx_skip rfl <| lx_skip rfl <| lx_skip rfl <| lx_skip rfl <| lx_pick true (.bool true) rfl rfl rfl <| lx_assign (.bool true) rfl rfl <| lx_nil <| ?_
            -- R5
            refine wi_ret ⟨.bool true, (res_one rfl rfl), ⟨?_, hx0_9⟩⟩
            · congr 1
              symm
              rw [decide_eq_true_iff, (bad_dec hp3 hp4 (by omega) (by omega) (by omega))]
              exact ⟨Classical.byContradiction fun hn => c1 (by have := (compact_sorted [((o : Nat) : Int), ((a : Nat) : Int), ((b : Nat) : Int), ((c : Nat) : Int), ((i : Nat) : Int)]).2 hn; simp only [List.length_cons, List.length_nil] at this; omega), c2, by unfold mtB; simpa using c3, .inl c4⟩
  · refine lx_alloc rfl rfl Try.zeroValue3 (fun hs _ hx => Blk.extS hs hx) fun bn6 h15 hbn6 hbk9 hx8 hsz6 => ?_
    have hbb6 : h.size ≤ bn6 := by have := hx0_1.size; omega
    have hne11 : bn6 ≠ bn1 := by have := hb1.lt; omega
    have hne12 : bn6 ≠ bn2 := by have := hbk2.lt; omega
    have hx0_10 := hx0_1.trans2 hx8 hx0_1.size
    have hb29 := hb1.extS hx8
    have hb30 := hbk2.extS hx8
    have hbk9 : Blk h15 bn6 #[.int .i64 0] 3 := hbk9
    refine lx_alloc rfl rfl Try.zeroValue3 (fun hs _ hx => Blk.extS hs hx) fun bn7 h16 hbn7 hbk10 hx9 hsz7 => ?_
    have hbb7 : h.size ≤ bn7 := by have := hx0_10.size; omega
    have hne13 : bn7 ≠ bn1 := by have := hb29.lt; omega
    have hne14 : bn7 ≠ bn2 := by have := hb30.lt; omega
    have hne15 : bn7 ≠ bn6 := by have := hbk9.lt; omega
    have hx0_11 := hx0_10.trans2 hx9 hx0_10.size
    have hb31 := hb29.extS hx9
    have hb32 := hb30.extS hx9
    have hb33 := hbk9.extS hx9
    have hbk10 : Blk h16 bn7 #[.int .i64 0] 3 := hbk10
    refine lx_stB (.int .i64 ((o : Nat) : Int)) rfl rfl Try.sizeOf3 hbk10 (by simp) rfl rfl rfl rfl (fun hs _ _ hc => ChgB.blk hc hs (by omega)) fun h17 hbk11 hc4 => ?_
    have hx0_12 := hx0_11.trans (hc4.ext hbb7)
    have hb34 := hc4.blk hb31 (Ne.symm hne13)
    have hb35 := hc4.blk hb32 (Ne.symm hne14)
    have hb36 := hc4.blk hb33 (Ne.symm hne15)
    have hbk11 : Blk h17 bn7 #[.int .i64 ((o : Nat) : Int)] 3 := hbk11
    refine lx_assign (.int .i64 ((a : Nat) : Int)) rfl rfl <| lx_assign (.int .i64 ((b : Nat) : Int)) rfl rfl <| lx_assign (.int .i64 ((c : Nat) : Int)) rfl rfl <| lx_stB (.int .i64 ((i : Nat) : Int)) rfl rfl Try.sizeOf3 hb36 (by simp) rfl rfl rfl rfl (fun hs _ _ hc => ChgB.blk hc hs (by omega)) fun h18 hbk12 hc5 => ?_
    have hx0_13 := hx0_12.trans (hc5.ext hbb6)
    have hb37 := hc5.blk hb34 (Ne.symm hne11)
    have hb38 := hc5.blk hb35 (Ne.symm hne12)
    have hb39 := hc5.blk hbk11 hne15
    have hbk12 : Blk h18 bn6 #[.int .i64 ((i : Nat) : Int)] 3 := hbk12
    refine lx_nil <| wi_seq <| wi_reg rfl <| lx_makeFunc [] [.pointer (some ⟨bn1, 0, none⟩), .pointer (some ⟨bn6, 0, none⟩), .pointer (some ⟨bn7, 0, none⟩)] rfl rfl rfl <| lx_assign (.func (.func 133) #[] #[.pointer (some ⟨bn1, 0, none⟩), .pointer (some ⟨bn6, 0, none⟩), .pointer (some ⟨bn7, 0, none⟩)]) rfl rfl <| lx_nil <| wi_seq <| wi_reg rfl <| lx_ldBA rfl rfl wd48 hb38 rfl rfl <| lx_alloc rfl rfl Try.zeroValue48 (fun _ _ _ => trivial) fun bn8 h19 hbn8 hbk13 hx10 hsz8 => ?_
    have hbb8 : h.size ≤ bn8 := by have := hx0_13.size; omega
    have hne16 : bn8 ≠ bn1 := by have := hb37.lt; omega
    have hne17 : bn8 ≠ bn2 := by have := hb38.lt; omega
    have hne18 : bn8 ≠ bn6 := by have := hbk12.lt; omega
    have hne19 : bn8 ≠ bn7 := by have := hb39.lt; omega
    have hx0_14 := hx0_13.trans2 hx10 hx0_13.size
    have hb40 := hb37.extS hx10
    have hb41 := hb38.extS hx10
    have hb42 := hbk12.extS hx10
    have hb43 := hb39.extS hx10
    have hbk13 : Blk h19 bn8 #[.int .i64 0, .int .i64 0, .int .i64 0, .int .i64 0, .int .i64 0] 48 := hbk13
    refine lx_stBA (#[.int .i64 ((o : Nat) : Int), .int .i64 ((a : Nat) : Int), .int .i64 ((b : Nat) : Int), .int .i64 ((c : Nat) : Int), .int .i64 ((i : Nat) : Int)]) rfl rfl Try.sizeOf48 hbk13 rfl rfl rfl rfl (by simp [Value.oneCell']) (fun _ _ _ _ => trivial) fun h20 hbk14 hc6 => ?_
    have hx0_15 := hx0_14.trans (hc6.ext hbb8)
    have hb44 := hc6.blk hb40 (Ne.symm hne16)
    have hb45 := hc6.blk hb41 (Ne.symm hne17)
    have hb46 := hc6.blk hb42 (Ne.symm hne18)
    have hb47 := hc6.blk hb43 (Ne.symm hne19)
    refine lx_nil <| wi_seq <| wi_reg rfl <| lx_sliceA rfl Try.underlying48 Try.sizeOf3 rfl <| ?_
    have ho4 : OwE encI h20 h.size 48 (.slice (some ⟨bn8, 0, none⟩) 5 5) ([((o : Nat) : Int), ((a : Nat) : Int), ((b : Nat) : Int), ((c : Nat) : Int), ((i : Nat) : Int)]) := own_of_blk (xs := [((o : Nat) : Int), ((a : Nat) : Int), ((b : Nat) : Int), ((c : Nat) : Int), ((i : Nat) : Int)]) hbk14 hbb8 (by simp)
    have hdj5 : Value.ownBlock (.slice (some ⟨bn8, 0, none⟩) 5 5) ≠ some bn1 := fun e => (Ne.symm hne16) (Option.some.inj e).symm
    have hdj6 : Value.ownBlock (.slice (some ⟨bn8, 0, none⟩) 5 5) ≠ some bn2 := fun e => (Ne.symm hne17) (Option.some.inj e).symm
    have hdj7 : Value.ownBlock (.slice (some ⟨bn8, 0, none⟩) 5 5) ≠ some bn6 := fun e => (Ne.symm hne18) (Option.some.inj e).symm
    have hdj8 : Value.ownBlock (.slice (some ⟨bn8, 0, none⟩) 5 5) ≠ some bn7 := fun e => (Ne.symm hne19) (Option.some.inj e).symm
    refine lx_call [(.slice (some ⟨bn8, 0, none⟩) 5 5)] rfl rfl Try.call82 rfl (lsort_gen (t := 48) h20 h.size ((.slice (some ⟨bn8, 0, none⟩) 5 5)) ([((o : Nat) : Int), ((a : Nat) : Int), ((b : Nat) : Int), ((c : Nat) : Int), ((i : Nat) : Int)]) ho4 hx0_15.size (by simp) (by simp)) (fun _ _ _ => trivial) ?_
    rintro _ h21 ⟨rfl, ho5, hx11⟩
    have hx0_16 := hx0_15.trans (ho4.ext hx11 hx0_15.size)
    have hb48 := hb44.chg hx11 hdj5
    have hb49 := hb45.chg hx11 hdj6
    have hb50 := hb46.chg hx11 hdj7
    have hb51 := hb47.chg hx11 hdj8
    refine lx_nil <| wi_seq <| wi_seq <| wi_reg rfl <| lx_sliceA rfl Try.underlying48 Try.sizeOf3 rfl <| ?_
    refine lx_call [(.slice (some ⟨bn8, 0, none⟩) 5 5)] rfl rfl Try.call123 rfl (lcompact_gen (t := 48) h21 h.size ((.slice (some ⟨bn8, 0, none⟩) 5 5)) ((([((o : Nat) : Int), ((a : Nat) : Int), ((b : Nat) : Int), ((c : Nat) : Int), ((i : Nat) : Int)]).mergeSort fun x y => decide (x ≤ y))) ho5 hx0_16.size (fun e => by have := congrArg List.length e; simp at this) (by simp)) (fun _ _ _ => trivial) ?_
    rintro v2 h22 ⟨_, rfl, ho6, hx12⟩
    have hx0_17 := hx0_16.trans (ho5.ext hx12 hx0_16.size)
    have hb52 := hb48.chg hx12 hdj5
    have hb53 := hb49.chg hx12 hdj6
    have hb54 := hb50.chg hx12 hdj7
    have hb55 := hb51.chg hx12 hdj8
    refine lx_len rfl Try.underlying25 ho6.rd rfl <| lx_lssS rfl rfl rfl (fun c5 => ?_) (fun c5 => ?_)
    · refine lx_move (.bool true) rfl rfl <| lx_skip rfl <| lx_skip rfl <| lx_skip rfl <| lx_skip rfl <| lx_skip rfl <| lx_pick true (.bool true) rfl rfl rfl <| lx_move (.bool true) rfl rfl <| lx_skip rfl <| lx_skip rfl <| lx_skip rfl <| lx_skip rfl <| lx_skip rfl <| lx_pick true (.bool true) rfl rfl rfl <| lx_nil <| wi_true rfl <| wi_seq <| wi_reg rfl <| lx_assign (.bool false) rfl rfl <| lx_nil <| ?_
      -- R6
      refine wi_ret ⟨.bool false, (res_one rfl rfl), ⟨?_, hx0_17⟩⟩
      · congr 1; exact (decide_eq_false fun hb => absurd ((bad_dec hp3 hp4 (by omega) (by omega) (by omega)).1 hb).1 ((compact_sorted [((o : Nat) : Int), ((a : Nat) : Int), ((b : Nat) : Int), ((c : Nat) : Int), ((i : Nat) : Int)]).1 (by simp only [List.length_cons, List.length_nil]; omega))).symm
    · refine lx_move (.bool false) rfl rfl <| lx_move (.func (.func 133) #[] #[.pointer (some ⟨bn1, 0, none⟩), .pointer (some ⟨bn6, 0, none⟩), .pointer (some ⟨bn7, 0, none⟩)]) rfl rfl <| lx_move (.int .i64 ((a : Nat) : Int)) rfl rfl <| lx_move (.int .i64 ((c : Nat) : Int)) rfl rfl <| lx_callV [] [.pointer (some ⟨bn1, 0, none⟩), .pointer (some ⟨bn6, 0, none⟩), .pointer (some ⟨bn7, 0, none⟩)] [.int .i64 ((a : Nat) : Int), .int .i64 ((c : Nat) : Int)] rfl rfl Try.call133 rfl rfl (meets_spec h22 a c p.length ((pb p)) o i vj hj rj vm hm rm bn1 bn6 bn7 hb52 hb54 hb55 (hr_vj.extS hx0_17) (ht_vj.extS hx0_17) (hr_vm.extS hx0_17) (ht_vm.extS hx0_17) (by omega) (by omega) (by omega) (by omega) (by omega)) (fun _ _ _ => trivial) ?_
      rintro _ h23 ⟨rfl, rfl⟩
      refine lx_not rfl rfl <| lx_pick false (.bool (!((decide (joinF p.length ((pb p)) a c = ((i : Nat) : Int)) && decide (meetF p.length ((pb p)) a c = ((o : Nat) : Int)))))) rfl rfl rfl <| lx_move (.bool (!((decide (joinF p.length ((pb p)) a c = ((i : Nat) : Int)) && decide (meetF p.length ((pb p)) a c = ((o : Nat) : Int)))))) rfl rfl <| ?_
      cases c6 : ((decide (joinF p.length ((pb p)) a c = ((i : Nat) : Int)) && decide (meetF p.length ((pb p)) a c = ((o : Nat) : Int))))
      · refine lx_skip rfl <| lx_skip rfl <| lx_skip rfl <| lx_skip rfl <| lx_skip rfl <| lx_pick true (.bool true) rfl rfl rfl <| lx_nil <| wi_true rfl <| wi_seq <| wi_reg rfl <| lx_assign (.bool false) rfl rfl <| lx_nil <| ?_
        -- R7
        refine wi_ret ⟨.bool false, (res_one rfl rfl), ⟨?_, hx0_17⟩⟩
        · congr 1; exact (decide_eq_false fun hb => by have := ((bad_dec hp3 hp4 (by omega) (by omega) (by omega)).1 hb).2.1; unfold mtB at this; rw [c6] at this; cases this).symm
      · refine lx_move (.func (.func 133) #[] #[.pointer (some ⟨bn1, 0, none⟩), .pointer (some ⟨bn6, 0, none⟩), .pointer (some ⟨bn7, 0, none⟩)]) rfl rfl <| lx_move (.int .i64 ((b : Nat) : Int)) rfl rfl <| lx_move (.int .i64 ((c : Nat) : Int)) rfl rfl <| lx_callV [] [.pointer (some ⟨bn1, 0, none⟩), .pointer (some ⟨bn6, 0, none⟩), .pointer (some ⟨bn7, 0, none⟩)] [.int .i64 ((b : Nat) : Int), .int .i64 ((c : Nat) : Int)] rfl rfl Try.call133 rfl rfl (meets_spec h22 b c p.length ((pb p)) o i vj hj rj vm hm rm bn1 bn6 bn7 hb52 hb54 hb55 (hr_vj.extS hx0_17) (ht_vj.extS hx0_17) (hr_vm.extS hx0_17) (ht_vm.extS hx0_17) (by omega) (by omega) (by omega) (by omega) (by omega)) (fun _ _ _ => trivial) ?_
        rintro _ h24 ⟨rfl, rfl⟩
        refine lx_not rfl rfl <| lx_pick false (.bool (!((decide (joinF p.length ((pb p)) b c = ((i : Nat) : Int)) && decide (meetF p.length ((pb p)) b c = ((o : Nat) : Int)))))) rfl rfl rfl <| lx_nil <| wi_condS (t := !((decide (joinF p.length ((pb p)) b c = ((i : Nat) : Int)) && decide (meetF p.length ((pb p)) b c = ((o : Nat) : Int))))) rfl (fun c7 => ?_) (fun c7 => ?_)
        · refine wi_seq <| wi_reg rfl <| lx_assign (.bool false) rfl rfl <| lx_nil <| ?_
          -- R8
          refine wi_ret ⟨.bool false, (res_one rfl rfl), ⟨?_, hx0_17⟩⟩
          · congr 1; exact (decide_eq_false fun hb => by have := ((bad_dec hp3 hp4 (by omega) (by omega) (by omega)).1 hb).2.2.1; unfold mtB at this; rw [this] at c7; cases c7).symm
        · refine wi_skip <| wi_seq <| wi_reg rfl <| lx_move (vp) rfl rfl <| lx_move (.int .i64 ((a : Nat) : Int)) rfl rfl <| lx_move (.int .i64 ((b : Nat) : Int)) rfl rfl <| lx_call [vp, .int .i64 ((a : Nat) : Int), .int .i64 ((b : Nat) : Int)] rfl rfl Try.call106 rfl (below_spec h22 vp hs p a b (hr_vp.extS hx0_17) (ht_vp.extS hx0_17) (by omega) (by first | with_reducible assumption | omega) (by omega) (by omega)) (fun _ _ _ => trivial) ?_
          rintro _ h25 ⟨rfl, rfl⟩
          refine lx_move (.bool (decide (a ≠ b) && pb p a b)) rfl rfl <| ?_
          cases c8 : (decide (a ≠ b) && pb p a b)
          · refine lx_move (.func (.func 133) #[] #[.pointer (some ⟨bn1, 0, none⟩), .pointer (some ⟨bn6, 0, none⟩), .pointer (some ⟨bn7, 0, none⟩)]) rfl rfl <| lx_move (.int .i64 ((a : Nat) : Int)) rfl rfl <| lx_move (.int .i64 ((b : Nat) : Int)) rfl rfl <| lx_callV [] [.pointer (some ⟨bn1, 0, none⟩), .pointer (some ⟨bn6, 0, none⟩), .pointer (some ⟨bn7, 0, none⟩)] [.int .i64 ((a : Nat) : Int), .int .i64 ((b : Nat) : Int)] rfl rfl Try.call133 rfl rfl (meets_spec h22 a b p.length ((pb p)) o i vj hj rj vm hm rm bn1 bn6 bn7 hb52 hb54 hb55 (hr_vj.extS hx0_17) (ht_vj.extS hx0_17) (hr_vm.extS hx0_17) (ht_vm.extS hx0_17) (by omega) (by omega) (by omega) (by omega) (by omega)) (fun _ _ _ => trivial) ?_
            rintro _ h26 ⟨rfl, rfl⟩
            refine lx_pick false (.bool ((decide (joinF p.length ((pb p)) a b = ((i : Nat) : Int)) && decide (meetF p.length ((pb p)) a b = ((o : Nat) : Int))))) rfl rfl rfl <| lx_assign (.bool ((decide (joinF p.length ((pb p)) a b = ((i : Nat) : Int)) && decide (meetF p.length ((pb p)) a b = ((o : Nat) : Int))))) rfl rfl <| lx_nil <| ?_
            -- R9
            refine wi_ret ⟨.bool ((decide (joinF p.length ((pb p)) a b = ((i : Nat) : Int)) && decide (meetF p.length ((pb p)) a b = ((o : Nat) : Int)))), (res_one rfl rfl), ⟨?_, hx0_17⟩⟩
            · congr 1
              rw [Bool.eq_iff_iff, decide_eq_true_iff, (bad_dec hp3 hp4 (by omega) (by omega) (by omega))]
              exact ⟨fun h => ⟨Classical.byContradiction fun hn => c5 (by have := (compact_sorted [((o : Nat) : Int), ((a : Nat) : Int), ((b : Nat) : Int), ((c : Nat) : Int), ((i : Nat) : Int)]).2 hn; simp only [List.length_cons, List.length_nil] at this; omega), c6, by unfold mtB; simpa using c7, .inr h⟩, fun h => h.2.2.2.resolve_left (by rw [c8]; simp)⟩
          · refine lx_skip rfl <| lx_skip rfl <| lx_skip rfl <| lx_skip rfl <| lx_pick true (.bool true) rfl rfl rfl <| lx_assign (.bool true) rfl rfl <| lx_nil <| ?_
            -- R10
            refine wi_ret ⟨.bool true, (res_one rfl rfl), ⟨?_, hx0_17⟩⟩
            · congr 1
              symm
              rw [decide_eq_true_iff, (bad_dec hp3 hp4 (by omega) (by omega) (by omega))]
              exact ⟨Classical.byContradiction fun hn => c5 (by have := (compact_sorted [((o : Nat) : Int), ((a : Nat) : Int), ((b : Nat) : Int), ((c : Nat) : Int), ((i : Nat) : Int)]).2 hn; simp only [List.length_cons, List.length_nil] at this; omega), c6, by unfold mtB; simpa using c7, .inl c8⟩

end Go.Proofs.Ytdokijbdnajhgaa
namespace Go.Proofs.Ytdokijbdnajhgaa
open Go Go.X

/-- Whether these three are the middle of a bad five. -/
abbrev badAt (n : Nat) (f : Nat → Nat → Bool) (a b c : Nat) : Prop := badP n f (mN n f a c) a b c (jN n f a c)
def badR (n : Nat) (f : Nat → Nat → Bool) (o a b c i : Nat) (bb : Bool) : Prop :=
  (bb = true ∧ badP n f o a b c i ∧ o < n ∧ a < n ∧ b < n ∧ c < n ∧ i < n) ∨ (bb = false ∧ (o = 0 ∧ a = 0 ∧ b = 0 ∧ c = 0 ∧ i = 0) ∧ ∀ q r s, q < n → r < n → s < n → ¬ badAt n f q r s)

set_option maxRecDepth 10000 in
theorem bad_spec (h : Heap) (vp : Value) (hs : List Hdr) (p : List (List Bool)) (vj : Value) (hj : List Hdr) (rj : List (List Int)) (vm : Value) (hm : List Hdr) (rm : List (List Int)) (hr_vj : RdE encHd h vj hj) (ht_vj : RT encI h hj rj) (hr_vm : RdE encHd h vm hm) (ht_vm : RT encI h hm rm) (hr_vp : RdE encHd h vp hs) (ht_vp : RT encB h hs p) (hp1 : p.length ≤ 12) (hp2 : Sq p p.length) (hp3 : IsO p.length (pb p)) (hp4 : noGap p.length (pb p)) (hp5 : rj = tabI p.length (joinF p.length (pb p))) (hp6 : rm = tabI p.length (meetF p.length (pb p))) : Fx Try.prog 94 [.agg #[vj, vm], vp] h (fun v h' => ∃ (o : Nat) (a : Nat) (b : Nat) (c : Nat) (i : Nat) (bb : Bool), v = .tuple #[.agg #[.int .i64 ((o : Nat) : Int), .int .i64 ((a : Nat) : Int), .int .i64 ((b : Nat) : Int), .int .i64 ((c : Nat) : Int), .int .i64 ((i : Nat) : Int)], .bool bb] ∧ (badR p.length (pb p) o a b c i bb) ∧ Ext h.size h h') := by
  have hl_vp := ht_vp.1
  have hl_vj := ht_vj.1
  have hl_vm := ht_vm.1
  refine fx_intro (n := 56) [(0, .agg #[vj, vm]), (1, vp)] Try.func94 rfl rfl (by simp) ⟨rfl, rfl, trivial⟩ fun g0 => ?_
  refine wi_seq <| wi_reg rfl <| lx_box #[vj, vm] rfl rfl rfl (fun _ _ _ => trivial) fun bn1 h1 hbn1 hbk1 hx1 hsz1 => ?_
  have hbb1 : h.size ≤ bn1 := by have := (Nat.le_refl h.size); omega
  refine lx_alloc rfl rfl Try.zeroValue48 (fun _ _ _ => trivial) fun bn2 h2 hbn2 hbk2 hx2 hsz2 => ?_
  have hbb2 : h.size ≤ bn2 := by have := hx1.size; omega
  have hne1 : bn2 ≠ bn1 := by have := hbk1.lt; omega
  have hx0_1 := hx1.trans2 hx2 hx1.size
  have hb1 := hbk1.extS hx2
  have hbk2 : Blk h2 bn2 #[.int .i64 0, .int .i64 0, .int .i64 0, .int .i64 0, .int .i64 0] 48 := hbk2
  refine lx_assign (.bool false) rfl rfl <| lx_nil <| wi_scope <| wi_seq <| wi_label <| wi_seq <| wi_seq <| wi_reg rfl <| lx_move (vp) rfl rfl <| lx_len rfl Try.underlying29 hr_vp rfl <| lx_move (.int .i64 0) rfl rfl <| lx_nil <| wi_block <| ?_
  refine wi_loop (σ := Nat × Nat × Nat × Nat × Nat × Nat × Bool) (rngB 11 52 [5, 6, 7, 8]) (fun (ss : Nat × Nat × Nat × Nat × Nat × Nat × Bool) => [(11, .int .i64 ((ss.1 : Nat) : Int)), (5, .bool ss.2.2.2.2.2.2)]) (fun (ss : Nat × Nat × Nat × Nat × Nat × Nat × Bool) (hh : Heap) => Blk hh bn1 #[vj, vm] 119 ∧ Blk hh bn2 #[.int .i64 ((ss.2.1 : Nat) : Int), .int .i64 ((ss.2.2.1 : Nat) : Int), .int .i64 ((ss.2.2.2.1 : Nat) : Int), .int .i64 ((ss.2.2.2.2.1 : Nat) : Int), .int .i64 ((ss.2.2.2.2.2.1 : Nat) : Int)] 48 ∧ Ext h.size h hh ∧ (ss.1 ≤ p.length) ∧ (ss.2.2.2.2.2.2 = false) ∧ (∀ q r s, q < ss.1 → r < p.length → s < p.length → ¬ badAt p.length (pb p) q r s)) (fun (ss : Nat × Nat × Nat × Nat × Nat × Nat × Bool) => p.length - ss.1) (0, 0, 0, 0, 0, 0, false) ⟨rfl, rfl, trivial⟩ ⟨?_, ?_, hx0_1, ?_, ?_, ?_⟩ ?_
  · exact hb1
  · exact hbk2
  · try dsimp only
    omega
  · try dsimp only
    first | done | rfl
  · try dsimp only
    intro q r s hq; omega
  rintro g1 ⟨x, vo, va, vb, vc, vi, bb⟩ hh1 ⟨hbk3, hbk4, hx0_2, hx, hbb, ha⟩ IH1
  dsimp only at *
  refine wi_seq <| wi_reg rfl <| lx_lssS rfl rfl rfl (fun c1 => ?_) (fun c1 => ?_)
  · refine lx_nil <| wi_seq <| wi_true rfl <| wi_skip <| wi_seq <| wi_block <| wi_seq <| wi_reg rfl <| lx_move (.int .i64 ((x : Nat) : Int)) rfl rfl <| lx_assign (.int .i64 ((x : Nat) : Int)) rfl rfl <| lx_nil <| wi_seq <| wi_reg rfl <| lx_move (vp) rfl rfl <| lx_len rfl Try.underlying29 hr_vp rfl <| lx_move (.int .i64 0) rfl rfl <| lx_nil <| wi_block <| ?_
    refine wi_loop (σ := Nat × Nat × Nat × Nat × Nat × Nat × Bool) (rngB 16 51 [5, 7, 8]) (fun (ss : Nat × Nat × Nat × Nat × Nat × Nat × Bool) => [(16, .int .i64 ((ss.1 : Nat) : Int)), (5, .bool ss.2.2.2.2.2.2)]) (fun (ss : Nat × Nat × Nat × Nat × Nat × Nat × Bool) (hh : Heap) => Blk hh bn1 #[vj, vm] 119 ∧ Blk hh bn2 #[.int .i64 ((ss.2.1 : Nat) : Int), .int .i64 ((ss.2.2.1 : Nat) : Int), .int .i64 ((ss.2.2.2.1 : Nat) : Int), .int .i64 ((ss.2.2.2.2.1 : Nat) : Int), .int .i64 ((ss.2.2.2.2.2.1 : Nat) : Int)] 48 ∧ Ext h.size h hh ∧ (ss.1 ≤ p.length) ∧ (ss.2.2.2.2.2.2 = false) ∧ (∀ r s, r < ss.1 → s < p.length → ¬ badAt p.length (pb p) x r s)) (fun (ss : Nat × Nat × Nat × Nat × Nat × Nat × Bool) => p.length - ss.1) (0, vo, va, vb, vc, vi, bb) ⟨rfl, rfl, trivial⟩ ⟨?_, ?_, hx0_2, ?_, ?_, ?_⟩ ?_
    · exact hbk3
    · exact hbk4
    · try dsimp only
      omega
    · try dsimp only
      exact hbb
    · try dsimp only
      intro r s hr; omega
    rintro g2 ⟨y, vo, va, vb, vc, vi, bb⟩ hh2 ⟨hbk5, hbk6, hx0_3, hy, hbb, hb⟩ IH2
    dsimp only at *
    refine wi_seq <| wi_reg rfl <| lx_lssS rfl rfl rfl (fun c2 => ?_) (fun c2 => ?_)
    · refine lx_nil <| wi_seq <| wi_true rfl <| wi_skip <| wi_seq <| wi_block <| wi_seq <| wi_reg rfl <| lx_move (.int .i64 ((y : Nat) : Int)) rfl rfl <| lx_assign (.int .i64 ((y : Nat) : Int)) rfl rfl <| lx_nil <| wi_seq <| wi_reg rfl <| lx_move (vp) rfl rfl <| lx_len rfl Try.underlying29 hr_vp rfl <| lx_move (.int .i64 0) rfl rfl <| lx_nil <| wi_block <| ?_
      refine wi_loop (σ := Nat × Nat × Nat × Nat × Nat × Nat × Bool) (rngB 21 50 [5, 8]) (fun (ss : Nat × Nat × Nat × Nat × Nat × Nat × Bool) => [(21, .int .i64 ((ss.1 : Nat) : Int)), (5, .bool ss.2.2.2.2.2.2)]) (fun (ss : Nat × Nat × Nat × Nat × Nat × Nat × Bool) (hh : Heap) => Blk hh bn1 #[vj, vm] 119 ∧ Blk hh bn2 #[.int .i64 ((ss.2.1 : Nat) : Int), .int .i64 ((ss.2.2.1 : Nat) : Int), .int .i64 ((ss.2.2.2.1 : Nat) : Int), .int .i64 ((ss.2.2.2.2.1 : Nat) : Int), .int .i64 ((ss.2.2.2.2.2.1 : Nat) : Int)] 48 ∧ Ext h.size h hh ∧ (ss.1 ≤ p.length) ∧ (ss.2.2.2.2.2.2 = false) ∧ (∀ s, s < ss.1 → ¬ badAt p.length (pb p) x y s)) (fun (ss : Nat × Nat × Nat × Nat × Nat × Nat × Bool) => p.length - ss.1) (0, vo, va, vb, vc, vi, bb) ⟨rfl, rfl, trivial⟩ ⟨?_, ?_, hx0_3, ?_, ?_, ?_⟩ ?_
      · exact hbk5
      · exact hbk6
      · try dsimp only
        omega
      · try dsimp only
        exact hbb
      · try dsimp only
        intro s hs9; omega
      rintro g3 ⟨z, vo, va, vb, vc, vi, bb⟩ hh3 ⟨hbk7, hbk8, hx0_4, hz, hbb, hc⟩ IH3
      dsimp only at *
      refine wi_seq <| wi_reg rfl <| lx_lssS rfl rfl rfl (fun c3 => ?_) (fun c3 => ?_)
      · refine lx_nil <| wi_seq <| wi_true rfl <| wi_skip <| wi_seq <| wi_block <| wi_seq <| wi_reg rfl <| lx_move (.int .i64 ((z : Nat) : Int)) rfl rfl <| lx_assign (.int .i64 ((z : Nat) : Int)) rfl rfl <| lx_nil <| wi_seq <| wi_draw mo rfl (by decide +kernel) <| ?_
        have hjl : rj.length = p.length := by rw [hp5]; exact tabI_len _ _
        have hml : rm.length = p.length := by rw [hp6]; exact tabI_len _ _
        have hjr : gt rj x = mapR p.length (joinF p.length (pb p) x) := by rw [hp5, gt_tabI (by omega)]
        have hmr : gt rm x = mapR p.length (meetF p.length (pb p) x) := by rw [hp6, gt_tabI (by omega)]
        have hjl2 : (gt rj x).length = p.length := by rw [hjr]; exact mapR_len _ _
        have hml2 : (gt rm x).length = p.length := by rw [hmr]; exact mapR_len _ _
        have hJ := jN_at hp3 hp4 (x := x) (y := z) (by omega) (by omega)
        have hM := mN_at hp3 hp4 (x := x) (y := z) (by omega) (by omega)
        have hje : gt (gt rj x) z = ((jN p.length (pb p) x z : Nat) : Int) := by rw [hjr, gt_mapR (by omega)]; exact hJ.1
        have hme : gt (gt rm x) z = ((mN p.length (pb p) x z : Nat) : Int) := by rw [hmr, gt_mapR (by omega)]; exact hM.1
        have hjn := hJ.2.1
        have hmn := hM.2.1
        refine lx_fieldL (i := 1) rfl st119 (.inr rfl) rfl <| lx_ldB (vm) rfl rfl fl49 hbk7 rfl rfl <| lx_move (.int .i64 ((x : Nat) : Int)) rfl rfl <| lx_ix (i := x) rfl eT49 hr_vm rfl rfl (by omega) <| lx_ld (i := x) (j := 0) ((gt hm x).v) rfl rfl fl25 (hr_vm.extS hx0_4) (by omega) rfl rfl <| lx_move (.int .i64 ((z : Nat) : Int)) rfl rfl <| lx_ix (i := z) rfl eT25 (ht_vm.2 x (by omega)) rfl rfl (by omega) <| lx_ld (i := z) (j := 0) (.int .i64 ((mN p.length (pb p) x z : Nat) : Int)) rfl rfl fl3 ((ht_vm.extS hx0_4).2 x (by omega)) (by omega) (by show some (Value.int .i64 (gt (gt rm x) z)) = _; rw [hme]) rfl <| lx_move (.int .i64 ((x : Nat) : Int)) rfl rfl <| lx_move (.int .i64 ((y : Nat) : Int)) rfl rfl <| lx_move (.int .i64 ((z : Nat) : Int)) rfl rfl <| lx_fieldL (i := 0) rfl st119 (.inl rfl) rfl <| lx_ldB (vj) rfl rfl fl49 hbk7 rfl rfl <| lx_move (.int .i64 ((x : Nat) : Int)) rfl rfl <| lx_ix (i := x) rfl eT49 hr_vj rfl rfl (by omega) <| lx_ld (i := x) (j := 0) ((gt hj x).v) rfl rfl fl25 (hr_vj.extS hx0_4) (by omega) rfl rfl <| lx_move (.int .i64 ((z : Nat) : Int)) rfl rfl <| lx_ix (i := z) rfl eT25 (ht_vj.2 x (by omega)) rfl rfl (by omega) <| lx_ld (i := z) (j := 0) (.int .i64 ((jN p.length (pb p) x z : Nat) : Int)) rfl rfl fl3 ((ht_vj.extS hx0_4).2 x (by omega)) (by omega) (by show some (Value.int .i64 (gt (gt rj x) z)) = _; rw [hje]) rfl <| lx_build (.agg #[.int .i64 ((mN p.length (pb p) x z : Nat) : Int), .int .i64 ((x : Nat) : Int), .int .i64 ((y : Nat) : Int), .int .i64 ((z : Nat) : Int), .int .i64 ((jN p.length (pb p) x z : Nat) : Int)]) [(0, .int .i64 ((mN p.length (pb p) x z : Nat) : Int)), (1, .int .i64 ((x : Nat) : Int)), (2, .int .i64 ((y : Nat) : Int)), (3, .int .i64 ((z : Nat) : Int)), (4, .int .i64 ((jN p.length (pb p) x z : Nat) : Int))] rfl rfl (fun w => bld5 Try.underlying48 Try.zeroValue48 Try.sizeOf3 _ _ _ _ _ w) <| lx_stBA (#[.int .i64 ((mN p.length (pb p) x z : Nat) : Int), .int .i64 ((x : Nat) : Int), .int .i64 ((y : Nat) : Int), .int .i64 ((z : Nat) : Int), .int .i64 ((jN p.length (pb p) x z : Nat) : Int)]) rfl rfl Try.sizeOf48 hbk8 rfl rfl rfl rfl (by simp [Value.oneCell']) (fun _ _ _ _ => trivial) fun h3 hbk9 hc1 => ?_
        have hx0_5 := hx0_4.trans (hc1.ext hbb2)
        have hb2 := hc1.blk hbk7 (Ne.symm hne1)
        refine lx_nil <| wi_seq <| wi_reg rfl <| lx_ldBA rfl rfl wd119 hb2 rfl rfl <| lx_move (vp) rfl rfl <| lx_ldBA rfl rfl wd48 hbk9 rfl rfl <| lx_call [.agg #[vj, vm], vp, .agg #[.int .i64 ((mN p.length (pb p) x z : Nat) : Int), .int .i64 ((x : Nat) : Int), .int .i64 ((y : Nat) : Int), .int .i64 ((z : Nat) : Int), .int .i64 ((jN p.length (pb p) x z : Nat) : Int)]] rfl rfl Try.call99 rfl (isBad_spec h3 vp hs p (mN p.length (pb p) x z) x y z (jN p.length (pb p) x z) vj hj rj vm hm rm (hr_vj.extS hx0_5) (ht_vj.extS hx0_5) (hr_vm.extS hx0_5) (ht_vm.extS hx0_5) (hr_vp.extS hx0_5) (ht_vp.extS hx0_5) (by omega) (by first | with_reducible assumption | omega) (by first | with_reducible assumption | omega) (by omega) (by omega) (by omega) (by omega) (by omega) (by omega) (by omega) (by omega)) (fun _ _ _ => trivial) ?_
        rintro _ h4 ⟨rfl, hx3⟩
        have hx0_6 := hx0_5.trans2 hx3 hx0_5.size
        have hb3 := hb2.extS hx3
        have hb4 := hbk9.extS hx3
        refine lx_assign (.bool (decide (badP p.length (pb p) (mN p.length (pb p) x z) x y z (jN p.length (pb p) x z)))) rfl rfl <| lx_nil <| wi_seq <| wi_reg rfl <| lx_move (.bool (decide (badP p.length (pb p) (mN p.length (pb p) x z) x y z (jN p.length (pb p) x z)))) rfl rfl <| lx_nil <| wi_condS (t := decide (badP p.length (pb p) (mN p.length (pb p) x z) x y z (jN p.length (pb p) x z))) rfl (fun c4 => ?_) (fun c4 => ?_)
        · refine wi_exit rfl <| wi_seq <| wi_seq <| wi_reg rfl <| lx_move (.bool (decide (badP p.length (pb p) (mN p.length (pb p) x z) x y z (jN p.length (pb p) x z)))) rfl rfl <| lx_not rfl rfl <| lx_nil <| wi_condS (t := !(decide (badP p.length (pb p) (mN p.length (pb p) x z) x y z (jN p.length (pb p) x z)))) rfl (fun c5 => ?_) (fun c5 => ?_)
          · refine wi_seq <| wi_reg rfl <| lx_build (.agg #[.int .i64 0, .int .i64 0, .int .i64 0, .int .i64 0, .int .i64 0]) [] rfl rfl (fun w => bld5z Try.underlying48 Try.zeroValue48 Try.sizeOf3 w) <| lx_stBA (#[.int .i64 0, .int .i64 0, .int .i64 0, .int .i64 0, .int .i64 0]) rfl rfl Try.sizeOf48 hb4 rfl rfl rfl rfl (by simp [Value.oneCell']) (fun _ _ _ _ => trivial) fun h5 hbk10 hc2 => ?_
            have hx0_7 := hx0_6.trans (hc2.ext hbb2)
            have hb5 := hc2.blk hb3 (Ne.symm hne1)
            refine lx_assign (.bool false) rfl rfl <| lx_nil <| ?_
            -- R1
            refine wi_ret ⟨.tuple #[.agg #[.int .i64 0, .int .i64 0, .int .i64 0, .int .i64 0, .int .i64 0], .bool false], (res_cell2 rfl rfl hbk10 wd48 rfl rfl), ⟨0, 0, 0, 0, 0, false, ?_, ?_, hx0_7⟩⟩
            · first | rfl | (simp; done) | (simp; omega)
            · exact absurd c4 (by simpa using c5)
          · refine wi_skip <| wi_seq <| wi_reg rfl <| lx_ldBA rfl rfl wd48 hb4 rfl rfl <| lx_stBA (#[.int .i64 ((mN p.length (pb p) x z : Nat) : Int), .int .i64 ((x : Nat) : Int), .int .i64 ((y : Nat) : Int), .int .i64 ((z : Nat) : Int), .int .i64 ((jN p.length (pb p) x z : Nat) : Int)]) rfl rfl Try.sizeOf48 hb4 rfl rfl rfl rfl (by simp [Value.oneCell']) (fun _ _ _ _ => trivial) fun h6 hbk11 hc3 => ?_
            have hx0_8 := hx0_6.trans (hc3.ext hbb2)
            have hb6 := hc3.blk hb3 (Ne.symm hne1)
            refine lx_assign (.bool true) rfl rfl <| lx_nil <| ?_
            -- R2
            refine wi_ret ⟨.tuple #[.agg #[.int .i64 ((mN p.length (pb p) x z : Nat) : Int), .int .i64 ((x : Nat) : Int), .int .i64 ((y : Nat) : Int), .int .i64 ((z : Nat) : Int), .int .i64 ((jN p.length (pb p) x z : Nat) : Int)], .bool true], (res_cell2 rfl rfl hbk11 wd48 rfl rfl), ⟨mN p.length (pb p) x z, x, y, z, jN p.length (pb p) x z, true, ?_, ?_, hx0_8⟩⟩
            · first | rfl | (simp; done) | (simp; omega)
            · exact .inl ⟨rfl, of_decide_eq_true c4, by omega, by omega, by omega, by omega, by omega⟩
        · refine wi_skip <| wi_inBlock <| wi_reg rfl <| lx_add (((z + 1 : Nat) : Int)) rfl rfl rfl (by omega) (by omega) (by omega) <| lx_move (.int .i64 ((z + 1 : Nat) : Int)) rfl rfl <| lx_nil <| ?_
          -- L4.1
          refine IH3 _ _ (z + 1, mN p.length (pb p) x z, x, y, z, jN p.length (pb p) x z, decide (badP p.length (pb p) (mN p.length (pb p) x z) x y z (jN p.length (pb p) x z))) (agree_ups rfl agree_self) ⟨rfl, rfl, trivial⟩ ⟨?_, ?_, hx0_6, ?_, ?_, ?_⟩ ?_
          · exact hb3
          · exact hb4
          · try dsimp only
            omega
          · try dsimp only
            exact c4
          · try dsimp only
            intro s hs9
            by_cases e : s = z
            · subst e; exact of_decide_eq_false c4
            · exact hc s (by omega)
          · first | omega | (dsimp only; omega)
      · refine lx_nil <| wi_seq <| wi_false rfl <| wi_exit rfl <| wi_inBlock <| wi_reg rfl <| lx_add (((y + 1 : Nat) : Int)) rfl rfl rfl (by omega) (by omega) (by omega) <| lx_move (.int .i64 ((y + 1 : Nat) : Int)) rfl rfl <| lx_nil <| ?_
        -- L2.1
        refine IH2 _ _ (y + 1, vo, va, vb, vc, vi, bb) (agree_ups rfl (agree_mix (rngB_sub (by decide) (by decide) rfl) (agree_ups rfl agree_self))) ⟨rfl, rfl, trivial⟩ ⟨?_, ?_, hx0_4, ?_, ?_, ?_⟩ ?_
        · exact hbk7
        · exact hbk8
        · try dsimp only
          omega
        · try dsimp only
          exact hbb
        · try dsimp only
          intro r s hr hs9
          by_cases e : r = y
          · subst e; exact hc s (by omega)
          · exact hb r s (by omega) hs9
        · first | omega | (dsimp only; omega)
    · refine lx_nil <| wi_seq <| wi_false rfl <| wi_exit rfl <| wi_inBlock <| wi_reg rfl <| lx_add (((x + 1 : Nat) : Int)) rfl rfl rfl (by omega) (by omega) (by omega) <| lx_move (.int .i64 ((x + 1 : Nat) : Int)) rfl rfl <| lx_nil <| ?_
      -- L0.1
      refine IH1 _ _ (x + 1, vo, va, vb, vc, vi, bb) (agree_ups rfl (agree_mix (rngB_sub (by decide) (by decide) rfl) (agree_ups rfl agree_self))) ⟨rfl, rfl, trivial⟩ ⟨?_, ?_, hx0_3, ?_, ?_, ?_⟩ ?_
      · exact hbk5
      · exact hbk6
      · try dsimp only
        omega
      · try dsimp only
        exact hbb
      · try dsimp only
        intro q r s hq hr hs9
        by_cases e : q = x
        · subst e; exact hb r s (by omega) hs9
        · exact ha q r s (by omega) hr hs9
      · first | omega | (dsimp only; omega)
  · refine lx_nil <| wi_seq <| wi_false rfl <| wi_exit rfl <| wi_seq <| wi_seq <| wi_reg rfl <| lx_move (.bool bb) rfl rfl <| lx_not rfl rfl <| lx_nil <| wi_condS (t := !bb) rfl (fun c6 => ?_) (fun c6 => ?_)
    · refine wi_seq <| wi_reg rfl <| lx_build (.agg #[.int .i64 0, .int .i64 0, .int .i64 0, .int .i64 0, .int .i64 0]) [] rfl rfl (fun w => bld5z Try.underlying48 Try.zeroValue48 Try.sizeOf3 w) <| lx_stBA (#[.int .i64 0, .int .i64 0, .int .i64 0, .int .i64 0, .int .i64 0]) rfl rfl Try.sizeOf48 hbk4 rfl rfl rfl rfl (by simp [Value.oneCell']) (fun _ _ _ _ => trivial) fun h7 hbk12 hc4 => ?_
      have hx0_9 := hx0_2.trans (hc4.ext hbb2)
      have hb7 := hc4.blk hbk3 (Ne.symm hne1)
      refine lx_assign (.bool false) rfl rfl <| lx_nil <| ?_
      -- R3
      refine wi_ret ⟨.tuple #[.agg #[.int .i64 0, .int .i64 0, .int .i64 0, .int .i64 0, .int .i64 0], .bool false], (res_cell2 rfl rfl hbk12 wd48 rfl rfl), ⟨0, 0, 0, 0, 0, false, ?_, ?_, hx0_9⟩⟩
      · first | rfl | (simp; done) | (simp; omega)
      · exact .inr ⟨rfl, ⟨rfl, rfl, rfl, rfl, rfl⟩, fun q r s hq hr hs9 => ha q r s (by omega) hr hs9⟩
    · refine wi_skip <| wi_seq <| wi_reg rfl <| lx_ldBA rfl rfl wd48 hbk4 rfl rfl <| lx_stBA (#[.int .i64 ((vo : Nat) : Int), .int .i64 ((va : Nat) : Int), .int .i64 ((vb : Nat) : Int), .int .i64 ((vc : Nat) : Int), .int .i64 ((vi : Nat) : Int)]) rfl rfl Try.sizeOf48 hbk4 rfl rfl rfl rfl (by simp [Value.oneCell']) (fun _ _ _ _ => trivial) fun h8 hbk13 hc5 => ?_
      have hx0_10 := hx0_2.trans (hc5.ext hbb2)
      have hb8 := hc5.blk hbk3 (Ne.symm hne1)
      refine lx_assign (.bool true) rfl rfl <| lx_nil <| ?_
      -- R4
      refine wi_ret ⟨.tuple #[.agg #[.int .i64 ((vo : Nat) : Int), .int .i64 ((va : Nat) : Int), .int .i64 ((vb : Nat) : Int), .int .i64 ((vc : Nat) : Int), .int .i64 ((vi : Nat) : Int)], .bool true], (res_cell2 rfl rfl hbk13 wd48 rfl rfl), ⟨vo, va, vb, vc, vi, true, rfl, ?_, hx0_10⟩⟩
      · rw [hbb] at c6; cases c6

set_option maxRecDepth 10000 in
theorem obad_spec (h : Heap) (vp : Value) (hs : List Hdr) (p : List (List Bool)) (hr_vp : RdE encHd h vp hs) (ht_vp : RT encB h hs p) (hp1 : p.length ≤ 1000000) (hp2 : ∀ i, i < p.length → (gt p i).length ≤ 1000000) : Fx Try.prog 33 [vp] h (fun v h' => ∃ (o : Nat) (a : Nat) (b : Nat) (c : Nat) (i : Nat) (bb : Bool), v = .tuple #[.agg #[.int .i64 ((o : Nat) : Int), .int .i64 ((a : Nat) : Int), .int .i64 ((b : Nat) : Int), .int .i64 ((c : Nat) : Int), .int .i64 ((i : Nat) : Int)], .bool bb, .int .i64 (opnC p)] ∧ ((opnC p ≠ 0 ∧ (o = 0 ∧ a = 0 ∧ b = 0 ∧ c = 0 ∧ i = 0) ∧ bb = false) ∨ (opnC p = 0 ∧ badR p.length (pb p) o a b c i bb)) ∧ Ext h.size h h') := by
  have hl_vp := ht_vp.1
  refine fx_intro (n := 26) [(0, vp)] Try.func33 rfl rfl (by simp) ⟨rfl, trivial⟩ fun g0 => ?_
  refine wi_seq <| wi_reg rfl <| lx_alloc rfl rfl Try.zeroValue48 (fun _ _ _ => trivial) fun bn1 h1 hbn1 hbk1 hx1 hsz1 => ?_
  have hbb1 : h.size ≤ bn1 := by have := (Nat.le_refl h.size); omega
  have hbk1 : Blk h1 bn1 #[.int .i64 0, .int .i64 0, .int .i64 0, .int .i64 0, .int .i64 0] 48 := hbk1
  refine lx_assign (.bool false) rfl rfl <| lx_assign (.int .i64 0) rfl rfl <| lx_nil <| wi_seq <| wi_reg rfl <| lx_move (vp) rfl rfl <| lx_call [vp] rfl rfl Try.call92 rfl (open_spec h1 vp hs p (hr_vp.extS hx1) (ht_vp.extS hx1) (by omega) (by first | with_reducible assumption | omega)) (fun _ _ _ => trivial) ?_
  rintro _ h2 ⟨vj, vm, hj, hm, rj, rm, rfl, ho1, hot1, ho2, hot2, hop, hx2⟩
  have hx0_1 := hx1.trans2 hx2 hx1.size
  have hb1 := hbk1.extS hx2
  have ho3 := ho1.base hx1.size
  have hot3 := hot1.base hx1.size
  have hl_hot3 := hot3.1
  have ho4 := ho2.base hx1.size
  have hot4 := hot2.base hx1.size
  have hl_hot4 := hot4.1
  refine lx_move (.tuple #[.agg #[vj, vm], .int .i64 (opnC p)]) rfl rfl <| lx_extract (.agg #[vj, vm]) rfl rfl rfl <| lx_extract (.int .i64 (opnC p)) rfl rfl rfl <| lx_alloc rfl rfl Try.zeroValue119 (fun _ _ _ => trivial) fun bn2 h3 hbn2 hbk2 hx3 hsz2 => ?_
  have hbb2 : h.size ≤ bn2 := by have := hx0_1.size; omega
  have hne1 : bn2 ≠ bn1 := by have := hb1.lt; omega
  have hdj1 : Value.ownBlock vj ≠ some bn2 := by intro e; have := (ho3.lt e).2; omega
  have hnb1 : Nbt hj bn2 := nbt_new hot3 (by omega)
  have hdj2 : Value.ownBlock vm ≠ some bn2 := by intro e; have := (ho4.lt e).2; omega
  have hnb2 : Nbt hm bn2 := nbt_new hot4 (by omega)
  have hx0_2 := hx0_1.trans2 hx3 hx0_1.size
  have ho5 := ho3.extS hx3
  have hot5 := hot3.extS hx3
  have ho6 := ho4.extS hx3
  have hot6 := hot4.extS hx3
  have hb2 := hb1.extS hx3
  have hbk2 : Blk h3 bn2 #[.slice none 0 0, .slice none 0 0] 119 := hbk2
  refine lx_stBA (#[vj, vm]) rfl rfl Try.sizeOf119 hbk2 rfl rfl rfl rfl (one2 (sl_one ho5.rd) (sl_one ho6.rd)) (fun _ _ _ _ => trivial) fun h4 hbk3 hc1 => ?_
  have hx0_3 := hx0_2.trans (hc1.ext hbb2)
  have ho7 := hc1.owE ho5 hdj1
  have hot7 := hot5.chgB hc1 hnb1
  have ho8 := hc1.owE ho6 hdj2
  have hot8 := hot6.chgB hc1 hnb2
  have hb3 := hc1.blk hb2 (Ne.symm hne1)
  refine lx_assign (.int .i64 (opnC p)) rfl rfl <| lx_nil <| wi_seq <| wi_seq <| wi_reg rfl <| lx_move (.int .i64 (opnC p)) rfl rfl <| lx_neqS rfl rfl rfl (fun c1 => ?_) (fun c1 => ?_)
  · refine lx_nil <| wi_true rfl <| wi_seq <| wi_reg rfl <| lx_build (.agg #[.int .i64 0, .int .i64 0, .int .i64 0, .int .i64 0, .int .i64 0]) [] rfl rfl (fun w => bld5z Try.underlying48 Try.zeroValue48 Try.sizeOf3 w) <| lx_move (.int .i64 (opnC p)) rfl rfl <| lx_stBA (#[.int .i64 0, .int .i64 0, .int .i64 0, .int .i64 0, .int .i64 0]) rfl rfl Try.sizeOf48 hb3 rfl rfl rfl rfl (by simp [Value.oneCell']) (fun _ _ _ _ => trivial) fun h5 hbk4 hc2 => ?_
    have hx0_4 := hx0_3.trans (hc2.ext hbb1)
    have ho9 := hc2.owE ho7 (nb_new hbk1 ho1)
    have hot9 := hot7.chgB hc2 (nbt_ty hot7 hb3 (by decide))
    have ho10 := hc2.owE ho8 (nb_new hbk1 ho2)
    have hot10 := hot8.chgB hc2 (nbt_ty hot8 hb3 (by decide))
    have hb4 := hc2.blk hbk3 hne1
    refine lx_assign (.bool false) rfl rfl <| lx_assign (.int .i64 (opnC p)) rfl rfl <| lx_nil <| ?_
    -- R1
    refine wi_ret ⟨.tuple #[.agg #[.int .i64 0, .int .i64 0, .int .i64 0, .int .i64 0, .int .i64 0], .bool false, .int .i64 (opnC p)], (res_cell3 rfl rfl hbk4 wd48 rfl rfl rfl), ⟨0, 0, 0, 0, 0, false, ?_, ?_, hx0_4⟩⟩
    · first | rfl | (simp; done) | (simp; omega)
    · exact .inl ⟨by omega, ⟨rfl, rfl, rfl, rfl, rfl⟩, rfl⟩
  · refine lx_nil <| wi_false rfl <| wi_skip <| wi_seq <| wi_reg rfl <| ?_
    have hz := opnC_zero (p := p) (by omega)
    have hok := chkT_ok (p := p) hz.1
    have hp12 : p.length ≤ 12 := hok.2.1
    have hpq : Sq p p.length := isT_sq hok.2.2
    have hio := isT_o hok.2.2
    have hng : noGap p.length (pb p) := ngB_iff.1 hz.2
    obtain ⟨hrj, hrm⟩ : rj = tabI p.length (joinF p.length (pb p)) ∧ rm = tabI p.length (meetF p.length (pb p)) := opnP_ok hop (by omega)
    refine lx_ldBA rfl rfl wd119 hbk3 rfl rfl <| lx_move (vp) rfl rfl <| lx_call [.agg #[vj, vm], vp] rfl rfl Try.call94 rfl (bad_spec h4 vp hs p vj hj rj vm hm rm ho7.rd hot7.rt ho8.rd hot8.rt (hr_vp.extS hx0_3) (ht_vp.extS hx0_3) (by omega) (by first | with_reducible assumption | omega) hio hng hrj hrm) (fun _ _ _ => trivial) ?_
    rintro _ h6 ⟨xo, xa, xb, xc, xi, xbb, rfl, hxb, hx4⟩
    have hx0_5 := hx0_3.trans2 hx4 hx0_3.size
    have ho11 := ho7.extS hx4
    have hot11 := hot7.extS hx4
    have ho12 := ho8.extS hx4
    have hot12 := hot8.extS hx4
    have hb5 := hb3.extS hx4
    have hb6 := hbk3.extS hx4
    refine lx_move (.tuple #[.agg #[.int .i64 ((xo : Nat) : Int), .int .i64 ((xa : Nat) : Int), .int .i64 ((xb : Nat) : Int), .int .i64 ((xc : Nat) : Int), .int .i64 ((xi : Nat) : Int)], .bool xbb]) rfl rfl <| lx_extract (.agg #[.int .i64 ((xo : Nat) : Int), .int .i64 ((xa : Nat) : Int), .int .i64 ((xb : Nat) : Int), .int .i64 ((xc : Nat) : Int), .int .i64 ((xi : Nat) : Int)]) rfl rfl rfl <| lx_extract (.bool xbb) rfl rfl rfl <| lx_alloc rfl rfl Try.zeroValue48 (fun _ _ _ => trivial) fun bn3 h7 hbn3 hbk5 hx5 hsz3 => ?_
    have hbb3 : h.size ≤ bn3 := by have := hx0_5.size; omega
    have hne2 : bn3 ≠ bn1 := by have := hb5.lt; omega
    have hne3 : bn3 ≠ bn2 := by have := hb6.lt; omega
    have hdj3 : Value.ownBlock vj ≠ some bn3 := by intro e; have := (ho11.lt e).2; omega
    have hnb3 : Nbt hj bn3 := nbt_new hot11 (by omega)
    have hdj4 : Value.ownBlock vm ≠ some bn3 := by intro e; have := (ho12.lt e).2; omega
    have hnb4 : Nbt hm bn3 := nbt_new hot12 (by omega)
    have hx0_6 := hx0_5.trans2 hx5 hx0_5.size
    have ho13 := ho11.extS hx5
    have hot13 := hot11.extS hx5
    have ho14 := ho12.extS hx5
    have hot14 := hot12.extS hx5
    have hb7 := hb5.extS hx5
    have hb8 := hb6.extS hx5
    have hbk5 : Blk h7 bn3 #[.int .i64 0, .int .i64 0, .int .i64 0, .int .i64 0, .int .i64 0] 48 := hbk5
    refine lx_stBA (#[.int .i64 ((xo : Nat) : Int), .int .i64 ((xa : Nat) : Int), .int .i64 ((xb : Nat) : Int), .int .i64 ((xc : Nat) : Int), .int .i64 ((xi : Nat) : Int)]) rfl rfl Try.sizeOf48 hbk5 rfl rfl rfl rfl (by simp [Value.oneCell']) (fun _ _ _ _ => trivial) fun h8 hbk6 hc3 => ?_
    have hx0_7 := hx0_6.trans (hc3.ext hbb3)
    have ho15 := hc3.owE ho13 hdj3
    have hot15 := hot13.chgB hc3 hnb3
    have ho16 := hc3.owE ho14 hdj4
    have hot16 := hot14.chgB hc3 hnb4
    have hb9 := hc3.blk hb7 (Ne.symm hne2)
    have hb10 := hc3.blk hb8 (Ne.symm hne3)
    refine lx_assign (.bool xbb) rfl rfl <| lx_nil <| wi_seq <| wi_reg rfl <| lx_ldBA rfl rfl wd48 hbk6 rfl rfl <| lx_move (.bool xbb) rfl rfl <| lx_stBA (#[.int .i64 ((xo : Nat) : Int), .int .i64 ((xa : Nat) : Int), .int .i64 ((xb : Nat) : Int), .int .i64 ((xc : Nat) : Int), .int .i64 ((xi : Nat) : Int)]) rfl rfl Try.sizeOf48 hb9 rfl rfl rfl rfl (by simp [Value.oneCell']) (fun _ _ _ _ => trivial) fun h9 hbk7 hc4 => ?_
    have hx0_8 := hx0_7.trans (hc4.ext hbb1)
    have ho17 := hc4.owE ho15 (nb_new hbk1 ho1)
    have hot17 := hot15.chgB hc4 (nbt_ty hot15 hb9 (by decide))
    have ho18 := hc4.owE ho16 (nb_new hbk1 ho2)
    have hot18 := hot16.chgB hc4 (nbt_ty hot16 hb9 (by decide))
    have hb11 := hc4.blk hb10 hne1
    have hb12 := hc4.blk hbk6 hne2
    refine lx_assign (.bool xbb) rfl rfl <| lx_assign (.int .i64 0) rfl rfl <| lx_nil <| ?_
    -- R2
    refine wi_ret ⟨.tuple #[.agg #[.int .i64 ((xo : Nat) : Int), .int .i64 ((xa : Nat) : Int), .int .i64 ((xb : Nat) : Int), .int .i64 ((xc : Nat) : Int), .int .i64 ((xi : Nat) : Int)], .bool xbb, .int .i64 0], (res_cell3 rfl rfl hbk7 wd48 rfl rfl rfl), ⟨xo, xa, xb, xc, xi, xbb, ?_, ?_, hx0_8⟩⟩
    · rw [show opnC p = 0 from by omega]
    · exact .inr ⟨by omega, hxb⟩

abbrev inR (n : Nat) (x : Int) : Prop := 0 ≤ x ∧ x < n
end Go.Proofs.Ytdokijbdnajhgaa
namespace Go.Proofs.Ytdokijbdnajhgaa
open Go Go.X

end Go.Proofs.Ytdokijbdnajhgaa
namespace Go.Proofs.Ytdokijbdnajhgaa
open Go Go.X

theorem goodA {a : Int} {A B : Prop} (h : (a ≠ 0 ∧ A) ∨ (a = 0 ∧ B)) (h0 : a = 0) : B := h.elim (fun x => absurd h0 x.1) (fun x => x.2)
end Go.Proofs.Ytdokijbdnajhgaa
namespace Go.Proofs.Ytdokijbdnajhgaa
open Go Go.X

def UpL (n : Nat) (ls : List (Int × Int)) : Prop := ∀ d, d ∈ ls → ∃ a b : Nat, d = ((a : Int), (b : Int)) ∧ a < b ∧ b < n
theorem UpL.snoc {n : Nat} {ls : List (Int × Int)} (h : UpL n ls) {x y : Int} (a b : Nat) (hx : x = a) (hy : y = b) (h1 : a < b) (h2 : b < n) : UpL n (ls ++ [(x, y)]) := fun d hd => by
  rcases List.mem_append.1 hd with hd | hd
  · exact h d hd
  · rw [List.mem_singleton] at hd
    exact ⟨a, b, by rw [hd, hx, hy], h1, h2⟩
end Go.Proofs.Ytdokijbdnajhgaa
namespace Go.X

/-- The pairs of one set, and of the sets below one. -/
def subE (x j : Nat) : List (Int × Int) := ((List.range j).filter fun e => decide (x &&& 2 ^ e = 0)).map fun (e : Nat) => ((x : Int), ((x ||| 2 ^ e : Nat) : Int))
def subP (k m : Nat) : List (Int × Int) := (List.range m).flatMap fun x => subE x k
theorem subE_yes {x j : Nat} (h : x &&& 2 ^ j = 0) : subE x j ++ [((x : Int), ((x ||| 2 ^ j : Nat) : Int))] = subE x (j + 1) := by unfold subE; rw [List.range_succ, List.filter_append, List.map_append]; simp [h]
theorem subE_no {x j : Nat} (h : ¬ x &&& 2 ^ j = 0) : subE x j = subE x (j + 1) := by unfold subE; rw [List.range_succ, List.filter_append, List.map_append]; simp [h]
theorem subP_succ (k m : Nat) : subP k (m + 1) = subP k m ++ subE m k := by unfold subP; rw [List.range_succ, List.flatMap_append]; simp
theorem subE_len (x j : Nat) : (subE x j).length ≤ j := by
  unfold subE; rw [List.length_map]
  have := List.length_filter_le (fun e => decide (x &&& 2 ^ e = 0)) (List.range j)
  simpa using this
theorem subP_len (k : Nat) : ∀ m, (subP k m).length ≤ m * k
  | 0 => by simp [subP]
  | m + 1 => by
    rw [subP_succ, List.length_append, Nat.add_mul]
    have := subP_len k m; have := subE_len m k; omega
theorem subP_mem {k m : Nat} {d : Int × Int} : d ∈ subP k m ↔ ∃ x e, x < m ∧ e < k ∧ x &&& 2 ^ e = 0 ∧ d = ((x : Int), ((x ||| 2 ^ e : Nat) : Int)) := by
  unfold subP subE
  simp only [List.mem_flatMap, List.mem_map, List.mem_filter, List.mem_range, decide_eq_true_iff]
  constructor
  · rintro ⟨x, hx, e, ⟨he, h⟩, rfl⟩; exact ⟨x, e, hx, he, h, rfl⟩
  · rintro ⟨x, e, hx, he, h, rfl⟩; exact ⟨x, hx, e, ⟨he, h⟩, rfl⟩
theorem and_pow_zero {x e : Nat} : x &&& 2 ^ e = 0 ↔ x.testBit e = false := by
  constructor
  · intro h
    have h1 : (x &&& 2 ^ e).testBit e = false := by rw [h]; simp
    simpa [Nat.testBit_and, Nat.testBit_two_pow_self] using h1
  · intro h
    refine Nat.eq_of_testBit_eq fun i => ?_
    rw [Nat.testBit_and, Nat.zero_testBit]
    by_cases e' : e = i
    · subst e'; rw [h]; rfl
    · rw [Nat.testBit_two_pow_of_ne e', Bool.and_false]
/-- One set is within another one. -/
abbrev sbB (x y : Nat) : Bool := decide (x &&& y = x)
theorem sub_chain {n k x y : Nat} {ls : List (Int × Int)} (hx : x < 2 ^ k) (hy : y < 2 ^ k) (hn : n = 2 ^ k) (hl : ls = subP k (2 ^ k)) : ∀ e, e ≤ k → closW n ls x (x ||| y % 2 ^ e) = true
  | 0, _ => by rw [Nat.pow_zero, Nat.mod_one, Nat.or_zero]; exact clos_refl x
  | e + 1, he => by
    have ih := sub_chain hx hy hn hl e (by omega)
    have hz : x ||| y % 2 ^ e < 2 ^ k := Nat.or_lt_two_pow hx (by have := Nat.mod_le y (2 ^ e); omega)
    by_cases hb : y.testBit e = true ∧ x.testBit e = false
    · have e1 : x ||| y % 2 ^ (e + 1) = (x ||| y % 2 ^ e) ||| 2 ^ e := by
        refine Nat.eq_of_testBit_eq fun i => ?_
        simp only [Nat.testBit_or, Nat.testBit_mod_two_pow]
        by_cases e' : e = i
        · subst e'; simp [hb.1, Nat.testBit_two_pow_self]
        · rw [Nat.testBit_two_pow_of_ne e']
          by_cases h1 : i < e
          · simp [h1, show i < e + 1 by omega]
          · simp [h1, show ¬ i < e + 1 by omega]
      have h2 : (x ||| y % 2 ^ e) &&& 2 ^ e = 0 := by
        rw [and_pow_zero, Nat.testBit_or, Nat.testBit_mod_two_pow, hb.2]; simp
      have h3 : closW n ls (x ||| y % 2 ^ e) (x ||| y % 2 ^ (e + 1)) = true := clos_pair (by rw [hl, subP_mem]; exact ⟨_, e, hz, by omega, h2, by rw [e1]⟩)
      exact warN_trans _ n _ (by omega) _ _ ih h3
    · have e1 : x ||| y % 2 ^ (e + 1) = x ||| y % 2 ^ e := by
        refine Nat.eq_of_testBit_eq fun i => ?_
        simp only [Nat.testBit_or, Nat.testBit_mod_two_pow]
        by_cases e' : e = i
        · subst e'
          cases h4 : y.testBit e
          · simp
          · cases h5 : x.testBit e
            · exact absurd ⟨h4, h5⟩ hb
            · simp
        · by_cases h1 : i < e
          · simp [h1, show i < e + 1 by omega]
          · simp [h1, show ¬ i < e + 1 by omega]
      rw [e1]; exact ih
theorem sub_clos {k x y : Nat} (hx : x < 2 ^ k) (hy : y < 2 ^ k) : closW (2 ^ k) (subP k (2 ^ k)) x y = sbB x y := by
  rw [Bool.eq_iff_iff]
  constructor
  · intro h
    refine decide_eq_true (clos_in (R := fun x y => x &&& y = x) (fun x => Nat.and_self x) (fun x y z h1 h2 => ?_) (fun x y h => ?_) h)
    · rw [← h1, Nat.and_assoc, h2]
    · obtain ⟨a, e, _, _, _, h9⟩ := subP_mem.1 h
      obtain ⟨h1, h2⟩ := Prod.mk.inj h9
      have h3 : x = a := by omega
      have h4 : y = a ||| 2 ^ e := by omega
      subst h3; subst h4
      refine Nat.eq_of_testBit_eq fun i => ?_
      rw [Nat.testBit_and, Nat.testBit_or]; cases x.testBit i <;> simp
  · intro h
    have h1 := of_decide_eq_true h
    have h2 := sub_chain hx hy rfl rfl k (Nat.le_refl k)
    rw [Nat.mod_eq_of_lt hy] at h2
    have h3 : x ||| y = y := by
      refine Nat.eq_of_testBit_eq fun i => ?_
      rw [← h1]
      simp only [Nat.testBit_or, Nat.testBit_and]
      cases x.testBit i <;> cases y.testBit i <;> rfl
    rwa [h3] at h2
theorem sub_tab (k : Nat) : tabF (2 ^ k) (closW (2 ^ k) (subP k (2 ^ k))) = tabF (2 ^ k) sbB := by
  unfold tabF rowF
  refine List.map_congr_left fun x hx => List.map_congr_left fun y hy => sub_clos (List.mem_range.1 hx) (List.mem_range.1 hy)
theorem sub_ok {k : Nat} (hk : k ≤ 3) : closE ((2 ^ k : Nat) : Int) (subP k (2 ^ k)) = 0 := by
  have hp : 2 ^ k ≤ 2 ^ 3 := Nat.pow_le_pow_right (by omega) hk
  have hp1 : 0 < 2 ^ k := Nat.pow_pos (by omega)
  refine up_closE (by omega) (by omega) fun d hd => ?_
  obtain ⟨x, e, h1, h2, h3, rfl⟩ := subP_mem.1 hd
  have h4 : x ||| 2 ^ e < 2 ^ k := Nat.or_lt_two_pow h1 (Nat.pow_lt_pow_right (by omega) h2)
  have h5 : x < x ||| 2 ^ e := by
    have h6 : x ≤ x ||| 2 ^ e := Nat.left_le_or
    rcases Nat.lt_or_ge x (x ||| 2 ^ e) with h | h
    · exact h
    · exfalso
      have h7 : x = x ||| 2 ^ e := by omega
      have h8 := and_pow_zero.1 h3
      rw [h7, Nat.testBit_or, Nat.testBit_two_pow_self, Bool.or_true] at h8
      cases h8
  exact ⟨x, x ||| 2 ^ e, rfl, h5, h4⟩
/-- The marks of a family, and what the closure does to them. -/
def mkL (xs : List Int) : List Bool := xs.foldl (fun m s => m.set s.toNat true) (List.replicate 1024 false)
def upS (i : Nat) (m : List Bool) (s : Nat) : List Bool := if s &&& (1 * 2 ^ i) = 0 then m.set (s ||| 1 * 2 ^ i) (gt m (s ||| 1 * 2 ^ i) || gt m s) else m
def upI (i : Nat) (m : List Bool) (k : Nat) : List Bool := (List.range k).foldl (upS i) m
def upL (n : Nat) (m : List Bool) (k : Nat) : List Bool := (List.range k).foldl (fun m i => upI i m (2 ^ n)) m
theorem upI_succ (i k : Nat) (m : List Bool) : upI i m (k + 1) = upS i (upI i m k) k := by unfold upI; rw [List.range_succ, List.foldl_append]; rfl
theorem upL_succ (n k : Nat) (m : List Bool) : upL n m (k + 1) = upI k (upL n m k) (2 ^ n) := by unfold upL; rw [List.range_succ, List.foldl_append]; rfl
theorem upS_len (i s : Nat) (m : List Bool) : (upS i m s).length = m.length := by unfold upS; split <;> simp
theorem upI_len (i : Nat) (m : List Bool) : ∀ k, (upI i m k).length = m.length
  | 0 => rfl
  | k + 1 => by rw [upI_succ, upS_len, upI_len i m k]
theorem upL_len (n : Nat) (m : List Bool) : ∀ k, (upL n m k).length = m.length
  | 0 => rfl
  | k + 1 => by rw [upL_succ, upI_len, upL_len n m k]
theorem mkL_len (xs : List Int) : (mkL xs).length = 1024 := by
  unfold mkL
  suffices h : ∀ (xs : List Int) (m : List Bool), (xs.foldl (fun m s => m.set s.toNat true) m).length = m.length by rw [h]; exact List.length_replicate
  intro xs
  induction xs with
  | nil => intro m; rfl
  | cons a t ih => intro m; rw [List.foldl_cons, ih]; simp
/-- The sets that hold one set. -/
def upX (n : Nat) (xs : List Int) : List Int := filtF 1024 (gt (upL n (mkL xs) n))
def wantS (k x y : Nat) : Int := if ((y : Int) ∈ upX k [(x : Int)]) then 1 - 2 * ((popN (x ^^^ y) % 2 : Nat) : Int) else 0
def lawS (k x y : Nat) : Bool := (pb (tabF (2 ^ k) sbB) x y == decide ((y : Int) ∈ upX k [(x : Int)])) && decide (gt (gt (muT (tabF (2 ^ k) sbB).length (pb (tabF (2 ^ k) sbB))) x) y = wantS k x y)
def lawK (k : Nat) : Bool := isT (tabF (2 ^ k) sbB) && (decide ((Go.Proofs.Ytdokijbdnajhgaa.jelF (tabF (2 ^ k) sbB).length (pb (tabF (2 ^ k) sbB))).length = k) && (Go.Proofs.Ytdokijbdnajhgaa.ngB (tabF (2 ^ k) sbB).length (pb (tabF (2 ^ k) sbB)) && distB (tabF (2 ^ k) sbB).length (pb (tabF (2 ^ k) sbB))))
theorem lawS_all : ((List.range 4).all fun k => (List.range (2 ^ k)).all fun x => (List.range (2 ^ k)).all fun y => lawS k x y) = true := by decide +kernel
theorem lawK_all : (List.range 4).all lawK = true := by decide +kernel
theorem lawS_at {k x y : Nat} (hk : k ≤ 3) (hx : x < 2 ^ k) (hy : y < 2 ^ k) : pb (tabF (2 ^ k) sbB) x y = decide ((y : Int) ∈ upX k [(x : Int)]) ∧ gt (gt (muT (tabF (2 ^ k) sbB).length (pb (tabF (2 ^ k) sbB))) x) y = wantS k x y := by
  have h := rall_iff.1 (rall_iff.1 (rall_iff.1 lawS_all k (by omega)) x hx) y hy
  unfold lawS at h
  rw [Bool.and_eq_true] at h
  exact ⟨eq_of_beq h.1, of_decide_eq_true h.2⟩
theorem lawK_at {k : Nat} (hk : k ≤ 3) : isT (tabF (2 ^ k) sbB) = true ∧ (Go.Proofs.Ytdokijbdnajhgaa.jelF (tabF (2 ^ k) sbB).length (pb (tabF (2 ^ k) sbB))).length = k ∧ Go.Proofs.Ytdokijbdnajhgaa.ngB (tabF (2 ^ k) sbB).length (pb (tabF (2 ^ k) sbB)) = true ∧ distB (tabF (2 ^ k) sbB).length (pb (tabF (2 ^ k) sbB)) = true := by
  have h := rall_iff.1 lawK_all k (by omega)
  unfold lawK at h
  rw [Bool.and_eq_true, Bool.and_eq_true, Bool.and_eq_true] at h
  exact ⟨h.1, of_decide_eq_true h.2.1, h.2.2.1, h.2.2.2⟩
theorem mkL_take {xs : List Int} {k : Nat} (hk : k < xs.length) : mkL (xs.take (k + 1)) = (mkL (xs.take k)).set (gt xs k).toNat true := by
  unfold mkL
  rw [List.take_add_one, gt_some hk, List.foldl_append]; rfl
theorem upX_len (n : Nat) (xs : List Int) : (upX n xs).length ≤ 1024 := filtF_length _ _
theorem pop8 {z : Nat} (h : z < 8) : popN z = z % 2 + popN (z / 2) := by
  have h9 : ((List.range 8).all fun z => decide (popN z = z % 2 + popN (z / 2))) = true := by decide
  exact of_decide_eq_true (rall_iff.1 h9 z h)
theorem pop0 : popN 0 = 0 := by decide
theorem chkS_one {k x : Nat} (hk : k ≤ 10) (hx : x < 2 ^ k) : Go.Proofs.Ytdokijbdnajhgaa.chkS (k : Int) [(x : Int)] = 0 := Go.Proofs.Ytdokijbdnajhgaa.chkS_ok (by omega) fun i hi => by
  have h0 : i = 0 := by simp at hi; omega
  subst h0
  rw [if_pos rfl, Int.toNat_natCast]
  have h1 : gt [(x : Int)] 0 = (x : Int) := rfl
  rw [h1]; omega
end Go.X
namespace Go.Proofs.Ytdokijbdnajhgaa
open Go Go.X

set_option maxRecDepth 10000 in
theorem marked_spec (h : Heap) (vl : Value) (xs : List Int) (hr_vl : RdE encI h vl xs) (hp1 : xs.length ≤ 4096) (hp2 : ∀ i, i < xs.length → 0 ≤ gt xs i ∧ gt xs i < 1024) : Fx Try.prog 124 [vl] h (fun v h' => ∃ (bs : List Bool), v = .agg (bc bs) ∧ (bs = mkL xs) ∧ Ext h.size h h') := by
  refine fx_intro (n := 16) [(0, vl)] Try.func124 rfl rfl (by simp) ⟨rfl, trivial⟩ fun g0 => ?_
  refine wi_seq <| wi_reg rfl <| lx_alloc rfl rfl Try.zeroValue156 (fun _ _ _ => trivial) fun bn1 h1 hbn1 hbk1 hx1 hsz1 => ?_
  have hbb1 : h.size ≤ bn1 := by have := (Nat.le_refl h.size); omega
  have hbk1 : Blk h1 bn1 (bc (List.replicate 1024 false)) 156 := by rw [← zc156]; exact hbk1
  refine lx_nil <| wi_seq <| wi_reg rfl <| lx_alloc rfl rfl Try.zeroValue156 (fun _ _ _ => trivial) fun bn2 h2 hbn2 hbk2 hx2 hsz2 => ?_
  have hbb2 : h.size ≤ bn2 := by have := hx1.size; omega
  have hne1 : bn2 ≠ bn1 := by have := hbk1.lt; omega
  have hx0_1 := hx1.trans2 hx2 hx1.size
  have hb1 := hbk1.extS hx2
  have hbk2 : Blk h2 bn2 (bc (List.replicate 1024 false)) 156 := by rw [← zc156]; exact hbk2
  refine lx_nil <| wi_seq <| wi_seq <| wi_reg rfl <| lx_move (vl) rfl rfl <| lx_len rfl Try.underlying25 hr_vl rfl <| lx_move (.int .i64 0) rfl rfl <| lx_nil <| wi_block <| ?_
  refine wi_loop (σ := Nat × (List Bool)) (rngB 8 15 [5]) (fun (ss : Nat × (List Bool)) => [(8, .int .i64 ((ss.1 : Nat) : Int))]) (fun (ss : Nat × (List Bool)) (hh : Heap) => Blk hh bn2 (bc ss.2) 156 ∧ Blk hh bn1 (bc (List.replicate 1024 false)) 156 ∧ Ext h.size h hh ∧ (ss.1 ≤ xs.length) ∧ (ss.2.length = 1024) ∧ (ss.2 = mkL (xs.take ss.1))) (fun (ss : Nat × (List Bool)) => xs.length - ss.1) (0, List.replicate 1024 false) ⟨rfl, trivial⟩ ⟨?_, ?_, hx0_1, ?_, ?_, ?_⟩ ?_
  · exact hbk2
  · exact hb1
  · try dsimp only
    omega
  · try dsimp only
    exact List.length_replicate
  · try dsimp only
    first | done | rfl
  rintro g1 ⟨k, bs⟩ hh1 ⟨hbk3, hbk4, hx0_2, hk, hbl, hbs⟩ IH1
  dsimp only at *
  refine wi_seq <| wi_reg rfl <| lx_lssS rfl rfl rfl (fun c1 => ?_) (fun c1 => ?_)
  · refine lx_nil <| wi_seq <| wi_true rfl <| wi_skip <| wi_seq <| wi_block <| wi_seq <| wi_reg rfl <| ?_
    obtain ⟨a, hga, ha4⟩ : ∃ a : Nat, gt xs k = (a : Int) ∧ a < 1024 := ⟨(gt xs k).toNat, by have := hp2 k (by omega); omega, by have := hp2 k (by omega); omega⟩
    refine lx_ix (i := k) rfl eT25 hr_vl rfl rfl (by omega) <| lx_ld (i := k) (j := 0) (.int .i64 ((a : Nat) : Int)) rfl rfl fl3 (hr_vl.extS hx0_2) (by omega) (by show some (Value.int .i64 (gt xs k)) = _; rw [hga]) rfl <| lx_assign (.int .i64 ((a : Nat) : Int)) rfl rfl <| lx_nil <| wi_reg rfl <| lx_move (.int .i64 ((a : Nat) : Int)) rfl rfl <| lx_ixB (i := a) (a) rfl Try.underlying156 Try.sizeOf4 rfl rfl (by omega) (by omega) <| lx_stB (.bool true) rfl rfl Try.sizeOf4 hbk3 (by rw [bc_size]; first | omega | (simp only [List.length_set, List.length_append, List.length_cons, List.length_nil, List.length_replicate, List.length_take, swp_length, exch_length]; omega)) rfl rfl rfl rfl (fun _ _ _ _ => trivial) fun h3 hbk5 hc1 => ?_
    have hx0_3 := hx0_2.trans (hc1.ext hbb2)
    have hb2 := hc1.blk hbk4 (Ne.symm hne1)
    rw [bc_set] at hbk5
    refine lx_nil <| wi_inBlock <| wi_reg rfl <| lx_add (((k + 1 : Nat) : Int)) rfl rfl rfl (by omega) (by omega) (by omega) <| lx_move (.int .i64 ((k + 1 : Nat) : Int)) rfl rfl <| lx_nil <| ?_
    -- L0.1
    refine IH1 _ _ (k + 1, bs.set a true) (agree_ups rfl agree_self) ⟨rfl, trivial⟩ ⟨?_, ?_, hx0_3, ?_, ?_, ?_⟩ ?_
    · exact hbk5
    · exact hb2
    · try dsimp only
      omega
    · try dsimp only
      rw [List.length_set]; exact hbl
    · try dsimp only
      rw [hbs, mkL_take (by omega), hga, Int.toNat_natCast]
    · first | omega | (dsimp only; omega)
  · refine lx_nil <| wi_seq <| wi_false rfl <| wi_exit rfl <| wi_seq <| wi_reg rfl <| lx_ldBA rfl rfl wd156 hbk3 (by rw [bc_size]; first | omega | (simp; done) | (simp; omega)) rfl <| lx_stBA (bc bs) rfl rfl Try.sizeOf156 hbk4 (by rw [bc_size]; first | omega | (simp; done) | (simp; omega)) (by rw [bc_size]; first | omega | (simp; done) | (simp; omega)) rfl rfl (bc_one _) (fun _ _ _ _ => trivial) fun h4 hbk6 hc2 => ?_
    have hx0_4 := hx0_2.trans (hc2.ext hbb1)
    have hb3 := hc2.blk hbk3 hne1
    refine lx_nil <| ?_
    -- R1
    refine wi_ret ⟨.agg (bc bs), (res_cell rfl rfl hbk6 wd156 (by rw [bc_size]; first | omega | (simp; done) | (simp; omega))), ⟨bs, rfl, ?_, hx0_4⟩⟩
    · rw [hbs, show k = xs.length from by omega, List.take_length]

set_option maxRecDepth 10000 in
theorem mlist_spec (h : Heap) (ms : List Bool) (bm : Nat) (hb_bm : Blk h bm (bc ms) 156) (hp1 : ms.length = 1024) : Fx Try.prog 125 [.pointer (some ⟨bm, 0, none⟩)] h (fun v h' => ∃ (s : Value), v = s ∧ OwE encI h' h.size 3 s (filtF 1024 (gt ms)) ∧ Ext h.size h h') := by
  refine fx_intro (n := 20) [(0, .pointer (some ⟨bm, 0, none⟩))] Try.func125 rfl rfl (by simp) ⟨rfl, trivial⟩ fun g0 => ?_
  refine wi_seq <| wi_reg rfl <| lx_assign (.slice none 0 0) rfl rfl <| lx_nil <| wi_seq <| wi_reg rfl <| lx_assign (.slice none 0 0) rfl rfl <| lx_nil <| wi_seq <| wi_seq <| wi_reg rfl <| lx_move (.pointer (some ⟨bm, 0, none⟩)) rfl rfl <| lx_move (.int .i64 0) rfl rfl <| lx_nil <| wi_block <| ?_
  refine wi_loop (σ := Nat × Value × (List Int)) (rngB 7 19 [3, 4, 5]) (fun (ss : Nat × Value × (List Int)) => [(7, .int .i64 ((ss.1 : Nat) : Int)), (3, ss.2.1)]) (fun (ss : Nat × Value × (List Int)) (hh : Heap) => Blk hh bm (bc ms) 156 ∧ OwE encI hh h.size 3 ss.2.1 ss.2.2 ∧ Ext h.size h hh ∧ (ss.1 ≤ 1024) ∧ (ss.2.2 = filtF ss.1 (gt ms))) (fun (ss : Nat × Value × (List Int)) => 1024 - ss.1) (0, .slice none 0 0, []) ⟨rfl, rfl, trivial⟩ ⟨?_, ?_, (Ext.refl _ _), ?_, ?_⟩ ?_
  · exact hb_bm
  · first | exact (owE_nil encI _ h.size 3) | (simpa using (owE_nil encI _ h.size 3))
  · try dsimp only
    omega
  · try dsimp only
    first | done | rfl
  rintro g1 ⟨a, v, xs⟩ hh1 ⟨hbk1, ho1, hx0_1, ha, hxs⟩ IH1
  dsimp only at *
  have hxl : xs.length ≤ a := by rw [hxs]; exact filtF_length _ _
  refine wi_seq <| wi_reg rfl <| lx_lssS rfl rfl rfl (fun c1 => ?_) (fun c1 => ?_)
  · refine lx_nil <| wi_seq <| wi_true rfl <| wi_skip <| wi_seq <| wi_block <| wi_seq <| wi_draw mo rfl (by decide +kernel) <| lx_move (.int .i64 ((a : Nat) : Int)) rfl rfl <| lx_nilCheck ⟨bm, 0, none⟩ rfl rfl <| lx_ixB (i := a) (a) rfl Try.underlying156 Try.sizeOf4 rfl rfl (by omega) (by omega) <| lx_ldB (.bool (gt ms a)) rfl rfl fl4 hbk1 (bc_get (by omega)) rfl <| lx_assign (.int .i64 ((a : Nat) : Int)) rfl rfl <| lx_assign (.bool (gt ms a)) rfl rfl <| lx_nil <| wi_seq <| wi_reg rfl <| lx_move (.bool (gt ms a)) rfl rfl <| lx_nil <| wi_condS (t := gt ms a) rfl (fun c2 => ?_) (fun c2 => ?_)
    · refine wi_reg rfl <| lx_move (v) rfl rfl <| lx_move (.int .i64 ((a : Nat) : Int)) rfl rfl <| lx_appendL (E := encI) (B := h.size) [((a : Nat) : Int)] [.int .i64 ((a : Nat) : Int)] rfl rfl (fun _ => rfl) rfl eT25 rfl rfl rfl rfl ho1 (fun _ => rfl) (by show xs.length + 1 ≤ _; omega) (by show (xs.length + 1) * 8 ≤ _; omega) hx0_1.size (fun _ _ => trivial) fun u1 v1 h1 ho2 hc1 hg1 => ?_
      have hx0_2 := hx0_1.trans (ho1.ext hc1 hx0_1.size)
      have hb1 := hbk1.chg hc1 (nb_ty ho1 hbk1 (by decide))
      refine lx_assign (v1) rfl rfl <| lx_nil <| wi_inBlock <| wi_reg rfl <| lx_add (((a + 1 : Nat) : Int)) rfl rfl rfl (by omega) (by omega) (by omega) <| lx_move (.int .i64 ((a + 1 : Nat) : Int)) rfl rfl <| lx_nil <| ?_
      -- L0.1
      refine IH1 _ _ (a + 1, v1, xs ++ [((a : Nat) : Int)]) (agree_ups rfl agree_self) ⟨rfl, rfl, trivial⟩ ⟨?_, ?_, hx0_2, ?_, ?_⟩ ?_
      · exact hb1
      · first | exact ho2 | (simpa using ho2)
      · try dsimp only
        omega
      · try dsimp only
        rw [hxs]; exact filtF_yes (by assumption)
      · first | omega | (dsimp only; omega)
    · refine wi_skip <| wi_inBlock <| wi_reg rfl <| lx_add (((a + 1 : Nat) : Int)) rfl rfl rfl (by omega) (by omega) (by omega) <| lx_move (.int .i64 ((a + 1 : Nat) : Int)) rfl rfl <| lx_nil <| ?_
      -- L0.2
      refine IH1 _ _ (a + 1, v, xs) (agree_ups rfl agree_self) ⟨rfl, rfl, trivial⟩ ⟨?_, ?_, hx0_1, ?_, ?_⟩ ?_
      · exact hbk1
      · first | exact ho1 | (simpa using ho1)
      · try dsimp only
        omega
      · try dsimp only
        rw [hxs]; exact filtF_no (by assumption)
      · first | omega | (dsimp only; omega)
  · refine lx_nil <| wi_seq <| wi_false rfl <| wi_exit rfl <| wi_seq <| wi_reg rfl <| lx_move (v) rfl rfl <| lx_assign (v) rfl rfl <| lx_nil <| ?_
    -- R1
    refine wi_ret ⟨v, (res_one rfl rfl), ⟨v, rfl, ?_, hx0_1⟩⟩
    · rw [show filtF 1024 (gt ms) = xs from by rw [hxs, show a = 1024 from by omega]]; exact ho1

set_option maxRecDepth 10000 in
theorem shclosure_spec (h : Heap) (n : Nat) (vl : Value) (xs : List Int) (hr_vl : RdE encI h vl xs) (hp1 : n ≤ 10) (hp2 : xs.length ≤ 4096) (hp3 : chkS ((n : Nat) : Int) xs = 0) : Fx Try.prog 74 [.int .i64 ((n : Nat) : Int), vl, .bool true] h (fun v h' => ∃ (s : Value), v = .tuple #[s, .int .i64 0] ∧ OwE encI h' h.size 3 s (upX n xs) ∧ Ext h.size h h') := by
  refine fx_intro (n := 74) [(0, .int .i64 ((n : Nat) : Int)), (1, vl), (2, .bool true)] Try.func74 rfl rfl (by simp) ⟨rfl, rfl, rfl, trivial⟩ fun g0 => ?_
  refine wi_seq <| wi_reg rfl <| lx_assign (.slice none 0 0) rfl rfl <| lx_assign (.int .i64 0) rfl rfl <| lx_nil <| wi_seq <| wi_seq <| wi_reg rfl <| lx_move (.int .i64 ((n : Nat) : Int)) rfl rfl <| lx_move (vl) rfl rfl <| lx_call [.int .i64 ((n : Nat) : Int), vl] rfl rfl Try.call72 rfl (shcheck_spec h (((n : Nat) : Int)) vl xs hr_vl (by omega)) (fun _ _ _ => trivial) ?_
  rintro _ h1 ⟨rfl, rfl⟩
  refine lx_assign (.int .i64 (chkS (((n : Nat) : Int)) xs)) rfl rfl <| lx_nil <| wi_seq <| wi_reg rfl <| lx_move (.int .i64 (chkS (((n : Nat) : Int)) xs)) rfl rfl <| lx_neqF rfl rfl rfl (fun h9 => h9 hp3) <| lx_nil <| wi_false rfl <| wi_skip <| wi_seq <| wi_reg rfl <| ?_
  obtain ⟨_, _, hz3⟩ := chkS_zero hp3
  have hz4 := chkS_nonneg hz3
  have hpw9 := pow10 hp1
  have hz5 : ∀ i, i < xs.length → 0 ≤ gt xs i ∧ gt xs i < 1024 := fun i hi => ⟨hz4 i hi, by have := (hz3 i hi).2; rw [Int.toNat_natCast] at this; omega⟩
  refine lx_move (vl) rfl rfl <| lx_call [vl] rfl rfl Try.call124 rfl (marked_spec h vl xs hr_vl (by omega) hz5) (fun _ _ _ => trivial) ?_
  rintro _ h2 ⟨bs, rfl, hbs, hx1⟩
  have hbl : bs.length = 1024 := by rw [hbs]; exact mkL_len _
  refine lx_alloc rfl rfl Try.zeroValue156 (fun _ _ _ => trivial) fun bn1 h3 hbn1 hbk1 hx2 hsz1 => ?_
  have hbb1 : h.size ≤ bn1 := by have := hx1.size; omega
  have hx0_1 := hx1.trans2 hx2 hx1.size
  have hbk1 : Blk h3 bn1 (bc (List.replicate 1024 false)) 156 := by rw [← zc156]; exact hbk1
  refine lx_stBA (bc bs) rfl rfl Try.sizeOf156 hbk1 (by rw [bc_size]; first | omega | (simp; done) | (simp; omega)) (by rw [bc_size]; first | omega | (simp; done) | (simp; omega)) rfl rfl (bc_one _) (fun _ _ _ _ => trivial) fun h4 hbk2 hc1 => ?_
  have hx0_2 := hx0_1.trans (hc1.ext hbb1)
  refine lx_nil <| wi_seq <| wi_seq <| wi_reg rfl <| lx_move (.int .i64 ((n : Nat) : Int)) rfl rfl <| lx_move (.int .i64 0) rfl rfl <| lx_nil <| wi_block <| ?_
  refine wi_loop (σ := Nat × (List Bool)) (rngB 22 73 [10, 11, 12]) (fun (ss : Nat × (List Bool)) => [(22, .int .i64 ((ss.1 : Nat) : Int))]) (fun (ss : Nat × (List Bool)) (hh : Heap) => Blk hh bn1 (bc ss.2) 156 ∧ Ext h.size h hh ∧ (ss.1 ≤ n) ∧ (ss.2 = upL n (mkL xs) ss.1)) (fun (ss : Nat × (List Bool)) => n - ss.1) (0, bs) ⟨rfl, trivial⟩ ⟨?_, hx0_2, ?_, ?_⟩ ?_
  · exact hbk2
  · try dsimp only
    omega
  · try dsimp only
    rw [hbs]; rfl
  rintro g1 ⟨i, ms⟩ hh1 ⟨hbk3, hx0_3, hi, hms⟩ IH1
  dsimp only at *
  have hml : ms.length = 1024 := by rw [hms, upL_len, mkL_len]
  refine wi_seq <| wi_reg rfl <| lx_lssS rfl rfl rfl (fun c1 => ?_) (fun c1 => ?_)
  · refine lx_nil <| wi_seq <| wi_true rfl <| wi_skip <| wi_seq <| wi_block <| wi_seq <| wi_reg rfl <| lx_move (.int .i64 ((i : Nat) : Int)) rfl rfl <| lx_assign (.int .i64 ((i : Nat) : Int)) rfl rfl <| lx_nil <| wi_seq <| wi_reg rfl <| ?_
    have hpi : 2 ^ i < 2 ^ n := Nat.pow_lt_pow_right (by omega) (by omega)
    refine lx_move (.int .i64 ((i : Nat) : Int)) rfl rfl <| lx_conv ((i : Nat) : Int) rfl Try.underlying3 Try.underlying45 rfl (wrap_u64 (by omega) (by omega)) <| lx_shl (m := 1) (n := i) rfl rfl rfl (by show _ ≤ 64; omega) (wrap_i64 (by omega) (by omega)) <| lx_assign (.int .i64 ((1 * 2 ^ i : Nat) : Int)) rfl rfl <| lx_nil <| wi_seq <| wi_reg rfl <| lx_move (.int .i64 ((n : Nat) : Int)) rfl rfl <| lx_conv ((n : Nat) : Int) rfl Try.underlying3 Try.underlying45 rfl (wrap_u64 (by omega) (by omega)) <| lx_shl (m := 1) (n := n) rfl rfl rfl (by show _ ≤ 64; omega) (wrap_i64 (by omega) (by omega)) <| lx_move (.int .i64 0) rfl rfl <| lx_nil <| wi_block <| ?_
    refine wi_loop (σ := Nat × (List Bool)) (rngB 31 72 [12]) (fun (ss : Nat × (List Bool)) => [(31, .int .i64 ((ss.1 : Nat) : Int))]) (fun (ss : Nat × (List Bool)) (hh : Heap) => Blk hh bn1 (bc ss.2) 156 ∧ Ext h.size h hh ∧ (ss.1 ≤ 2 ^ n) ∧ (ss.2 = upI i ms ss.1)) (fun (ss : Nat × (List Bool)) => 2 ^ n - ss.1) (0, ms) ⟨rfl, trivial⟩ ⟨?_, hx0_3, ?_, ?_⟩ ?_
    · exact hbk3
    · try dsimp only
      exact Nat.zero_le _
    · try dsimp only
      first | done | rfl
    rintro g2 ⟨s9, ms2⟩ hh2 ⟨hbk4, hx0_4, hs9, hm2⟩ IH2
    dsimp only at *
    have hml2 : ms2.length = 1024 := by rw [hm2, upI_len]; exact hml
    refine wi_seq <| wi_reg rfl <| lx_lssS rfl rfl rfl (fun c2 => ?_) (fun c2 => ?_)
    · refine lx_nil <| wi_seq <| wi_true rfl <| wi_skip <| wi_seq <| wi_block <| wi_seq <| wi_reg rfl <| lx_move (.int .i64 ((s9 : Nat) : Int)) rfl rfl <| lx_assign (.int .i64 ((s9 : Nat) : Int)) rfl rfl <| lx_nil <| wi_seq <| wi_reg rfl <| ?_
      have hsw : s9 &&& 1 * 2 ^ i ≤ s9 := Nat.and_le_left
      refine lx_move (.int .i64 ((s9 : Nat) : Int)) rfl rfl <| lx_move (.int .i64 ((1 * 2 ^ i : Nat) : Int)) rfl rfl <| lx_and (m := s9) (n := 1 * 2 ^ i) rfl rfl rfl (by show _ < 2 ^ 64; omega) (by show _ < 2 ^ 64; omega) (wrap_i64 (by omega) (by omega)) <| lx_eqlS rfl rfl rfl (fun c3 => ?_) (fun c3 => ?_)
      · refine lx_move (.bool true) rfl rfl <| lx_move (.bool true) rfl rfl <| lx_pick true (.bool true) rfl rfl rfl <| lx_nil <| wi_true rfl <| wi_reg rfl <| ?_
        have hor : s9 ||| 1 * 2 ^ i < 2 ^ n := Nat.or_lt_two_pow (by omega) (by omega)
        refine lx_move (.int .i64 ((s9 : Nat) : Int)) rfl rfl <| lx_move (.int .i64 ((1 * 2 ^ i : Nat) : Int)) rfl rfl <| lx_or (m := s9) (n := 1 * 2 ^ i) rfl rfl rfl (by show _ < 2 ^ 64; omega) (by show _ < 2 ^ 64; omega) (wrap_i64 (by omega) (by omega)) <| lx_move (.int .i64 ((s9 : Nat) : Int)) rfl rfl <| lx_move (.int .i64 ((1 * 2 ^ i : Nat) : Int)) rfl rfl <| lx_or (m := s9) (n := 1 * 2 ^ i) rfl rfl rfl (by show _ < 2 ^ 64; omega) (by show _ < 2 ^ 64; omega) (wrap_i64 (by omega) (by omega)) <| lx_ixB (i := s9 ||| (1 * 2 ^ i)) ((s9 ||| (1 * 2 ^ i))) rfl Try.underlying156 Try.sizeOf4 rfl rfl (by omega) (by omega) <| lx_ldB (.bool (gt ms2 ((s9 ||| (1 * 2 ^ i))))) rfl rfl fl4 hbk4 (bc_get (by omega)) rfl <| lx_move (.bool (gt ms2 ((s9 ||| (1 * 2 ^ i))))) rfl rfl <| ?_
        cases c4 : (gt ms2 ((s9 ||| (1 * 2 ^ i))))
        · refine lx_move (.int .i64 ((s9 : Nat) : Int)) rfl rfl <| lx_ixB (i := s9) (s9) rfl Try.underlying156 Try.sizeOf4 rfl rfl (by omega) (by omega) <| lx_ldB (.bool (gt ms2 s9)) rfl rfl fl4 hbk4 (bc_get (by omega)) rfl <| lx_pick false (.bool (gt ms2 s9)) rfl rfl rfl <| lx_ixB (i := s9 ||| (1 * 2 ^ i)) ((s9 ||| (1 * 2 ^ i))) rfl Try.underlying156 Try.sizeOf4 rfl rfl (by omega) (by omega) <| lx_stB (.bool (gt ms2 s9)) rfl rfl Try.sizeOf4 hbk4 (by rw [bc_size]; first | omega | (simp only [List.length_set, List.length_append, List.length_cons, List.length_nil, List.length_replicate, List.length_take, swp_length, exch_length]; omega)) rfl rfl rfl rfl (fun _ _ _ _ => trivial) fun h5 hbk5 hc2 => ?_
          have hx0_5 := hx0_4.trans (hc2.ext hbb1)
          rw [bc_set] at hbk5
          refine lx_nil <| wi_inBlock <| wi_reg rfl <| lx_add (((s9 + 1 : Nat) : Int)) rfl rfl rfl (by omega) (by omega) (by omega) <| lx_move (.int .i64 ((s9 + 1 : Nat) : Int)) rfl rfl <| lx_nil <| ?_
          -- L2.1
          refine IH2 _ _ (s9 + 1, ms2.set ((s9 ||| (1 * 2 ^ i))) (gt ms2 s9)) (agree_ups rfl agree_self) ⟨rfl, trivial⟩ ⟨?_, hx0_5, ?_, ?_⟩ ?_
          · exact hbk5
          · try dsimp only
            omega
          · try dsimp only
            rw [upI_succ, ← hm2, upS]
            first
            | (rw [if_pos (by omega), show gt ms2 (s9 ||| 1 * 2 ^ i) = true from by assumption, Bool.true_or]; done)
            | (rw [if_pos (by omega), show gt ms2 (s9 ||| 1 * 2 ^ i) = false from by assumption, Bool.false_or]; done)
            | rw [if_neg (by omega)]
          · first | omega | (dsimp only; omega)
        · refine lx_skip rfl <| lx_skip rfl <| lx_skip rfl <| lx_pick true (.bool true) rfl rfl rfl <| lx_ixB (i := s9 ||| (1 * 2 ^ i)) ((s9 ||| (1 * 2 ^ i))) rfl Try.underlying156 Try.sizeOf4 rfl rfl (by omega) (by omega) <| lx_stB (.bool true) rfl rfl Try.sizeOf4 hbk4 (by rw [bc_size]; first | omega | (simp only [List.length_set, List.length_append, List.length_cons, List.length_nil, List.length_replicate, List.length_take, swp_length, exch_length]; omega)) rfl rfl rfl rfl (fun _ _ _ _ => trivial) fun h6 hbk6 hc3 => ?_
          have hx0_6 := hx0_4.trans (hc3.ext hbb1)
          rw [bc_set] at hbk6
          refine lx_nil <| wi_inBlock <| wi_reg rfl <| lx_add (((s9 + 1 : Nat) : Int)) rfl rfl rfl (by omega) (by omega) (by omega) <| lx_move (.int .i64 ((s9 + 1 : Nat) : Int)) rfl rfl <| lx_nil <| ?_
          -- L2.2
          refine IH2 _ _ (s9 + 1, ms2.set ((s9 ||| (1 * 2 ^ i))) true) (agree_ups rfl agree_self) ⟨rfl, trivial⟩ ⟨?_, hx0_6, ?_, ?_⟩ ?_
          · exact hbk6
          · try dsimp only
            omega
          · try dsimp only
            rw [upI_succ, ← hm2, upS]
            first
            | (rw [if_pos (by omega), show gt ms2 (s9 ||| 1 * 2 ^ i) = true from by assumption, Bool.true_or]; done)
            | (rw [if_pos (by omega), show gt ms2 (s9 ||| 1 * 2 ^ i) = false from by assumption, Bool.false_or]; done)
            | rw [if_neg (by omega)]
          · first | omega | (dsimp only; omega)
      · refine lx_move (.bool false) rfl rfl <| lx_skip rfl <| lx_pick false (.bool false) rfl rfl rfl <| lx_nil <| wi_false rfl <| wi_seq <| wi_reg rfl <| lx_move (.int .i64 ((s9 : Nat) : Int)) rfl rfl <| lx_move (.int .i64 ((1 * 2 ^ i : Nat) : Int)) rfl rfl <| lx_and (m := s9) (n := 1 * 2 ^ i) rfl rfl rfl (by show _ < 2 ^ 64; omega) (by show _ < 2 ^ 64; omega) (wrap_i64 (by omega) (by omega)) <| lx_eqlF rfl rfl rfl (by omega) <| lx_nil <| wi_false rfl <| wi_skip <| wi_inBlock <| wi_reg rfl <| lx_add (((s9 + 1 : Nat) : Int)) rfl rfl rfl (by omega) (by omega) (by omega) <| lx_move (.int .i64 ((s9 + 1 : Nat) : Int)) rfl rfl <| lx_nil <| ?_
        -- L2.3
        refine IH2 _ _ (s9 + 1, ms2) (agree_ups rfl agree_self) ⟨rfl, trivial⟩ ⟨?_, hx0_4, ?_, ?_⟩ ?_
        · exact hbk4
        · try dsimp only
          omega
        · try dsimp only
          rw [upI_succ, ← hm2, upS]
          first
          | (rw [if_pos (by omega), show gt ms2 (s9 ||| 1 * 2 ^ i) = true from by assumption, Bool.true_or]; done)
          | (rw [if_pos (by omega), show gt ms2 (s9 ||| 1 * 2 ^ i) = false from by assumption, Bool.false_or]; done)
          | rw [if_neg (by omega)]
        · first | omega | (dsimp only; omega)
    · refine lx_nil <| wi_seq <| wi_false rfl <| wi_exit rfl <| wi_inBlock <| wi_reg rfl <| lx_add (((i + 1 : Nat) : Int)) rfl rfl rfl (by omega) (by omega) (by omega) <| lx_move (.int .i64 ((i + 1 : Nat) : Int)) rfl rfl <| lx_nil <| ?_
      -- L0.1
      refine IH1 _ _ (i + 1, ms2) (agree_ups rfl (agree_mix (rngB_sub (by decide) (by decide) rfl) (agree_ups rfl agree_self))) ⟨rfl, trivial⟩ ⟨?_, hx0_4, ?_, ?_⟩ ?_
      · exact hbk4
      · try dsimp only
        omega
      · try dsimp only
        rw [upL_succ, ← hms, hm2, show s9 = 2 ^ n from by omega]
      · first | omega | (dsimp only; omega)
  · refine lx_nil <| wi_seq <| wi_false rfl <| wi_exit rfl <| wi_seq <| wi_reg rfl <| lx_call [.pointer (some ⟨bn1, 0, none⟩)] rfl rfl Try.call125 rfl (mlist_spec hh1 ms bn1 hbk3 (by omega)) (fun _ _ _ => trivial) ?_
    rintro v1 h7 ⟨_, rfl, ho1, hx3⟩
    have hx0_7 := hx0_3.trans2 hx3 hx0_3.size
    have hb1 := hbk3.extS hx3
    have ho2 := ho1.base hx0_3.size
    refine lx_assign (v1) rfl rfl <| lx_assign (.int .i64 0) rfl rfl <| lx_nil <| ?_
    -- R1
    refine wi_ret ⟨.tuple #[v1, .int .i64 0], (res_two rfl rfl rfl), ⟨v1, rfl, ?_, hx0_7⟩⟩
    · rw [show upX n xs = filtF 1024 (gt ms) from by rw [hms, show i = n from by omega]; rfl]; exact ho2

end Go.Proofs.Ytdokijbdnajhgaa
namespace Go.Proofs.Ytdokijbdnajhgaa
open Go Go.X

theorem chkT_zero {p : List (List Bool)} (h1 : 1 ≤ p.length) (h2 : p.length ≤ 12) (h3 : isT p = true) : chkT p = 0 := by
  rw [sq_self (isT_sq h3), chkT_tabF h1 h2, if_pos (ordB_iff.2 (isT_o h3))]

end Go.Proofs.Ytdokijbdnajhgaa
namespace Go.Proofs.Ytdokijbdnajhgaa
open Go Go.X

end Go.Proofs.Ytdokijbdnajhgaa
namespace Go.Proofs.Ytdokijbdnajhgaa
open Go Go.X

end Go.Proofs.Ytdokijbdnajhgaa
namespace Go.Proofs.Ytdokijbdnajhgaa
open Go Go.X

end Go.Proofs.Ytdokijbdnajhgaa
namespace Go.Proofs.Ytdokijbdnajhgaa
open Go Go.X

end Go.Proofs.Ytdokijbdnajhgaa
namespace Go.Proofs.Ytdokijbdnajhgaa
open Go Go.X

end Go.Proofs.Ytdokijbdnajhgaa
namespace Go.Proofs.Ytdokijbdnajhgaa
open Go Go.X

end Go.Proofs.Ytdokijbdnajhgaa
namespace Go.Proofs.Ytdokijbdnajhgaa
open Go Go.X

end Go.Proofs.Ytdokijbdnajhgaa
namespace Go.Proofs.Ytdokijbdnajhgaa
open Go Go.X

theorem badR_dist {n o a b c i : Nat} {f : Nat → Nat → Bool} {bb : Bool} (ho : IsO n f) (hg : noGap n f) (h : badR n f o a b c i bb) : bb = !distB n f := by
  rcases h with ⟨h1, h2, h3, h4, h5, h6, h7⟩ | ⟨h1, _, h2⟩
  · rw [h1]
    cases hd : distB n f
    · rfl
    · exfalso
      refine (dist_bad ho hg).1 hd a b c h4 h5 h6 ?_
      have e1 := h2.2.1
      have e2 := h2.2.2.1
      rw [e1, e2]; exact h2
  · rw [h1, (dist_bad ho hg).2 fun a b c ha hb hc => h2 a b c ha hb hc]; rfl
end Go.Proofs.Ytdokijbdnajhgaa
namespace Go.Proofs.Ytdokijbdnajhgaa
open Go Go.X

set_option maxRecDepth 10000 in
theorem outputs_spec (h : Heap) (n : Int) (vl : Value) (ls : List (Int × Int)) (hr_vl : RdE encP h vl ls) (hp1 : ls.length ≤ 4611686018427387904) : Fx Try.prog 70 [.int .i64 n, vl] h (fun v h' => ∃ (s : Value) (ys : List Int), v = .tuple #[s, .int .i64 (chkNet validC n ls)] ∧ OwE encI h' h.size 3 s ys ∧ ((chkNet validC n ls ≠ 0 ∧ ys = []) ∨ (chkNet validC n ls = 0 ∧ ys = outsF n.toNat ls)) ∧ Ext h.size h h') := by
  refine fx_intro (n := 36) [(0, .int .i64 n), (1, vl)] Try.func70 rfl rfl (by simp) ⟨rfl, rfl, trivial⟩ fun g0 => ?_
  refine wi_seq <| wi_reg rfl <| lx_assign (.slice none 0 0) rfl rfl <| lx_assign (.int .i64 0) rfl rfl <| lx_nil <| wi_seq <| wi_seq <| wi_reg rfl <| lx_move (.int .i64 n) rfl rfl <| lx_move (vl) rfl rfl <| lx_call [.int .i64 n, vl] rfl rfl Try.call120 rfl (check_spec h n vl ls hr_vl (by omega)) (fun _ _ _ => trivial) ?_
  rintro _ h1 ⟨rfl, hx1⟩
  refine lx_assign (.int .i64 (chkNet validC n ls)) rfl rfl <| lx_nil <| wi_seq <| wi_reg rfl <| lx_move (.int .i64 (chkNet validC n ls)) rfl rfl <| lx_neqS rfl rfl rfl (fun c1 => ?_) (fun c1 => ?_)
  · refine lx_nil <| wi_true rfl <| wi_seq <| wi_reg rfl <| lx_move (.int .i64 (chkNet validC n ls)) rfl rfl <| lx_assign (.slice none 0 0) rfl rfl <| lx_assign (.int .i64 (chkNet validC n ls)) rfl rfl <| lx_nil <| ?_
    -- R1
    refine wi_ret ⟨.tuple #[.slice none 0 0, .int .i64 (chkNet validC n ls)], (res_two rfl rfl rfl), ⟨.slice none 0 0, [], rfl, (owE_nil encI _ h.size 3), ?_, hx1⟩⟩
    · exact .inl ⟨by omega, rfl⟩
  · refine lx_nil <| wi_false rfl <| wi_skip <| wi_seq <| wi_reg rfl <| ?_
    have hk : chkNet validC n ls = 0 := by omega
    obtain ⟨hn1, hn2, hn3, hn4⟩ := chkNet_ok hk
    obtain ⟨m, rfl⟩ : ∃ m : Nat, n = ((m : Nat) : Int) := ⟨n.toNat, by omega⟩
    have hpw := pow10 (show m ≤ 10 by omega)
    refine lx_move (.int .i64 ((m : Nat) : Int)) rfl rfl <| lx_move (vl) rfl rfl <| lx_call [.int .i64 ((m : Nat) : Int), vl] rfl rfl Try.call121 rfl (run_spec h1 m vl ls (hr_vl.extS hx1) (by omega) (by omega) hn4) (fun _ _ _ => trivial) ?_
    rintro _ h2 ⟨ws_1, rfl, hw_1, hx2⟩
    have hx0_1 := hx1.trans2 hx2 hx1.size
    have hwl_1 := hw_1.1
    refine lx_alloc rfl rfl Try.zeroValue153 (fun _ _ _ => trivial) fun bn1 h3 hbn1 hbk1 hx3 hsz1 => ?_
    have hbb1 : h.size ≤ bn1 := by have := hx0_1.size; omega
    have hx0_2 := hx0_1.trans2 hx3 hx0_1.size
    have hbk1 : Blk h3 bn1 (wc (List.replicate 160 0)) 153 := by rw [← zc153]; exact hbk1
    refine lx_stBA (wc ws_1) rfl rfl Try.sizeOf153 hbk1 (by rw [wc_size]; first | omega | (simp; done) | (simp; omega)) (by rw [wc_size]; first | omega | (simp; done) | (simp; omega)) rfl rfl (wc_one _) (fun _ _ _ _ => trivial) fun h4 hbk2 hc1 => ?_
    have hx0_3 := hx0_2.trans (hc1.ext hbb1)
    refine lx_nil <| wi_seq <| wi_reg rfl <| lx_assign (.slice none 0 0) rfl rfl <| lx_nil <| wi_seq <| wi_seq <| wi_reg rfl <| lx_move (.int .i64 ((m : Nat) : Int)) rfl rfl <| lx_conv ((m : Nat) : Int) rfl Try.underlying3 Try.underlying45 rfl (wrap_u64 (by omega) (by omega)) <| lx_shl (m := 1) (n := m) rfl rfl rfl (by show _ ≤ 64; omega) (wrap_i64 (by omega) (by omega)) <| lx_move (.int .i64 0) rfl rfl <| lx_nil <| wi_block <| ?_
    refine wi_loop (σ := Nat × Value × (List Int)) (rngB 22 32 [8, 9]) (fun (ss : Nat × Value × (List Int)) => [(22, .int .i64 ((ss.1 : Nat) : Int)), (8, ss.2.1)]) (fun (ss : Nat × Value × (List Int)) (hh : Heap) => OwE encI hh h.size 3 ss.2.1 ss.2.2 ∧ Ext h.size h hh ∧ Blk hh bn1 (wc ws_1) 153 ∧ Value.ownBlock ss.2.1 ≠ some bn1 ∧ (ss.1 ≤ 2 ^ m) ∧ (ss.2.2 = outL m ls ss.1)) (fun (ss : Nat × Value × (List Int)) => 2 ^ m - ss.1) (0, .slice none 0 0, []) ⟨rfl, rfl, trivial⟩ ⟨?_, hx0_3, ?_, (nb_nil _), ?_, ?_⟩ ?_
    · first | exact (owE_nil encI _ h.size 3) | (simpa using (owE_nil encI _ h.size 3))
    · exact hbk2
    · try dsimp only
      exact Nat.zero_le _
    · try dsimp only
      first | done | rfl
    rintro g1 ⟨p, v, ys⟩ hh1 ⟨ho1, hx0_4, hbk3, hdj1, hp, hys⟩ IH1
    dsimp only at *
    have hyl : ys.length = p := by rw [hys]; exact outL_length _ _ _
    refine wi_seq <| wi_reg rfl <| lx_lssS rfl rfl rfl (fun c2 => ?_) (fun c2 => ?_)
    · refine lx_nil <| wi_seq <| wi_true rfl <| wi_skip <| wi_seq <| wi_block <| wi_seq <| wi_reg rfl <| lx_move (.int .i64 ((p : Nat) : Int)) rfl rfl <| lx_assign (.int .i64 ((p : Nat) : Int)) rfl rfl <| lx_nil <| wi_reg rfl <| lx_move (v) rfl rfl <| lx_move (.int .i64 ((m : Nat) : Int)) rfl rfl <| lx_move (.int .i64 ((p : Nat) : Int)) rfl rfl <| lx_call [.pointer (some ⟨bn1, 0, none⟩), .int .i64 ((m : Nat) : Int), .int .i64 ((p : Nat) : Int)] rfl rfl Try.call122 rfl (wpat_spec hh1 m p ws_1 (runF ls (patF m)) bn1 hbk3 hw_1 (by omega) (by omega)) (fun _ _ _ => trivial) ?_
      rintro _ h5 ⟨rfl, rfl⟩
      refine lx_appendL (E := encI) (B := h.size) [((colN m (fun i => (runF ls (patF m)) i p) : Nat) : Int)] [.int .i64 ((colN m (fun i => (runF ls (patF m)) i p) : Nat) : Int)] rfl rfl (fun _ => rfl) rfl eT25 rfl rfl rfl rfl ho1 (fun _ => rfl) (by show ys.length + 1 ≤ _; omega) (by show (ys.length + 1) * 8 ≤ _; omega) hx0_4.size (fun _ _ => trivial) fun u1 v1 h6 ho2 hc2 hg1 => ?_
      have hx0_5 := hx0_4.trans (ho1.ext hc2 hx0_4.size)
      have hb1 := hbk3.chg hc2 hdj1
      refine lx_assign (v1) rfl rfl <| lx_nil <| wi_inBlock <| wi_reg rfl <| lx_add (((p + 1 : Nat) : Int)) rfl rfl rfl (by omega) (by omega) (by omega) <| lx_move (.int .i64 ((p + 1 : Nat) : Int)) rfl rfl <| lx_nil <| ?_
      -- L0.1
      refine IH1 _ _ (p + 1, v1, ys ++ [((colN m (fun i => (runF ls (patF m)) i p) : Nat) : Int)]) (agree_ups rfl agree_self) ⟨rfl, rfl, trivial⟩ ⟨?_, hx0_5, ?_, (nb_app hdj1 hbk3 hg1), ?_, ?_⟩ ?_
      · first | exact ho2 | (simpa using ho2)
      · exact hb1
      · try dsimp only
        omega
      · try dsimp only
        rw [outL_succ, hys]; rfl
      · first | omega | (dsimp only; omega)
    · refine lx_nil <| wi_seq <| wi_false rfl <| wi_exit rfl <| wi_seq <| wi_reg rfl <| ?_
      have hye : ys = outL m ls (2 ^ m) := by rw [hys, show p = 2 ^ m from by omega]
      refine lx_move (v) rfl rfl <| lx_call [v] rfl rfl Try.call82 rfl (lsort_spec hh1 h.size v ys ho1 hx0_4.size (by rw [hye]; exact outL_ne) (by rw [hye, outL_length]; omega)) (fun _ _ _ => trivial) ?_
      rintro _ h7 ⟨rfl, ho3, hx4⟩
      have hx0_6 := hx0_4.trans (ho1.ext hx4 hx0_4.size)
      have hb2 := hbk3.chg hx4 hdj1
      refine lx_nil <| wi_seq <| wi_reg rfl <| lx_move (v) rfl rfl <| lx_call [v] rfl rfl Try.call123 rfl (lcompact_spec h7 h.size v (ys.mergeSort fun x y => decide (x ≤ y)) ho3 hx0_6.size (sort_ne (by rw [hye]; exact outL_ne)) (by rw [sort_len, hye, outL_length]; omega)) (fun _ _ _ => trivial) ?_
      rintro v2 h8 ⟨_, rfl, ho4, hx5⟩
      have hx0_7 := hx0_6.trans (ho3.ext hx5 hx0_6.size)
      have hb3 := hb2.chg hx5 hdj1
      refine lx_assign (v2) rfl rfl <| lx_assign (.int .i64 0) rfl rfl <| lx_nil <| ?_
      -- R2
      refine wi_ret ⟨.tuple #[v2, .int .i64 0], (res_two rfl rfl rfl), ⟨v2, Lib.compact (ys.mergeSort fun x y => decide (x ≤ y)), ?_, ho4, ?_, hx0_7⟩⟩
      · rw [hk]
      · simp only [Int.toNat_natCast]
        exact .inr ⟨hk, by rw [hye]; exact outs_eq m ls⟩

end Go.Proofs.Ytdokijbdnajhgaa
namespace Go.Proofs.Ytdokijbdnajhgaa
open Go.Shelf
def Try.lays125_ren : Go.Shelf.Ren := ⟨fun | 125 => 127 | 128 => 166 | 129 => 167 | n => n, fun | 46 => 45 | 3 => 3 | 51 => 163 | 53 => 149 | 4 => 4 | 5 => 5 | 9 => 9 | n => n, fun | n => n⟩
theorem Try.lays125 : Go.Proofs.Lays.n125 Try.prog Try.lays125_ren := {
  mixed := by kernel_rfl
  f125 := Try.func127.trans (congrArg some (by kernel_rfl))
  f128 := Try.func166.trans (congrArg some (by kernel_rfl))
  f129 := Try.func167.trans (congrArg some (by kernel_rfl))
  t3 := Try.underlying3
  a3 := Try.isAgg3
  z3 := Try.sizeOf3
  v3 := Try.zeroValue3
  t4 := Try.underlying4
  a4 := Try.isAgg4
  z4 := Try.sizeOf4
  v4 := Try.zeroValue4
  t5 := Try.underlying5
  a5 := Try.isAgg5
  z5 := Try.sizeOf5
  v5 := Try.zeroValue5
  t9 := Try.underlying9
  a9 := Try.isAgg9
  z9 := Try.sizeOf9
  v9 := Try.zeroValue9
  t46 := Try.underlying45
  a46 := Try.isAgg45
  z46 := Try.sizeOf45
  v46 := Try.zeroValue45
  t51 := Try.underlying163
  a51 := Try.isAgg163
  z51 := Try.sizeOf163
  v51 := Try.zeroValue163
  t53 := Try.underlying149
  a53 := Try.isAgg149
  z53 := Try.sizeOf149
  v53 := Try.zeroValue149 }
theorem Try.bits_Len (x : Int) (w : World) (h0 : 0 ≤ x) (h1 : x ≤ 18446744073709551615) :
    Calls Try.prog 127 #[.int .u64 x] w fun e w' => e = .returned (.int .i64 (Lib.bitLen x.toNat)) ∧ w' = w := Any.bits_Len Try.lays125 x w h0 h1
end Go.Proofs.Ytdokijbdnajhgaa
namespace Go.Proofs.Ytdokijbdnajhgaa
open Go Go.X
theorem blen_spec (h : Heap) (x : Nat) (hp1 : x ≤ 1000000) : Fx Try.prog 127 [.int .u64 ((x : Nat) : Int)] h (fun v h' => v = .int .i64 ((Lib.bitLen x : Nat) : Int) ∧ h = h') := by
  intro w hw
  subst hw
  refine (Try.bits_Len (x : Int) w (by omega) (by omega)).mono ?_
  rintro e w' ⟨rfl, rfl⟩
  exact ⟨_, rfl, ⟨rfl, rfl, rfl⟩, by rw [Int.toNat_natCast], rfl⟩
end Go.Proofs.Ytdokijbdnajhgaa
