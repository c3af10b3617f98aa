/-
  Texts in one: XOSort, XOSortB, XOMin, XArr, XFive, PD, PE, PF, PG.
-/
import Derived.Test.YtdokijbdnajhgaaMCnt6
import Derived.Shelf.Sort.Plain
import Derived.Ground.Names2Prog
import Derived.Shelf.Slices.CompactI
import Derived.Test.YtdokijbdnajhgaaProg
import Derived.Shelf.Slices.Turned
set_option linter.unusedSimpArgs false
set_option linter.unusedVariables false
namespace Go.Proofs.Ytdokijbdnajhgaa
open Go.Shelf
def Try.lays189_ren : Go.Shelf.Ren := ⟨fun | 189 => 82 | 125 => 127 | 257 => 126 | 128 => 166 | 129 => 167 | 294 => 158 | 295 => 159 | 296 => 160 | 297 => 161 | 298 => 162 | 299 => 163 | 216 => 128 | 300 => 164 | 301 => 165 | 328 => 177 | 329 => 178 | 330 => 179 | 331 => 180 | 332 => 181 | 215 => 168 | 343 => 185 | n => n, fun | 28 => 25 | 3 => 3 | 46 => 45 | 0 => 0 | 51 => 163 | 53 => 149 | 4 => 4 | 183 => 184 | 182 => 183 | 131 => 113 | 5 => 5 | 9 => 9 | 218 => 194 | 222 => 198 | 228 => 203 | 229 => 77 | n => n, fun | n => n⟩
theorem Try.lays189 : Go.Proofs.Lays.n189 Try.prog Try.lays189_ren := {
  mixed := by kernel_rfl
  f125 := Try.func127.trans (congrArg some (by kernel_rfl))
  f128 := Try.func166.trans (congrArg some (by kernel_rfl))
  f129 := Try.func167.trans (congrArg some (by kernel_rfl))
  f189 := Try.func82.trans (congrArg some (by kernel_rfl))
  f215 := Try.func168.trans (congrArg some (by kernel_rfl))
  f216 := Try.func128.trans (congrArg some (by kernel_rfl))
  f257 := Try.func126.trans (congrArg some (by kernel_rfl))
  f294 := Try.func158.trans (congrArg some (by kernel_rfl))
  f295 := Try.func159.trans (congrArg some (by kernel_rfl))
  f296 := Try.func160.trans (congrArg some (by kernel_rfl))
  f297 := Try.func161.trans (congrArg some (by kernel_rfl))
  f298 := Try.func162.trans (congrArg some (by kernel_rfl))
  f299 := Try.func163.trans (congrArg some (by kernel_rfl))
  f300 := Try.func164.trans (congrArg some (by kernel_rfl))
  f301 := Try.func165.trans (congrArg some (by kernel_rfl))
  f328 := Try.func177.trans (congrArg some (by kernel_rfl))
  f329 := Try.func178.trans (congrArg some (by kernel_rfl))
  f330 := Try.func179.trans (congrArg some (by kernel_rfl))
  f331 := Try.func180.trans (congrArg some (by kernel_rfl))
  f332 := Try.func181.trans (congrArg some (by kernel_rfl))
  f343 := Try.func185.trans (congrArg some (by kernel_rfl))
  t0 := Try.underlying0
  a0 := Try.isAgg0
  z0 := Try.sizeOf0
  v0 := Try.zeroValue0
  t3 := Try.underlying3
  a3 := Try.isAgg3
  z3 := Try.sizeOf3
  v3 := Try.zeroValue3
  t4 := Try.underlying4
  a4 := Try.isAgg4
  z4 := Try.sizeOf4
  v4 := Try.zeroValue4
  t5 := Try.underlying5
  a5 := Try.isAgg5
  z5 := Try.sizeOf5
  v5 := Try.zeroValue5
  t9 := Try.underlying9
  a9 := Try.isAgg9
  z9 := Try.sizeOf9
  v9 := Try.zeroValue9
  t28 := Try.underlying25
  a28 := Try.isAgg25
  z28 := Try.sizeOf25
  v28 := Try.zeroValue25
  t46 := Try.underlying45
  a46 := Try.isAgg45
  z46 := Try.sizeOf45
  v46 := Try.zeroValue45
  t51 := Try.underlying163
  a51 := Try.isAgg163
  z51 := Try.sizeOf163
  v51 := Try.zeroValue163
  t53 := Try.underlying149
  a53 := Try.isAgg149
  z53 := Try.sizeOf149
  v53 := Try.zeroValue149
  t131 := Try.underlying113
  a131 := Try.isAgg113
  z131 := Try.sizeOf113
  v131 := Try.zeroValue113
  t182 := Try.underlying183
  a182 := Try.isAgg183
  z182 := Try.sizeOf183
  v182 := Try.zeroValue183
  t183 := Try.underlying184
  a183 := Try.isAgg184
  z183 := Try.sizeOf184
  v183 := Try.zeroValue184
  t218 := Try.underlying194
  a218 := Try.isAgg194
  z218 := Try.sizeOf194
  v218 := Try.zeroValue194
  t222 := Try.underlying198
  a222 := Try.isAgg198
  z222 := Try.sizeOf198
  v222 := Try.zeroValue198
  t228 := Try.underlying203
  a228 := Try.isAgg203
  z228 := Try.sizeOf203
  v228 := Try.zeroValue203
  t229 := Try.underlying77
  a229 := Try.isAgg77
  z229 := Try.sizeOf77
  v229 := Try.zeroValue77 }
open Go.Sort Go.RowKit in
theorem Try.slices_Sort_int (blk off cap : Nat) (zs : List Int) (w : World) (hH : Holds (Value.int .i64) w blk off zs.toArray) (hblk : blk < w.heap.size) (hsz : zs.length < 4611686018427387904) :
    Calls Try.prog 82 #[.slice (some ⟨blk, off, none⟩) zs.length cap] w fun e w' =>
      e = .returned (.tuple #[]) ∧ ∃ n os, w' = grow (putRow (Value.int .i64) (Sort.ahead w n) blk off (zs.mergeSort fun x y => decide (x ≤ y)).toArray) os := Any.slices_Sort_int Try.lays189 blk off cap zs w hH hblk hsz
def Try.laysNm220_ren : Go.Shelf.Ren := ⟨fun | 20 => 123 | n => n, fun | 22 => 25 | 3 => 3 | 4 => 4 | 0 => 0 | n => n, fun | n => n⟩
theorem Try.laysNm220 : Go.Proofs.Lays2.n20 Try.prog Try.laysNm220_ren := {
  mixed := by kernel_rfl
  f20 := Try.func123.trans (congrArg some (by kernel_rfl))
  t0 := Try.underlying0
  a0 := Try.isAgg0
  z0 := Try.sizeOf0
  v0 := Try.zeroValue0
  t3 := Try.underlying3
  a3 := Try.isAgg3
  z3 := Try.sizeOf3
  v3 := Try.zeroValue3
  t4 := Try.underlying4
  a4 := Try.isAgg4
  z4 := Try.sizeOf4
  v4 := Try.zeroValue4
  t22 := Try.underlying25
  a22 := Try.isAgg25
  z22 := Try.sizeOf25
  v22 := Try.zeroValue25
  i3 := by kernel_rfl }
open Go.RowKit Go.Lib Go.Sort in
theorem Try.slices_Compact_int (blk off cap : Nat) (zs : List Int) (w : World) (hH : Holds (Value.int .i64) w blk off zs.toArray) (hsz : zs.length ≤ 9223372036854775807) (hcap : zs.length ≤ cap) :
    Calls Try.prog 123 #[.slice (some ⟨blk, off, none⟩) zs.length cap] w fun e w' => e = .returned (.slice (some ⟨blk, off, none⟩) (Lib.compact zs).length cap) ∧ ∃ q, w' = putRow (Value.int .i64) (Sort.ahead w q) blk off (Lib.compact zs ++ List.replicate (zs.length - (Lib.compact zs).length) 0).toArray := Any.slices_Compact_int Try.laysNm220 blk off cap zs w hH hsz hcap
end Go.Proofs.Ytdokijbdnajhgaa
namespace Go.Proofs.Ytdokijbdnajhgaa
open Go Go.X Go.Sort
/-- The name, here. -/
abbrev encI : Enc Int := Go.X.encI
theorem flat_encI (xs : List Int) : xs.flatMap encI.f = xs.map (Value.int .i64) := by
  induction xs with
  | nil => rfl
  | cons x xs ih => rw [List.flatMap_cons, ih]; rfl
theorem put_take (d : List Int) (c : Array Value) (k : Nat) (hk : k ≤ d.length) (hc : d.length ≤ c.size) : (putCells (Value.int .i64) 0 d.toArray c).toList.take k = (d.take k).map (Value.int .i64) := by
  apply List.ext_getElem?
  intro i
  unfold putCells
  rw [List.getElem?_take]
  by_cases hi : i < k
  · rw [if_pos hi, Array.getElem?_toList, Array.getElem?_mapIdx, List.getElem?_map, List.getElem?_take, if_pos hi]
    rw [Array.getElem?_eq_getElem (by omega : i < c.size), List.getElem?_eq_getElem (by omega : i < d.length)]
    simp only [Option.map_some, Nat.sub_zero, Nat.zero_add, Nat.zero_le, true_and, List.size_toArray]
    rw [if_pos (by omega), getElem!_pos d.toArray i (by simpa using (by omega : i < d.length))]
    simp
  · rw [if_neg hi, List.getElem?_map, List.getElem?_take, if_neg hi]; rfl
/-- What the heap is when a row's cells have been written and blocks have come. -/
theorem put_own {h h' : Heap} {B : Nat} {e : TypeId} {g cap : Nat} {cur : Array Value} {d : List Int} {os : Array Obj} (hB : B ≤ g) (hg : h[g]? = some (.cells cur e (0, 0))) (hd : d.length ≤ cap) (hcap : cap ≤ maxLen) (hcur : cur.size = cap * 1)
    (hh : h' = (h.modify g (onCells (putCells (Value.int .i64) 0 d.toArray))) ++ os) (k : Nat) (hk : k ≤ d.length) :
    OwE encI h' B e (.slice (some ⟨g, 0, none⟩) k cap) (d.take k) ∧ Chg (.slice (some ⟨g, 0, none⟩) d.length cap) h h' := by
  have hgl : g < h.size := (Array.getElem?_eq_some_iff.1 hg).1
  have hsz : (h.modify g (onCells (putCells (Value.int .i64) 0 d.toArray))).size = h.size := by simp
  have e1 : h'[g]? = some (.cells (putCells (Value.int .i64) 0 d.toArray cur) e (0, 0)) := by
    rw [hh, Array.getElem?_append_left (by omega), Array.getElem?_modify, if_pos rfl, hg]; rfl
  refine ⟨⟨by rw [flat_encI, List.length_map]; exact (Nat.mul_one _).symm, .inr ⟨g, cap, putCells (Value.int .i64) 0 d.toArray cur, ?_, hB, e1, ?_, hcap, ?_, ?_⟩⟩, ⟨?_, fun i hi hne => ?_⟩⟩
  · rw [List.length_take, Nat.min_eq_left hk]
  · rw [List.length_take]; omega
  · unfold putCells; rw [Array.size_mapIdx]; exact hcur
  · rw [List.length_take, Nat.min_eq_left hk, flat_encI, show k * encI.k = k from Nat.mul_one k]
    exact put_take d cur k hk (by omega)
  · rw [hh, Array.size_append]; omega
  · have hig : g ≠ i := fun e' => hne (by rw [e']; rfl)
    rw [hh, Array.getElem?_append_left (by omega), Array.getElem?_modify, if_neg hig]
theorem own_parts {h : Heap} {B : Nat} {e : TypeId} {v : Value} {xs : List Int} (ho : OwE encI h B e v xs) (hne : xs ≠ []) :
    ∃ g cap cur, v = .slice (some ⟨g, 0, none⟩) xs.length cap ∧ B ≤ g ∧ h[g]? = some (.cells cur e (0, 0)) ∧ xs.length ≤ cap ∧ cap ≤ maxLen ∧ cur.size = cap * 1 ∧ cur.toList.take xs.length = xs.map (Value.int .i64) := by
  obtain ⟨_, h1 | ⟨g, cap, cur, hv, hB, hg, hn, hm, hs, ht⟩⟩ := ho
  · exact absurd (List.length_eq_zero_iff.1 h1.2) hne
  · rw [flat_encI, show xs.length * encI.k = xs.length from Nat.mul_one _] at ht
    exact ⟨g, cap, cur, hv, hB, hg, hn, hm, hs, ht⟩
theorem own_holds {w : World} {B : Nat} {e : TypeId} {xs : List Int} {g cap : Nat} {cur : Array Value} (hg : w.heap[g]? = some (.cells cur e (0, 0))) (ht : cur.toList.take xs.length = xs.map (Value.int .i64)) : Holds (Value.int .i64) w g 0 xs.toArray := by
  intro j hj
  have hj' : j < xs.length := by simpa using hj
  have hc : cur[j]? = some (Value.int .i64 xs[j]) := by
    have := congrArg (fun l => l[j]?) ht
    simp only [List.getElem?_take, List.getElem?_map] at this
    rw [if_pos hj', Array.getElem?_toList] at this
    rw [this, List.getElem?_eq_getElem hj']; rfl
  constructor
  · rw [cell_eq]
    unfold cellA
    rw [hg]
    simp only [Nat.zero_add, hc]
    rw [getElem!_pos xs.toArray j (by simpa using hj')]
    simp
  · unfold World.frozen?
    rw [hg]
    simp
theorem lsort_gen {t : TypeId} (h : Heap) (B : Nat) (v : Value) (xs : List Int) (ho : OwE encI h B t v xs) (_ : B ≤ h.size) (hne : xs ≠ []) (hl : xs.length ≤ 1000000) :
    Fx Try.prog 82 [v] h (fun r h' => r = .tuple #[] ∧ OwE encI h' B t v (xs.mergeSort fun x y => decide (x ≤ y)) ∧ Chg v h h') := by
  obtain ⟨g, cap, cur, rfl, hB, hg, hn, hm, hs, ht⟩ := own_parts ho hne
  intro w hw
  subst hw
  have hgl : g < w.heap.size := (Array.getElem?_eq_some_iff.1 hg).1
  refine (Try.slices_Sort_int g 0 cap xs w (own_holds (B := B) (cap := cap) hg ht) hgl (by omega)).mono ?_
  rintro e w' ⟨rfl, n, os, hw'⟩
  have hlen : (xs.mergeSort fun x y => decide (x ≤ y)).length = xs.length := List.length_mergeSort _
  have hh : w'.heap = (w.heap.modify g (onCells (putCells (Value.int .i64) 0 (xs.mergeSort fun x y => decide (x ≤ y)).toArray))) ++ os := by rw [hw']; rfl
  have := put_own (d := xs.mergeSort fun x y => decide (x ≤ y)) hB hg (by omega) hm hs hh xs.length (by omega)
  rw [List.take_of_length_le (by omega), hlen] at this
  exact ⟨_, rfl, by subst hw'; exact ⟨rfl, rfl, rfl⟩, rfl, this.1, this.2⟩
theorem lcompact_gen {t : TypeId} (h : Heap) (B : Nat) (v : Value) (xs : List Int) (ho : OwE encI h B t v xs) (_ : B ≤ h.size) (hne : xs ≠ []) (hl : xs.length ≤ 1000000) :
    Fx Try.prog 123 [v] h (fun r h' => ∃ s, r = s ∧ OwE encI h' B t s (Lib.compact xs) ∧ Chg v h h') := by
  obtain ⟨g, cap, cur, rfl, hB, hg, hn, hm, hs, ht⟩ := own_parts ho hne
  intro w hw
  subst hw
  have hgl : g < w.heap.size := (Array.getElem?_eq_some_iff.1 hg).1
  refine (Try.slices_Compact_int g 0 cap xs w (own_holds (B := B) (cap := cap) hg ht) (by omega) hn).mono ?_
  rintro e w' ⟨rfl, q, hw'⟩
  have hcl : (Lib.compact xs).length ≤ xs.length := by
    unfold Lib.compact Lib.compactUpTo
    rw [List.length_map]
    exact Nat.le_trans (List.length_filter_le ..) (by simp)
  have hdl : (Lib.compact xs ++ List.replicate (xs.length - (Lib.compact xs).length) 0).length = xs.length := by simp; omega
  have hh : w'.heap = (w.heap.modify g (onCells (putCells (Value.int .i64) 0 (Lib.compact xs ++ List.replicate (xs.length - (Lib.compact xs).length) 0).toArray))) ++ #[] := by rw [hw', Array.append_empty]; rfl
  have := put_own hB hg (by omega) hm hs hh (Lib.compact xs).length (by omega)
  rw [List.take_left', hdl] at this
  · exact ⟨_, rfl, by subst hw'; exact ⟨rfl, rfl, rfl⟩, _, rfl, this.1, this.2⟩
  · rfl
end Go.Proofs.Ytdokijbdnajhgaa
namespace Go.Proofs.Ytdokijbdnajhgaa
open Go.Shelf
def Try.lays113_ren : Go.Shelf.Ren := ⟨fun | 113 => 98 | n => n, fun | 28 => 25 | 3 => 3 | 4 => 4 | 9 => 9 | 20 => 20 | 0 => 0 | n => n, fun | n => n⟩
theorem Try.lays113 : Go.Proofs.Lays.n113 Try.prog Try.lays113_ren := {
  mixed := by kernel_rfl
  f113 := Try.func98.trans (congrArg some (by kernel_rfl))
  t0 := Try.underlying0
  a0 := Try.isAgg0
  z0 := Try.sizeOf0
  v0 := Try.zeroValue0
  t3 := Try.underlying3
  a3 := Try.isAgg3
  z3 := Try.sizeOf3
  v3 := Try.zeroValue3
  t4 := Try.underlying4
  a4 := Try.isAgg4
  z4 := Try.sizeOf4
  v4 := Try.zeroValue4
  t9 := Try.underlying9
  a9 := Try.isAgg9
  z9 := Try.sizeOf9
  v9 := Try.zeroValue9
  t20 := Try.underlying20
  a20 := Try.isAgg20
  z20 := Try.sizeOf20
  v20 := Try.zeroValue20
  t28 := Try.underlying25
  a28 := Try.isAgg25
  z28 := Try.sizeOf25
  v28 := Try.zeroValue25 }
open Go.Lib in
theorem Try.slices_Max_int (b off n c : Nat) (zs : List Int) (w : World) (hn : 0 < n) (hz : n ≤ zs.length) (hbig : n ≤ 9223372036854775807) (hc : ∀ j, j < zs.length → w.cell? ⟨b, off + j, none⟩ = some (.int .i64 (zs.getD j 0))) :
    Calls Try.prog 98 #[.slice (some ⟨b, off, none⟩) n c] w fun e w' => e = .returned (.int .i64 (Lib.maxOf (zs.take n))) ∧ w' = w := Any.slices_Max_int Try.lays113 b off n c zs w hn hz hbig hc
def Try.lays114_ren : Go.Shelf.Ren := ⟨fun | 114 => 97 | n => n, fun | 28 => 25 | 3 => 3 | 4 => 4 | 9 => 9 | 20 => 20 | 0 => 0 | n => n, fun | n => n⟩
theorem Try.lays114 : Go.Proofs.Lays.n114 Try.prog Try.lays114_ren := {
  mixed := by kernel_rfl
  f114 := Try.func97.trans (congrArg some (by kernel_rfl))
  t0 := Try.underlying0
  a0 := Try.isAgg0
  z0 := Try.sizeOf0
  v0 := Try.zeroValue0
  t3 := Try.underlying3
  a3 := Try.isAgg3
  z3 := Try.sizeOf3
  v3 := Try.zeroValue3
  t4 := Try.underlying4
  a4 := Try.isAgg4
  z4 := Try.sizeOf4
  v4 := Try.zeroValue4
  t9 := Try.underlying9
  a9 := Try.isAgg9
  z9 := Try.sizeOf9
  v9 := Try.zeroValue9
  t20 := Try.underlying20
  a20 := Try.isAgg20
  z20 := Try.sizeOf20
  v20 := Try.zeroValue20
  t28 := Try.underlying25
  a28 := Try.isAgg25
  z28 := Try.sizeOf25
  v28 := Try.zeroValue25 }
open Go.Lib in
theorem Try.slices_Min_int (b off n c : Nat) (zs : List Int) (w : World) (hn : 0 < n) (hz : n ≤ zs.length) (hbig : n ≤ 9223372036854775807) (hc : ∀ j, j < zs.length → w.cell? ⟨b, off + j, none⟩ = some (.int .i64 (zs.getD j 0))) :
    Calls Try.prog 97 #[.slice (some ⟨b, off, none⟩) n c] w fun e w' => e = .returned (.int .i64 (Lib.minOf (zs.take n))) ∧ w' = w := Any.slices_Min_int Try.lays114 b off n c zs w hn hz hbig hc
end Go.Proofs.Ytdokijbdnajhgaa
namespace Go.X
section
variable {P : Program} {S : Heap → Prop} {kd : Oper → Kd} {ops : Array Oper} {rest : List Oper} {K : Env → Heap → Prop} {L : List (Nat × Value)} {b : Env} {h : Heap}
variable {d : Nat} {t ty : TypeId} {p : String} {af : Array Edge} {g : Option (Nat × Bool)} {x : Operand}
theorem lx_sliceA {m k1 bn : Nat} {el : TypeId} (hw : Region.wanted ⟨some d, .slice t x none none none, ty, p, af, g⟩ (yieldE ops (ups L b)) = true) (hu : P.underlying t = some (.array m el)) (hs : ∀ w, (sizeOf el).run P w = .ok k1 w)
    (hx : ev (ups L b) x = .pointer (some ⟨bn, 0, none⟩))
    (hn : Lx P S kd ops rest K (ups ((d, .slice (some ⟨bn, 0, none⟩) m m) :: L) b) h) : Lx P S kd ops (⟨some d, .slice t x none none none, ty, p, af, g⟩ :: rest) K (ups L b) h :=
  lx_free _ hw (fun w _ => by
    have e0 : (if m = 0 then (⟨bn, 0, none⟩ : Addr) else (⟨bn, 0, none⟩ : Addr).add (0 * k1)) = ⟨bn, 0, none⟩ := by
      split
      · rfl
      · rw [Nat.zero_mul]; exact add_zero _
    simp [execOp, hx, Instr.sliceAt, Instr.sliceBounds, run_underlying hu, hs, Instr.sureAddr, add_zero]) hn
end
theorem own_of_blk {h : Heap} {B bn : Nat} {t : TypeId} {xs : List Int} (hb : Blk h bn (ic xs) t) (hB : B ≤ bn) (hl : xs.length ≤ 1000000) : OwE encI h B t (.slice (some ⟨bn, 0, none⟩) xs.length xs.length) xs := by
  have hf : xs.flatMap encI.f = xs.map (Value.int .i64) := Go.Proofs.Ytdokijbdnajhgaa.flat_encI xs
  refine ⟨by rw [hf, List.length_map]; exact (Nat.mul_one _).symm, .inr ⟨bn, xs.length, ic xs, rfl, hB, hb, Nat.le_refl _, Nat.le_trans hl (by decide), by rw [ic_size]; exact (Nat.mul_one _).symm, ?_⟩⟩
  rw [hf, show xs.length * encI.k = xs.length from Nat.mul_one _]
  show (xs.map _).toArray.toList.take _ = _
  rw [List.take_of_length_le (by simp)]
end Go.X
namespace Go.Proofs.Ytdokijbdnajhgaa
open Go Go.X
theorem rd_parts {h : Heap} {v : Value} {xs : List Int} (hr : RdE encI h v xs) (hne : xs ≠ []) : ∃ b off c, v = .slice (some ⟨b, off, none⟩) xs.length c ∧ ∀ j, j < xs.length → cellA h ⟨b, off + j, none⟩ = some (.int .i64 (xs.getD j 0)) := by
  obtain ⟨a, cap, rfl, h1, h2, h3⟩ := hr
  have hpos : 0 < xs.length := List.length_pos_iff.2 hne
  have hget : ∀ j, j < xs.length → (xs.flatMap Go.X.encI.f)[j]? = some (Value.int .i64 (xs.getD j 0)) := fun j hj => by
    rw [flat_encI, List.getElem?_map, List.getElem?_eq_getElem hj]
    simp [List.getD, List.getElem?_eq_getElem hj]
  obtain ⟨ad, rfl, hc0⟩ := h3 0 _ (hget 0 hpos)
  obtain ⟨b, off, sp⟩ := ad
  have hsp : sp = none := by
    rw [add_zero] at hc0
    unfold cellA at hc0
    split at hc0
    · split at hc0
      · cases hc0
      · rename_i hs
        cases sp with
        | none => rfl
        | some q => exact absurd rfl hs
    · cases hc0
  subst hsp
  refine ⟨b, off, cap, rfl, fun j hj => ?_⟩
  obtain ⟨ad', he, hc⟩ := h3 j _ (hget j hj)
  cases he
  rw [add_lit] at hc
  exact hc
theorem lmin_spec (h : Heap) (v : Value) (xs : List Int) (hr : RdE encI h v xs) (hne : xs ≠ []) (hl : xs.length ≤ 1000000) : Fx Try.prog 97 [v] h (fun r h' => r = .int .i64 (Lib.minOf xs) ∧ h = h') := by
  obtain ⟨b, off, c, rfl, hc⟩ := rd_parts hr hne
  intro w hw
  subst hw
  refine (Try.slices_Min_int b off xs.length c xs w (List.length_pos_iff.2 hne) (Nat.le_refl _) (by omega) hc).mono ?_
  rintro e w' ⟨rfl, rfl⟩
  rw [List.take_length]
  exact ⟨_, rfl, ⟨rfl, rfl, rfl⟩, rfl, rfl⟩
theorem lmax_spec (h : Heap) (v : Value) (xs : List Int) (hr : RdE encI h v xs) (hne : xs ≠ []) (hl : xs.length ≤ 1000000) : Fx Try.prog 98 [v] h (fun r h' => r = .int .i64 (Lib.maxOf xs) ∧ h = h') := by
  obtain ⟨b, off, c, rfl, hc⟩ := rd_parts hr hne
  intro w hw
  subst hw
  refine (Try.slices_Max_int b off xs.length c xs w (List.length_pos_iff.2 hne) (Nat.le_refl _) (by omega) hc).mono ?_
  rintro e w' ⟨rfl, rfl⟩
  rw [List.take_length]
  exact ⟨_, rfl, ⟨rfl, rfl, rfl⟩, rfl, rfl⟩
end Go.Proofs.Ytdokijbdnajhgaa
namespace Go.X
section
variable {P : Program}
theorem bld5 {tx el : TypeId} (hu : P.underlying tx = some (.array 5 el)) (hz : ∀ w, (zeroValue tx).run P w = .ok (.agg #[.int .i64 0, .int .i64 0, .int .i64 0, .int .i64 0, .int .i64 0]) w) (hs : ∀ w, (sizeOf el).run P w = .ok 1 w) (a b c d e : Int) (w : World) :
    (Instr.build tx #[(0, .int .i64 a), (1, .int .i64 b), (2, .int .i64 c), (3, .int .i64 d), (4, .int .i64 e)]).run P w = .ok (.agg #[.int .i64 a, .int .i64 b, .int .i64 c, .int .i64 d, .int .i64 e]) w := by
  have hc : (Value.agg #[Value.int .i64 0, Value.int .i64 0, Value.int .i64 0, Value.int .i64 0, Value.int .i64 0]).cells = #[Value.int .i64 0, Value.int .i64 0, Value.int .i64 0, Value.int .i64 0, Value.int .i64 0] := rfl
  simp [Instr.build, hz, run_underlying hu, hs, Instr.fill, hc, Value.cells]
theorem bld5z {tx el : TypeId} (hu : P.underlying tx = some (.array 5 el)) (hz : ∀ w, (zeroValue tx).run P w = .ok (.agg #[.int .i64 0, .int .i64 0, .int .i64 0, .int .i64 0, .int .i64 0]) w) (hs : ∀ w, (sizeOf el).run P w = .ok 1 w) (w : World) :
    (Instr.build tx #[]).run P w = .ok (.agg #[.int .i64 0, .int .i64 0, .int .i64 0, .int .i64 0, .int .i64 0]) w := by
  have hc : (Value.agg #[Value.int .i64 0, Value.int .i64 0, Value.int .i64 0, Value.int .i64 0, Value.int .i64 0]).cells = #[Value.int .i64 0, Value.int .i64 0, Value.int .i64 0, Value.int .i64 0, Value.int .i64 0] := rfl
  simp [Instr.build, hz, run_underlying hu, hs, Instr.fill, hc]
end
end Go.X
namespace Go.X
theorem adj_lt : ∀ {zs : List Int}, zs.Pairwise (· ≤ ·) → (∀ (j : Nat) (h : j + 1 < zs.length), zs[j] ≠ zs[j + 1]) → zs.Pairwise (· < ·)
  | [], _, _ => List.Pairwise.nil
  | [a], _, _ => List.pairwise_singleton _ _
  | a :: b :: zs, hp, hn => by
    rw [List.pairwise_cons] at hp ⊢
    have ih := adj_lt hp.2 fun j h => hn (j + 1) (by simpa using h)
    have hab : a < b := by
      have h1 := hp.1 b (by simp)
      have h2 := hn 0 (by simp)
      simp at h2
      omega
    refine ⟨fun z hz => ?_, ih⟩
    rcases List.mem_cons.1 hz with rfl | hz
    · exact hab
    · have := (List.pairwise_cons.1 ih).1 z hz
      omega
theorem compact_less {zs : List Int} (hp : zs.Pairwise (· ≤ ·)) : (Lib.compact zs).length < zs.length ↔ ¬ zs.Nodup := by
  have hlen : (Lib.compact zs).length = ((List.range zs.length).filter (Lib.keeps zs.toArray)).length := by unfold Lib.compact Lib.compactUpTo; rw [List.length_map]
  have hle : ((List.range zs.length).filter (Lib.keeps zs.toArray)).length ≤ zs.length := by
    have := List.length_filter_le (Lib.keeps zs.toArray) (List.range zs.length)
    rwa [List.length_range] at this
  have key : ((List.range zs.length).filter (Lib.keeps zs.toArray)).length = zs.length ↔ zs.Nodup := by
    constructor
    · intro h
      have h1 : ∀ j ∈ List.range zs.length, Lib.keeps zs.toArray j = true := by
        rw [← List.length_filter_eq_length_iff, h, List.length_range]
      refine (adj_lt hp fun j hj e => ?_).imp fun h => by omega
      have := h1 (j + 1) (List.mem_range.2 hj)
      unfold Lib.keeps at this
      simp [hj, Nat.lt_of_succ_lt hj] at this
      exact this e.symm
    · intro h
      have h1 : ∀ j ∈ List.range zs.length, Lib.keeps zs.toArray j = true := by
        intro j hj
        rw [List.mem_range] at hj
        unfold Lib.keeps
        rw [decide_eq_true_iff]
        by_cases h0 : j = 0
        · exact .inl h0
        · right
          have hj1 : j - 1 < zs.length := by omega
          simp [hj, hj1]
          intro e
          exact List.pairwise_iff_getElem.1 h (j - 1) j hj1 hj (by omega) e.symm
      rw [List.length_filter_eq_length_iff.2 h1, List.length_range]
  rw [hlen]
  constructor
  · intro h hn; rw [key.2 hn] at h; omega
  · intro h
    rcases Nat.lt_or_ge ((List.range zs.length).filter (Lib.keeps zs.toArray)).length zs.length with h1 | h1
    · exact h1
    · exact absurd (key.1 (by omega)) h
theorem sort_asc5 (xs : List Int) : (xs.mergeSort fun x y => decide (x ≤ y)).Pairwise (· ≤ ·) := by
  have := List.pairwise_mergeSort (le := fun x y : Int => decide (x ≤ y)) (by intro a b c h1 h2; simp at *; omega) (by intro a b; simp; omega) xs
  exact this.imp fun h => by simpa using h
theorem compact_sorted (xs : List Int) : (Lib.compact (xs.mergeSort fun x y => decide (x ≤ y))).length < xs.length ↔ ¬ xs.Nodup := by
  have h1 := compact_less (sort_asc5 xs)
  rw [List.length_mergeSort, List.Perm.nodup_iff (List.mergeSort_perm xs _)] at h1
  exact h1
end Go.X
namespace Go.Proofs.Ytdokijbdnajhgaa
open Go Go.X

def mtB (n : Nat) (f : Nat → Nat → Bool) (x y o i : Nat) : Bool := decide (joinF n f x y = ((i : Nat) : Int)) && decide (meetF n f x y = ((o : Nat) : Int))
theorem mtB_iff {n x y o i : Nat} {f : Nat → Nat → Bool} (ho : IsO n f) (hg : noGap n f) (hx : x < n) (hy : y < n) : mtB n f x y o i = true ↔ mN n f x y = o ∧ jN n f x y = i := by
  unfold mtB
  rw [Bool.and_eq_true, decide_eq_true_iff, decide_eq_true_iff, (jN_at ho hg hx hy).1, (mN_at ho hg hx hy).1]
  omega
theorem nodup5 {o a b c i : Nat} : ([((o : Nat) : Int), ((a : Nat) : Int), ((b : Nat) : Int), ((c : Nat) : Int), ((i : Nat) : Int)]).Nodup ↔ (o ≠ a ∧ o ≠ b ∧ o ≠ c ∧ o ≠ i ∧ a ≠ b ∧ a ≠ c ∧ a ≠ i ∧ b ≠ c ∧ b ≠ i ∧ c ≠ i) := by
  simp only [List.nodup_cons, List.mem_cons, List.not_mem_nil, or_false, not_or, List.nodup_nil, not_false_eq_true, and_true]
  omega
theorem bad_dec {n o a b c i : Nat} {f : Nat → Nat → Bool} (ho : IsO n f) (hg : noGap n f) (ha : a < n) (hb : b < n) (hc : c < n) :
    badP n f o a b c i ↔ ([((o : Nat) : Int), ((a : Nat) : Int), ((b : Nat) : Int), ((c : Nat) : Int), ((i : Nat) : Int)]).Nodup ∧ mtB n f a c o i = true ∧ mtB n f b c o i = true ∧ ((decide (a ≠ b) && f a b) = true ∨ mtB n f a b o i = true) := by
  rw [nodup5, mtB_iff ho hg ha hc, mtB_iff ho hg hb hc, mtB_iff ho hg ha hb, Bool.and_eq_true, decide_eq_true_iff]
  unfold badP
  constructor
  · rintro ⟨h1, h2, h3, h4, h5, h6⟩
    exact ⟨h1, ⟨h2, h3⟩, ⟨h4, h5⟩, h6.imp (fun h => ⟨h1.2.2.2.2.1, h⟩) id⟩
  · rintro ⟨h1, ⟨h2, h3⟩, ⟨h4, h5⟩, h6⟩
    exact ⟨h1, h2, h3, h4, h5, h6.imp (fun h => h.2) id⟩

set_option maxRecDepth 10000 in
theorem meets_spec (h : Heap) (x : Nat) (y : Nat) (n : Nat) (f : Nat → Nat → Bool) (o : Nat) (i : Nat) (vj : Value) (hj : List Hdr) (rj : List (List Int)) (vm : Value) (hm : List Hdr) (rm : List (List Int)) (bl : Nat) (bi : Nat) (bo : Nat) (hb_bl : Blk h bl (#[vj, vm]) 119) (hb_bi : Blk h bi (#[.int .i64 ((i : Nat) : Int)]) 3) (hb_bo : Blk h bo (#[.int .i64 ((o : Nat) : Int)]) 3) (hr_vj : RdE encHd h vj hj) (ht_vj : RT encI h hj rj) (hr_vm : RdE encHd h vm hm) (ht_vm : RT encI h hm rm) (hp1 : n ≤ 12) (hp2 : rj = tabI n (joinF n f)) (hp3 : rm = tabI n (meetF n f)) (hp4 : x < n) (hp5 : y < n) : Fx Try.prog 133 [.int .i64 ((x : Nat) : Int), .int .i64 ((y : Nat) : Int), .pointer (some ⟨bl, 0, none⟩), .pointer (some ⟨bi, 0, none⟩), .pointer (some ⟨bo, 0, none⟩)] h (fun v h' => v = .bool ((decide (joinF n f x y = ((i : Nat) : Int)) && decide (meetF n f x y = ((o : Nat) : Int)))) ∧ h = h') := by
  have hl_vj := ht_vj.1
  have hl_vm := ht_vm.1
  refine fx_intro (n := 30) [(0, .int .i64 ((x : Nat) : Int)), (1, .int .i64 ((y : Nat) : Int)), (2, .pointer (some ⟨bl, 0, none⟩)), (3, .pointer (some ⟨bi, 0, none⟩)), (4, .pointer (some ⟨bo, 0, none⟩))] Try.func133 rfl rfl (by simp) ⟨rfl, rfl, rfl, rfl, rfl, trivial⟩ fun g0 => ?_
  refine wi_seq <| wi_reg rfl <| lx_assign (.bool false) rfl rfl <| lx_nil <| wi_seq <| wi_draw mo rfl (by decide +kernel) <| ?_
  have hjl : rj.length = n := by rw [hp2]; exact tabI_len _ _
  have hml : rm.length = n := by rw [hp3]; exact tabI_len _ _
  have hjr : gt rj x = mapR n (joinF n f x) := by rw [hp2, gt_tabI (by omega)]
  have hmr : gt rm x = mapR n (meetF n f x) := by rw [hp3, gt_tabI (by omega)]
  have hjl2 : (gt rj x).length = n := by rw [hjr]; exact mapR_len _ _
  have hml2 : (gt rm x).length = n := by rw [hmr]; exact mapR_len _ _
  have hje : gt (gt rj x) y = joinF n f x y := by rw [hjr, gt_mapR (by omega)]
  have hme : gt (gt rm x) y = meetF n f x y := by rw [hmr, gt_mapR (by omega)]
  refine lx_fieldL (i := 0) rfl st119 (.inl rfl) rfl <| lx_ldB (vj) rfl rfl fl49 hb_bl rfl rfl <| lx_move (.int .i64 ((x : Nat) : Int)) rfl rfl <| lx_ix (i := x) rfl eT49 hr_vj rfl rfl (by omega) <| lx_ld (i := x) (j := 0) ((gt hj x).v) rfl rfl fl25 hr_vj (by omega) rfl rfl <| lx_move (.int .i64 ((y : Nat) : Int)) rfl rfl <| lx_ix (i := y) rfl eT25 (ht_vj.2 x (by omega)) rfl rfl (by omega) <| lx_ld (i := y) (j := 0) (.int .i64 (gt (gt rj x) y)) rfl rfl fl3 (ht_vj.2 x (by omega)) (by omega) rfl rfl <| lx_ldB (.int .i64 ((i : Nat) : Int)) rfl rfl fl3 hb_bi rfl rfl <| lx_eqlS rfl rfl rfl (fun c1 => ?_) (fun c1 => ?_)
  · refine lx_move (.bool true) rfl rfl <| lx_fieldL (i := 1) rfl st119 (.inr rfl) rfl <| lx_ldB (vm) rfl rfl fl49 hb_bl rfl rfl <| lx_move (.int .i64 ((x : Nat) : Int)) rfl rfl <| lx_ix (i := x) rfl eT49 hr_vm rfl rfl (by omega) <| lx_ld (i := x) (j := 0) ((gt hm x).v) rfl rfl fl25 hr_vm (by omega) rfl rfl <| lx_move (.int .i64 ((y : Nat) : Int)) rfl rfl <| lx_ix (i := y) rfl eT25 (ht_vm.2 x (by omega)) rfl rfl (by omega) <| lx_ld (i := y) (j := 0) (.int .i64 (gt (gt rm x) y)) rfl rfl fl3 (ht_vm.2 x (by omega)) (by omega) rfl rfl <| lx_ldB (.int .i64 ((o : Nat) : Int)) rfl rfl fl3 hb_bo rfl rfl <| lx_eqlS rfl rfl rfl (fun c2 => ?_) (fun c2 => ?_)
    · refine lx_pick true (.bool true) rfl rfl rfl <| lx_assign (.bool true) rfl rfl <| lx_nil <| ?_
      -- R1
      refine wi_ret ⟨.bool true, (res_one rfl rfl), ⟨?_, rfl⟩⟩
      · rw [← hje, ← hme, decide_eq_true (by omega), decide_eq_true (by omega)]; rfl
    · refine lx_pick true (.bool false) rfl rfl rfl <| lx_assign (.bool false) rfl rfl <| lx_nil <| ?_
      -- R2
      refine wi_ret ⟨.bool false, (res_one rfl rfl), ⟨?_, rfl⟩⟩
      · rw [← hje, ← hme, decide_eq_true (by omega), decide_eq_false (by omega)]; rfl
  · refine lx_move (.bool false) rfl rfl <| lx_skip rfl <| lx_skip rfl <| lx_skip rfl <| lx_skip rfl <| lx_skip rfl <| lx_skip rfl <| lx_skip rfl <| lx_skip rfl <| lx_skip rfl <| lx_skip rfl <| lx_pick false (.bool false) rfl rfl rfl <| lx_assign (.bool false) rfl rfl <| lx_nil <| ?_
    -- R3
    refine wi_ret ⟨.bool false, (res_one rfl rfl), ⟨?_, rfl⟩⟩
    · rw [← hje, decide_eq_false (by omega), Bool.false_and]

set_option maxRecDepth 10000 in
theorem isBad_spec (h : Heap) (vp : Value) (hs : List Hdr) (p : List (List Bool)) (o : Nat) (a : Nat) (b : Nat) (c : Nat) (i : Nat) (vj : Value) (hj : List Hdr) (rj : List (List Int)) (vm : Value) (hm : List Hdr) (rm : List (List Int)) (hr_vj : RdE encHd h vj hj) (ht_vj : RT encI h hj rj) (hr_vm : RdE encHd h vm hm) (ht_vm : RT encI h hm rm) (hr_vp : RdE encHd h vp hs) (ht_vp : RT encB h hs p) (hp1 : p.length ≤ 12) (hp2 : Sq p p.length) (hp3 : IsO p.length (pb p)) (hp4 : noGap p.length (pb p)) (hp5 : rj = tabI p.length (joinF p.length (pb p))) (hp6 : rm = tabI p.length (meetF p.length (pb p))) (hp7 : o < p.length) (hp8 : a < p.length) (hp9 : b < p.length) (hp10 : c < p.length) (hp11 : i < p.length) : Fx Try.prog 99 [.agg #[vj, vm], vp, .agg #[.int .i64 ((o : Nat) : Int), .int .i64 ((a : Nat) : Int), .int .i64 ((b : Nat) : Int), .int .i64 ((c : Nat) : Int), .int .i64 ((i : Nat) : Int)]] h (fun v h' => v = .bool (decide (badP p.length (pb p) o a b c i)) ∧ Ext h.size h h') := by
  have hl_vp := ht_vp.1
  have hl_vj := ht_vj.1
  have hl_vm := ht_vm.1
  refine fx_intro (n := 56) [(0, .agg #[vj, vm]), (1, vp), (2, .agg #[.int .i64 ((o : Nat) : Int), .int .i64 ((a : Nat) : Int), .int .i64 ((b : Nat) : Int), .int .i64 ((c : Nat) : Int), .int .i64 ((i : Nat) : Int)])] Try.func99 rfl rfl (by simp) ⟨rfl, rfl, rfl, trivial⟩ fun g0 => ?_
  refine wi_seq <| wi_reg rfl <| lx_box #[vj, vm] rfl rfl rfl (fun _ _ _ => trivial) fun bn1 h1 hbn1 hbk1 hx1 hsz1 => ?_
  have hbb1 : h.size ≤ bn1 := by have := (Nat.le_refl h.size); omega
  refine lx_box #[.int .i64 ((o : Nat) : Int), .int .i64 ((a : Nat) : Int), .int .i64 ((b : Nat) : Int), .int .i64 ((c : Nat) : Int), .int .i64 ((i : Nat) : Int)] rfl rfl rfl (fun _ _ _ => trivial) fun bn2 h2 hbn2 hbk2 hx2 hsz2 => ?_
  have hbb2 : h.size ≤ bn2 := by have := hx1.size; omega
  have hne1 : bn2 ≠ bn1 := by have := hbk1.lt; omega
  have hx0_1 := hx1.trans2 hx2 hx1.size
  have hb1 := hbk1.extS hx2
  refine lx_assign (.bool false) rfl rfl <| lx_nil <| wi_seq <| wi_draw2 10 (fun h9 => Blk h9 bn2 #[.int .i64 ((o : Nat) : Int), .int .i64 ((a : Nat) : Int), .int .i64 ((b : Nat) : Int), .int .i64 ((c : Nat) : Int), .int .i64 ((i : Nat) : Int)] 48) (fun o => match o.dst with | some 15 | some 17 | some 19 | some 21 | some 23 => .free | _ => kindOf o) mo rfl (by decide +kernel) hbk2 <| lx_ixB (i := 0) (0) rfl Try.underlying48 Try.sizeOf3 rfl rfl (by omega) rfl <| lx_ldBF (.int .i64 ((o : Nat) : Int)) rfl fl3 (fun _ hs => hs) rfl rfl <| lx_ixB (i := 1) (1) rfl Try.underlying48 Try.sizeOf3 rfl rfl (by omega) rfl <| lx_ldBF (.int .i64 ((a : Nat) : Int)) rfl fl3 (fun _ hs => hs) rfl rfl <| lx_ixB (i := 2) (2) rfl Try.underlying48 Try.sizeOf3 rfl rfl (by omega) rfl <| lx_ldBF (.int .i64 ((b : Nat) : Int)) rfl fl3 (fun _ hs => hs) rfl rfl <| lx_ixB (i := 3) (3) rfl Try.underlying48 Try.sizeOf3 rfl rfl (by omega) rfl <| lx_ldBF (.int .i64 ((c : Nat) : Int)) rfl fl3 (fun _ hs => hs) rfl rfl <| lx_ixB (i := 4) (4) rfl Try.underlying48 Try.sizeOf3 rfl rfl (by omega) rfl <| lx_ldBF (.int .i64 ((i : Nat) : Int)) rfl fl3 (fun _ hs => hs) rfl rfl <| lx_nil <| ⟨?_, ?_⟩
  · refine lx_alloc rfl rfl Try.zeroValue3 (fun hs _ hx => Blk.extS hs hx) fun bn3 h3 hbn3 hbk3 hx3 hsz3 => ?_
    have hbb3 : h.size ≤ bn3 := by have := hx0_1.size; omega
    have hne2 : bn3 ≠ bn1 := by have := hb1.lt; omega
    have hne3 : bn3 ≠ bn2 := by have := hbk2.lt; omega
    have hx0_2 := hx0_1.trans2 hx3 hx0_1.size
    have hb2 := hb1.extS hx3
    have hb3 := hbk2.extS hx3
    have hbk3 : Blk h3 bn3 #[.int .i64 0] 3 := hbk3
    refine lx_alloc rfl rfl Try.zeroValue3 (fun hs _ hx => Blk.extS hs hx) fun bn4 h4 hbn4 hbk4 hx4 hsz4 => ?_
    have hbb4 : h.size ≤ bn4 := by have := hx0_2.size; omega
    have hne4 : bn4 ≠ bn1 := by have := hb2.lt; omega
    have hne5 : bn4 ≠ bn2 := by have := hb3.lt; omega
    have hne6 : bn4 ≠ bn3 := by have := hbk3.lt; omega
    have hx0_3 := hx0_2.trans2 hx4 hx0_2.size
    have hb4 := hb2.extS hx4
    have hb5 := hb3.extS hx4
    have hb6 := hbk3.extS hx4
    have hbk4 : Blk h4 bn4 #[.int .i64 0] 3 := hbk4
    refine lx_stB (.int .i64 ((o : Nat) : Int)) rfl rfl Try.sizeOf3 hb6 (by simp) rfl rfl rfl rfl (fun hs _ _ hc => ChgB.blk hc hs (by omega)) fun h5 hbk5 hc1 => ?_
    have hx0_4 := hx0_3.trans (hc1.ext hbb3)
    have hb7 := hc1.blk hb4 (Ne.symm hne2)
    have hb8 := hc1.blk hb5 (Ne.symm hne3)
    have hb9 := hc1.blk hbk4 hne6
    have hbk5 : Blk h5 bn3 #[.int .i64 ((o : Nat) : Int)] 3 := hbk5
    refine lx_assign (.int .i64 ((a : Nat) : Int)) rfl rfl <| lx_assign (.int .i64 ((b : Nat) : Int)) rfl rfl <| lx_assign (.int .i64 ((c : Nat) : Int)) rfl rfl <| lx_stB (.int .i64 ((i : Nat) : Int)) rfl rfl Try.sizeOf3 hb9 (by simp) rfl rfl rfl rfl (fun hs _ _ hc => ChgB.blk hc hs (by omega)) fun h6 hbk6 hc2 => ?_
    have hx0_5 := hx0_4.trans (hc2.ext hbb4)
    have hb10 := hc2.blk hb7 (Ne.symm hne4)
    have hb11 := hc2.blk hb8 (Ne.symm hne5)
    have hb12 := hc2.blk hbk5 (Ne.symm hne6)
    have hbk6 : Blk h6 bn4 #[.int .i64 ((i : Nat) : Int)] 3 := hbk6
    refine lx_nil <| wi_seq <| wi_reg rfl <| lx_makeFunc [] [.pointer (some ⟨bn1, 0, none⟩), .pointer (some ⟨bn4, 0, none⟩), .pointer (some ⟨bn3, 0, none⟩)] rfl rfl rfl <| lx_assign (.func (.func 133) #[] #[.pointer (some ⟨bn1, 0, none⟩), .pointer (some ⟨bn4, 0, none⟩), .pointer (some ⟨bn3, 0, none⟩)]) rfl rfl <| lx_nil <| wi_seq <| wi_reg rfl <| lx_ldBA rfl rfl wd48 hb11 rfl rfl <| lx_alloc rfl rfl Try.zeroValue48 (fun _ _ _ => trivial) fun bn5 h7 hbn5 hbk7 hx5 hsz5 => ?_
    have hbb5 : h.size ≤ bn5 := by have := hx0_5.size; omega
    have hne7 : bn5 ≠ bn1 := by have := hb10.lt; omega
    have hne8 : bn5 ≠ bn2 := by have := hb11.lt; omega
    have hne9 : bn5 ≠ bn3 := by have := hb12.lt; omega
    have hne10 : bn5 ≠ bn4 := by have := hbk6.lt; omega
    have hx0_6 := hx0_5.trans2 hx5 hx0_5.size
    have hb13 := hb10.extS hx5
    have hb14 := hb11.extS hx5
    have hb15 := hb12.extS hx5
    have hb16 := hbk6.extS hx5
    have hbk7 : Blk h7 bn5 #[.int .i64 0, .int .i64 0, .int .i64 0, .int .i64 0, .int .i64 0] 48 := hbk7
    refine lx_stBA (#[.int .i64 ((o : Nat) : Int), .int .i64 ((a : Nat) : Int), .int .i64 ((b : Nat) : Int), .int .i64 ((c : Nat) : Int), .int .i64 ((i : Nat) : Int)]) rfl rfl Try.sizeOf48 hbk7 rfl rfl rfl rfl (by simp [Value.oneCell']) (fun _ _ _ _ => trivial) fun h8 hbk8 hc3 => ?_
    have hx0_7 := hx0_6.trans (hc3.ext hbb5)
    have hb17 := hc3.blk hb13 (Ne.symm hne7)
    have hb18 := hc3.blk hb14 (Ne.symm hne8)
    have hb19 := hc3.blk hb15 (Ne.symm hne9)
    have hb20 := hc3.blk hb16 (Ne.symm hne10)
    refine lx_nil <| wi_seq <| wi_reg rfl <| lx_sliceA rfl Try.underlying48 Try.sizeOf3 rfl <| ?_
    have ho1 : OwE encI h8 h.size 48 (.slice (some ⟨bn5, 0, none⟩) 5 5) ([((o : Nat) : Int), ((a : Nat) : Int), ((b : Nat) : Int), ((c : Nat) : Int), ((i : Nat) : Int)]) := own_of_blk (xs := [((o : Nat) : Int), ((a : Nat) : Int), ((b : Nat) : Int), ((c : Nat) : Int), ((i : Nat) : Int)]) hbk8 hbb5 (by simp)
    have hdj1 : Value.ownBlock (.slice (some ⟨bn5, 0, none⟩) 5 5) ≠ some bn1 := fun e => (Ne.symm hne7) (Option.some.inj e).symm
    have hdj2 : Value.ownBlock (.slice (some ⟨bn5, 0, none⟩) 5 5) ≠ some bn2 := fun e => (Ne.symm hne8) (Option.some.inj e).symm
    have hdj3 : Value.ownBlock (.slice (some ⟨bn5, 0, none⟩) 5 5) ≠ some bn3 := fun e => (Ne.symm hne9) (Option.some.inj e).symm
    have hdj4 : Value.ownBlock (.slice (some ⟨bn5, 0, none⟩) 5 5) ≠ some bn4 := fun e => (Ne.symm hne10) (Option.some.inj e).symm
    refine lx_call [(.slice (some ⟨bn5, 0, none⟩) 5 5)] rfl rfl Try.call82 rfl (lsort_gen (t := 48) h8 h.size ((.slice (some ⟨bn5, 0, none⟩) 5 5)) ([((o : Nat) : Int), ((a : Nat) : Int), ((b : Nat) : Int), ((c : Nat) : Int), ((i : Nat) : Int)]) ho1 hx0_7.size (by simp) (by simp)) (fun _ _ _ => trivial) ?_
    rintro _ h9 ⟨rfl, ho2, hx6⟩
    have hx0_8 := hx0_7.trans (ho1.ext hx6 hx0_7.size)
    have hb21 := hb17.chg hx6 hdj1
    have hb22 := hb18.chg hx6 hdj2
    have hb23 := hb19.chg hx6 hdj3
    have hb24 := hb20.chg hx6 hdj4
    refine lx_nil <| wi_seq <| wi_seq <| wi_reg rfl <| lx_sliceA rfl Try.underlying48 Try.sizeOf3 rfl <| ?_
    refine lx_call [(.slice (some ⟨bn5, 0, none⟩) 5 5)] rfl rfl Try.call123 rfl (lcompact_gen (t := 48) h9 h.size ((.slice (some ⟨bn5, 0, none⟩) 5 5)) ((([((o : Nat) : Int), ((a : Nat) : Int), ((b : Nat) : Int), ((c : Nat) : Int), ((i : Nat) : Int)]).mergeSort fun x y => decide (x ≤ y))) ho2 hx0_8.size (fun e => by have := congrArg List.length e; simp at this) (by simp)) (fun _ _ _ => trivial) ?_
    rintro v1 h10 ⟨_, rfl, ho3, hx7⟩
    have hx0_9 := hx0_8.trans (ho2.ext hx7 hx0_8.size)
    have hb25 := hb21.chg hx7 hdj1
    have hb26 := hb22.chg hx7 hdj2
    have hb27 := hb23.chg hx7 hdj3
    have hb28 := hb24.chg hx7 hdj4
    refine lx_len rfl Try.underlying25 ho3.rd rfl <| lx_lssS rfl rfl rfl (fun c1 => ?_) (fun c1 => ?_)
    · refine lx_move (.bool true) rfl rfl <| lx_skip rfl <| lx_skip rfl <| lx_skip rfl <| lx_skip rfl <| lx_skip rfl <| lx_pick true (.bool true) rfl rfl rfl <| lx_move (.bool true) rfl rfl <| lx_skip rfl <| lx_skip rfl <| lx_skip rfl <| lx_skip rfl <| lx_skip rfl <| lx_pick true (.bool true) rfl rfl rfl <| lx_nil <| wi_true rfl <| wi_seq <| wi_reg rfl <| lx_assign (.bool false) rfl rfl <| lx_nil <| ?_
      -- R1
      refine wi_ret ⟨.bool false, (res_one rfl rfl), ⟨?_, hx0_9⟩⟩
      · congr 1; exact (decide_eq_false fun hb => absurd ((bad_dec hp3 hp4 (by omega) (by omega) (by omega)).1 hb).1 ((compact_sorted [((o : Nat) : Int), ((a : Nat) : Int), ((b : Nat) : Int), ((c : Nat) : Int), ((i : Nat) : Int)]).1 (by simp only [List.length_cons, List.length_nil]; omega))).symm
    · refine lx_move (.bool false) rfl rfl <| lx_move (.func (.func 133) #[] #[.pointer (some ⟨bn1, 0, none⟩), .pointer (some ⟨bn4, 0, none⟩), .pointer (some ⟨bn3, 0, none⟩)]) rfl rfl <| lx_move (.int .i64 ((a : Nat) : Int)) rfl rfl <| lx_move (.int .i64 ((c : Nat) : Int)) rfl rfl <| lx_callV [] [.pointer (some ⟨bn1, 0, none⟩), .pointer (some ⟨bn4, 0, none⟩), .pointer (some ⟨bn3, 0, none⟩)] [.int .i64 ((a : Nat) : Int), .int .i64 ((c : Nat) : Int)] rfl rfl Try.call133 rfl rfl (meets_spec h10 a c p.length ((pb p)) o i vj hj rj vm hm rm bn1 bn4 bn3 hb25 hb28 hb27 (hr_vj.extS hx0_9) (ht_vj.extS hx0_9) (hr_vm.extS hx0_9) (ht_vm.extS hx0_9) (by omega) (by omega) (by omega) (by omega) (by omega)) (fun _ _ _ => trivial) ?_
      rintro _ h11 ⟨rfl, rfl⟩
      refine lx_not rfl rfl <| lx_pick false (.bool (!((decide (joinF p.length ((pb p)) a c = ((i : Nat) : Int)) && decide (meetF p.length ((pb p)) a c = ((o : Nat) : Int)))))) rfl rfl rfl <| lx_move (.bool (!((decide (joinF p.length ((pb p)) a c = ((i : Nat) : Int)) && decide (meetF p.length ((pb p)) a c = ((o : Nat) : Int)))))) rfl rfl <| ?_
      cases c2 : ((decide (joinF p.length ((pb p)) a c = ((i : Nat) : Int)) && decide (meetF p.length ((pb p)) a c = ((o : Nat) : Int))))
      · refine lx_skip rfl <| lx_skip rfl <| lx_skip rfl <| lx_skip rfl <| lx_skip rfl <| lx_pick true (.bool true) rfl rfl rfl <| lx_nil <| wi_true rfl <| wi_seq <| wi_reg rfl <| lx_assign (.bool false) rfl rfl <| lx_nil <| ?_
        -- R2
        refine wi_ret ⟨.bool false, (res_one rfl rfl), ⟨?_, hx0_9⟩⟩
        · congr 1; exact (decide_eq_false fun hb => by have := ((bad_dec hp3 hp4 (by omega) (by omega) (by omega)).1 hb).2.1; unfold mtB at this; rw [c2] at this; cases this).symm
      · refine lx_move (.func (.func 133) #[] #[.pointer (some ⟨bn1, 0, none⟩), .pointer (some ⟨bn4, 0, none⟩), .pointer (some ⟨bn3, 0, none⟩)]) rfl rfl <| lx_move (.int .i64 ((b : Nat) : Int)) rfl rfl <| lx_move (.int .i64 ((c : Nat) : Int)) rfl rfl <| lx_callV [] [.pointer (some ⟨bn1, 0, none⟩), .pointer (some ⟨bn4, 0, none⟩), .pointer (some ⟨bn3, 0, none⟩)] [.int .i64 ((b : Nat) : Int), .int .i64 ((c : Nat) : Int)] rfl rfl Try.call133 rfl rfl (meets_spec h10 b c p.length ((pb p)) o i vj hj rj vm hm rm bn1 bn4 bn3 hb25 hb28 hb27 (hr_vj.extS hx0_9) (ht_vj.extS hx0_9) (hr_vm.extS hx0_9) (ht_vm.extS hx0_9) (by omega) (by omega) (by omega) (by omega) (by omega)) (fun _ _ _ => trivial) ?_
        rintro _ h12 ⟨rfl, rfl⟩
        refine lx_not rfl rfl <| lx_pick false (.bool (!((decide (joinF p.length ((pb p)) b c = ((i : Nat) : Int)) && decide (meetF p.length ((pb p)) b c = ((o : Nat) : Int)))))) rfl rfl rfl <| lx_nil <| wi_condS (t := !((decide (joinF p.length ((pb p)) b c = ((i : Nat) : Int)) && decide (meetF p.length ((pb p)) b c = ((o : Nat) : Int))))) rfl (fun c3 => ?_) (fun c3 => ?_)
        · refine wi_seq <| wi_reg rfl <| lx_assign (.bool false) rfl rfl <| lx_nil <| ?_
          -- R3
          refine wi_ret ⟨.bool false, (res_one rfl rfl), ⟨?_, hx0_9⟩⟩
          · congr 1; exact (decide_eq_false fun hb => by have := ((bad_dec hp3 hp4 (by omega) (by omega) (by omega)).1 hb).2.2.1; unfold mtB at this; rw [this] at c3; cases c3).symm
        · refine wi_skip <| wi_seq <| wi_reg rfl <| lx_move (vp) rfl rfl <| lx_move (.int .i64 ((a : Nat) : Int)) rfl rfl <| lx_move (.int .i64 ((b : Nat) : Int)) rfl rfl <| lx_call [vp, .int .i64 ((a : Nat) : Int), .int .i64 ((b : Nat) : Int)] rfl rfl Try.call106 rfl (below_spec h10 vp hs p a b (hr_vp.extS hx0_9) (ht_vp.extS hx0_9) (by omega) (by first | with_reducible assumption | omega) (by omega) (by omega)) (fun _ _ _ => trivial) ?_
          rintro _ h13 ⟨rfl, rfl⟩
          refine lx_move (.bool (decide (a ≠ b) && pb p a b)) rfl rfl <| ?_
          cases c4 : (decide (a ≠ b) && pb p a b)
          · refine lx_move (.func (.func 133) #[] #[.pointer (some ⟨bn1, 0, none⟩), .pointer (some ⟨bn4, 0, none⟩), .pointer (some ⟨bn3, 0, none⟩)]) rfl rfl <| lx_move (.int .i64 ((a : Nat) : Int)) rfl rfl <| lx_move (.int .i64 ((b : Nat) : Int)) rfl rfl <| lx_callV [] [.pointer (some ⟨bn1, 0, none⟩), .pointer (some ⟨bn4, 0, none⟩), .pointer (some ⟨bn3, 0, none⟩)] [.int .i64 ((a : Nat) : Int), .int .i64 ((b : Nat) : Int)] rfl rfl Try.call133 rfl rfl (meets_spec h10 a b p.length ((pb p)) o i vj hj rj vm hm rm bn1 bn4 bn3 hb25 hb28 hb27 (hr_vj.extS hx0_9) (ht_vj.extS hx0_9) (hr_vm.extS hx0_9) (ht_vm.extS hx0_9) (by omega) (by omega) (by omega) (by omega) (by omega)) (fun _ _ _ => trivial) ?_
            rintro _ h14 ⟨rfl, rfl⟩
            refine lx_pick false (.bool ((decide (joinF p.length ((pb p)) a b = ((i : Nat) : Int)) && decide (meetF p.length ((pb p)) a b = ((o : Nat) : Int))))) rfl rfl rfl <| lx_assign (.bool ((decide (joinF p.length ((pb p)) a b = ((i : Nat) : Int)) && decide (meetF p.length ((pb p)) a b = ((o : Nat) : Int))))) rfl rfl <| lx_nil <| ?_
            -- R4
            refine wi_ret ⟨.bool ((decide (joinF p.length ((pb p)) a b = ((i : Nat) : Int)) && decide (meetF p.length ((pb p)) a b = ((o : Nat) : Int)))), (res_one rfl rfl), ⟨?_, hx0_9⟩⟩
            · congr 1
              rw [Bool.eq_iff_iff, decide_eq_true_iff, (bad_dec hp3 hp4 (by omega) (by omega) (by omega))]
              exact ⟨fun h => ⟨Classical.byContradiction fun hn => c1 (by have := (compact_sorted [((o : Nat) : Int), ((a : Nat) : Int), ((b : Nat) : Int), ((c : Nat) : Int), ((i : Nat) : Int)]).2 hn; simp only [List.length_cons, List.length_nil] at this; omega), c2, by unfold mtB; simpa using c3, .inr h⟩, fun h => h.2.2.2.resolve_left (by rw [c4]; simp)⟩
          · refine lx_skip rfl <| lx_skip rfl <| lx_skip rfl <| lx_skip rfl <| lx_pick true (.bool true) rfl rfl rfl <| lx_assign (.bool true) rfl rfl <| lx_nil <| ?_
            -- R5
            refine wi_ret ⟨.bool true, (res_one rfl rfl), ⟨?_, hx0_9⟩⟩
            · congr 1
              symm
              rw [decide_eq_true_iff, (bad_dec hp3 hp4 (by omega) (by omega) (by omega))]
              exact ⟨Classical.byContradiction fun hn => c1 (by have := (compact_sorted [((o : Nat) : Int), ((a : Nat) : Int), ((b : Nat) : Int), ((c : Nat) : Int), ((i : Nat) : Int)]).2 hn; simp only [List.length_cons, List.length_nil] at this; omega), c2, by unfold mtB; simpa using c3, .inl c4⟩
  · refine lx_alloc rfl rfl Try.zeroValue3 (fun hs _ hx => Blk.extS hs hx) fun bn6 h15 hbn6 hbk9 hx8 hsz6 => ?_
    have hbb6 : h.size ≤ bn6 := by have := hx0_1.size; omega
    have hne11 : bn6 ≠ bn1 := by have := hb1.lt; omega
    have hne12 : bn6 ≠ bn2 := by have := hbk2.lt; omega
    have hx0_10 := hx0_1.trans2 hx8 hx0_1.size
    have hb29 := hb1.extS hx8
    have hb30 := hbk2.extS hx8
    have hbk9 : Blk h15 bn6 #[.int .i64 0] 3 := hbk9
    refine lx_alloc rfl rfl Try.zeroValue3 (fun hs _ hx => Blk.extS hs hx) fun bn7 h16 hbn7 hbk10 hx9 hsz7 => ?_
    have hbb7 : h.size ≤ bn7 := by have := hx0_10.size; omega
    have hne13 : bn7 ≠ bn1 := by have := hb29.lt; omega
    have hne14 : bn7 ≠ bn2 := by have := hb30.lt; omega
    have hne15 : bn7 ≠ bn6 := by have := hbk9.lt; omega
    have hx0_11 := hx0_10.trans2 hx9 hx0_10.size
    have hb31 := hb29.extS hx9
    have hb32 := hb30.extS hx9
    have hb33 := hbk9.extS hx9
    have hbk10 : Blk h16 bn7 #[.int .i64 0] 3 := hbk10
    refine lx_stB (.int .i64 ((o : Nat) : Int)) rfl rfl Try.sizeOf3 hbk10 (by simp) rfl rfl rfl rfl (fun hs _ _ hc => ChgB.blk hc hs (by omega)) fun h17 hbk11 hc4 => ?_
    have hx0_12 := hx0_11.trans (hc4.ext hbb7)
    have hb34 := hc4.blk hb31 (Ne.symm hne13)
    have hb35 := hc4.blk hb32 (Ne.symm hne14)
    have hb36 := hc4.blk hb33 (Ne.symm hne15)
    have hbk11 : Blk h17 bn7 #[.int .i64 ((o : Nat) : Int)] 3 := hbk11
    refine lx_assign (.int .i64 ((a : Nat) : Int)) rfl rfl <| lx_assign (.int .i64 ((b : Nat) : Int)) rfl rfl <| lx_assign (.int .i64 ((c : Nat) : Int)) rfl rfl <| lx_stB (.int .i64 ((i : Nat) : Int)) rfl rfl Try.sizeOf3 hb36 (by simp) rfl rfl rfl rfl (fun hs _ _ hc => ChgB.blk hc hs (by omega)) fun h18 hbk12 hc5 => ?_
    have hx0_13 := hx0_12.trans (hc5.ext hbb6)
    have hb37 := hc5.blk hb34 (Ne.symm hne11)
    have hb38 := hc5.blk hb35 (Ne.symm hne12)
    have hb39 := hc5.blk hbk11 hne15
    have hbk12 : Blk h18 bn6 #[.int .i64 ((i : Nat) : Int)] 3 := hbk12
    refine lx_nil <| wi_seq <| wi_reg rfl <| lx_makeFunc [] [.pointer (some ⟨bn1, 0, none⟩), .pointer (some ⟨bn6, 0, none⟩), .pointer (some ⟨bn7, 0, none⟩)] rfl rfl rfl <| lx_assign (.func (.func 133) #[] #[.pointer (some ⟨bn1, 0, none⟩), .pointer (some ⟨bn6, 0, none⟩), .pointer (some ⟨bn7, 0, none⟩)]) rfl rfl <| lx_nil <| wi_seq <| wi_reg rfl <| lx_ldBA rfl rfl wd48 hb38 rfl rfl <| lx_alloc rfl rfl Try.zeroValue48 (fun _ _ _ => trivial) fun bn8 h19 hbn8 hbk13 hx10 hsz8 => ?_
    have hbb8 : h.size ≤ bn8 := by have := hx0_13.size; omega
    have hne16 : bn8 ≠ bn1 := by have := hb37.lt; omega
    have hne17 : bn8 ≠ bn2 := by have := hb38.lt; omega
    have hne18 : bn8 ≠ bn6 := by have := hbk12.lt; omega
    have hne19 : bn8 ≠ bn7 := by have := hb39.lt; omega
    have hx0_14 := hx0_13.trans2 hx10 hx0_13.size
    have hb40 := hb37.extS hx10
    have hb41 := hb38.extS hx10
    have hb42 := hbk12.extS hx10
    have hb43 := hb39.extS hx10
    have hbk13 : Blk h19 bn8 #[.int .i64 0, .int .i64 0, .int .i64 0, .int .i64 0, .int .i64 0] 48 := hbk13
    refine lx_stBA (#[.int .i64 ((o : Nat) : Int), .int .i64 ((a : Nat) : Int), .int .i64 ((b : Nat) : Int), .int .i64 ((c : Nat) : Int), .int .i64 ((i : Nat) : Int)]) rfl rfl Try.sizeOf48 hbk13 rfl rfl rfl rfl (by simp [Value.oneCell']) (fun _ _ _ _ => trivial) fun h20 hbk14 hc6 => ?_
    have hx0_15 := hx0_14.trans (hc6.ext hbb8)
    have hb44 := hc6.blk hb40 (Ne.symm hne16)
    have hb45 := hc6.blk hb41 (Ne.symm hne17)
    have hb46 := hc6.blk hb42 (Ne.symm hne18)
    have hb47 := hc6.blk hb43 (Ne.symm hne19)
    refine lx_nil <| wi_seq <| wi_reg rfl <| lx_sliceA rfl Try.underlying48 Try.sizeOf3 rfl <| ?_
    have ho4 : OwE encI h20 h.size 48 (.slice (some ⟨bn8, 0, none⟩) 5 5) ([((o : Nat) : Int), ((a : Nat) : Int), ((b : Nat) : Int), ((c : Nat) : Int), ((i : Nat) : Int)]) := own_of_blk (xs := [((o : Nat) : Int), ((a : Nat) : Int), ((b : Nat) : Int), ((c : Nat) : Int), ((i : Nat) : Int)]) hbk14 hbb8 (by simp)
    have hdj5 : Value.ownBlock (.slice (some ⟨bn8, 0, none⟩) 5 5) ≠ some bn1 := fun e => (Ne.symm hne16) (Option.some.inj e).symm
    have hdj6 : Value.ownBlock (.slice (some ⟨bn8, 0, none⟩) 5 5) ≠ some bn2 := fun e => (Ne.symm hne17) (Option.some.inj e).symm
    have hdj7 : Value.ownBlock (.slice (some ⟨bn8, 0, none⟩) 5 5) ≠ some bn6 := fun e => (Ne.symm hne18) (Option.some.inj e).symm
    have hdj8 : Value.ownBlock (.slice (some ⟨bn8, 0, none⟩) 5 5) ≠ some bn7 := fun e => (Ne.symm hne19) (Option.some.inj e).symm
    refine lx_call [(.slice (some ⟨bn8, 0, none⟩) 5 5)] rfl rfl Try.call82 rfl (lsort_gen (t := 48) h20 h.size ((.slice (some ⟨bn8, 0, none⟩) 5 5)) ([((o : Nat) : Int), ((a : Nat) : Int), ((b : Nat) : Int), ((c : Nat) : Int), ((i : Nat) : Int)]) ho4 hx0_15.size (by simp) (by simp)) (fun _ _ _ => trivial) ?_
    rintro _ h21 ⟨rfl, ho5, hx11⟩
    have hx0_16 := hx0_15.trans (ho4.ext hx11 hx0_15.size)
    have hb48 := hb44.chg hx11 hdj5
    have hb49 := hb45.chg hx11 hdj6
    have hb50 := hb46.chg hx11 hdj7
    have hb51 := hb47.chg hx11 hdj8
    refine lx_nil <| wi_seq <| wi_seq <| wi_reg rfl <| lx_sliceA rfl Try.underlying48 Try.sizeOf3 rfl <| ?_
    refine lx_call [(.slice (some ⟨bn8, 0, none⟩) 5 5)] rfl rfl Try.call123 rfl (lcompact_gen (t := 48) h21 h.size ((.slice (some ⟨bn8, 0, none⟩) 5 5)) ((([((o : Nat) : Int), ((a : Nat) : Int), ((b : Nat) : Int), ((c : Nat) : Int), ((i : Nat) : Int)]).mergeSort fun x y => decide (x ≤ y))) ho5 hx0_16.size (fun e => by have := congrArg List.length e; simp at this) (by simp)) (fun _ _ _ => trivial) ?_
    rintro v2 h22 ⟨_, rfl, ho6, hx12⟩
    have hx0_17 := hx0_16.trans (ho5.ext hx12 hx0_16.size)
    have hb52 := hb48.chg hx12 hdj5
    have hb53 := hb49.chg hx12 hdj6
    have hb54 := hb50.chg hx12 hdj7
    have hb55 := hb51.chg hx12 hdj8
    refine lx_len rfl Try.underlying25 ho6.rd rfl <| lx_lssS rfl rfl rfl (fun c5 => ?_) (fun c5 => ?_)
    · refine lx_move (.bool true) rfl rfl <| lx_skip rfl <| lx_skip rfl <| lx_skip rfl <| lx_skip rfl <| lx_skip rfl <| lx_pick true (.bool true) rfl rfl rfl <| lx_move (.bool true) rfl rfl <| lx_skip rfl <| lx_skip rfl <| lx_skip rfl <| lx_skip rfl <| lx_skip rfl <| lx_pick true (.bool true) rfl rfl rfl <| lx_nil <| wi_true rfl <| wi_seq <| wi_reg rfl <| lx_assign (.bool false) rfl rfl <| lx_nil <| ?_
      -- R6
      refine wi_ret ⟨.bool false, (res_one rfl rfl), ⟨?_, hx0_17⟩⟩
      · congr 1; exact (decide_eq_false fun hb => absurd ((bad_dec hp3 hp4 (by omega) (by omega) (by omega)).1 hb).1 ((compact_sorted [((o : Nat) : Int), ((a : Nat) : Int), ((b : Nat) : Int), ((c : Nat) : Int), ((i : Nat) : Int)]).1 (by simp only [List.length_cons, List.length_nil]; omega))).symm
    · refine lx_move (.bool false) rfl rfl <| lx_move (.func (.func 133) #[] #[.pointer (some ⟨bn1, 0, none⟩), .pointer (some ⟨bn6, 0, none⟩), .pointer (some ⟨bn7, 0, none⟩)]) rfl rfl <| lx_move (.int .i64 ((a : Nat) : Int)) rfl rfl <| lx_move (.int .i64 ((c : Nat) : Int)) rfl rfl <| lx_callV [] [.pointer (some ⟨bn1, 0, none⟩), .pointer (some ⟨bn6, 0, none⟩), .pointer (some ⟨bn7, 0, none⟩)] [.int .i64 ((a : Nat) : Int), .int .i64 ((c : Nat) : Int)] rfl rfl Try.call133 rfl rfl (meets_spec h22 a c p.length ((pb p)) o i vj hj rj vm hm rm bn1 bn6 bn7 hb52 hb54 hb55 (hr_vj.extS hx0_17) (ht_vj.extS hx0_17) (hr_vm.extS hx0_17) (ht_vm.extS hx0_17) (by omega) (by omega) (by omega) (by omega) (by omega)) (fun _ _ _ => trivial) ?_
      rintro _ h23 ⟨rfl, rfl⟩
      refine lx_not rfl rfl <| lx_pick false (.bool (!((decide (joinF p.length ((pb p)) a c = ((i : Nat) : Int)) && decide (meetF p.length ((pb p)) a c = ((o : Nat) : Int)))))) rfl rfl rfl <| lx_move (.bool (!((decide (joinF p.length ((pb p)) a c = ((i : Nat) : Int)) && decide (meetF p.length ((pb p)) a c = ((o : Nat) : Int)))))) rfl rfl <| ?_
      cases c6 : ((decide (joinF p.length ((pb p)) a c = ((i : Nat) : Int)) && decide (meetF p.length ((pb p)) a c = ((o : Nat) : Int))))
      · refine lx_skip rfl <| lx_skip rfl <| lx_skip rfl <| lx_skip rfl <| lx_skip rfl <| lx_pick true (.bool true) rfl rfl rfl <| lx_nil <| wi_true rfl <| wi_seq <| wi_reg rfl <| lx_assign (.bool false) rfl rfl <| lx_nil <| ?_
        -- R7
        refine wi_ret ⟨.bool false, (res_one rfl rfl), ⟨?_, hx0_17⟩⟩
        · congr 1; exact (decide_eq_false fun hb => by have := ((bad_dec hp3 hp4 (by omega) (by omega) (by omega)).1 hb).2.1; unfold mtB at this; rw [c6] at this; cases this).symm
      · refine lx_move (.func (.func 133) #[] #[.pointer (some ⟨bn1, 0, none⟩), .pointer (some ⟨bn6, 0, none⟩), .pointer (some ⟨bn7, 0, none⟩)]) rfl rfl <| lx_move (.int .i64 ((b : Nat) : Int)) rfl rfl <| lx_move (.int .i64 ((c : Nat) : Int)) rfl rfl <| lx_callV [] [.pointer (some ⟨bn1, 0, none⟩), .pointer (some ⟨bn6, 0, none⟩), .pointer (some ⟨bn7, 0, none⟩)] [.int .i64 ((b : Nat) : Int), .int .i64 ((c : Nat) : Int)] rfl rfl Try.call133 rfl rfl (meets_spec h22 b c p.length ((pb p)) o i vj hj rj vm hm rm bn1 bn6 bn7 hb52 hb54 hb55 (hr_vj.extS hx0_17) (ht_vj.extS hx0_17) (hr_vm.extS hx0_17) (ht_vm.extS hx0_17) (by omega) (by omega) (by omega) (by omega) (by omega)) (fun _ _ _ => trivial) ?_
        rintro _ h24 ⟨rfl, rfl⟩
        refine lx_not rfl rfl <| lx_pick false (.bool (!((decide (joinF p.length ((pb p)) b c = ((i : Nat) : Int)) && decide (meetF p.length ((pb p)) b c = ((o : Nat) : Int)))))) rfl rfl rfl <| lx_nil <| wi_condS (t := !((decide (joinF p.length ((pb p)) b c = ((i : Nat) : Int)) && decide (meetF p.length ((pb p)) b c = ((o : Nat) : Int))))) rfl (fun c7 => ?_) (fun c7 => ?_)
        · refine wi_seq <| wi_reg rfl <| lx_assign (.bool false) rfl rfl <| lx_nil <| ?_
          -- R8
          refine wi_ret ⟨.bool false, (res_one rfl rfl), ⟨?_, hx0_17⟩⟩
          · congr 1; exact (decide_eq_false fun hb => by have := ((bad_dec hp3 hp4 (by omega) (by omega) (by omega)).1 hb).2.2.1; unfold mtB at this; rw [this] at c7; cases c7).symm
        · refine wi_skip <| wi_seq <| wi_reg rfl <| lx_move (vp) rfl rfl <| lx_move (.int .i64 ((a : Nat) : Int)) rfl rfl <| lx_move (.int .i64 ((b : Nat) : Int)) rfl rfl <| lx_call [vp, .int .i64 ((a : Nat) : Int), .int .i64 ((b : Nat) : Int)] rfl rfl Try.call106 rfl (below_spec h22 vp hs p a b (hr_vp.extS hx0_17) (ht_vp.extS hx0_17) (by omega) (by first | with_reducible assumption | omega) (by omega) (by omega)) (fun _ _ _ => trivial) ?_
          rintro _ h25 ⟨rfl, rfl⟩
          refine lx_move (.bool (decide (a ≠ b) && pb p a b)) rfl rfl <| ?_
          cases c8 : (decide (a ≠ b) && pb p a b)
          · refine lx_move (.func (.func 133) #[] #[.pointer (some ⟨bn1, 0, none⟩), .pointer (some ⟨bn6, 0, none⟩), .pointer (some ⟨bn7, 0, none⟩)]) rfl rfl <| lx_move (.int .i64 ((a : Nat) : Int)) rfl rfl <| lx_move (.int .i64 ((b : Nat) : Int)) rfl rfl <| lx_callV [] [.pointer (some ⟨bn1, 0, none⟩), .pointer (some ⟨bn6, 0, none⟩), .pointer (some ⟨bn7, 0, none⟩)] [.int .i64 ((a : Nat) : Int), .int .i64 ((b : Nat) : Int)] rfl rfl Try.call133 rfl rfl (meets_spec h22 a b p.length ((pb p)) o i vj hj rj vm hm rm bn1 bn6 bn7 hb52 hb54 hb55 (hr_vj.extS hx0_17) (ht_vj.extS hx0_17) (hr_vm.extS hx0_17) (ht_vm.extS hx0_17) (by omega) (by omega) (by omega) (by omega) (by omega)) (fun _ _ _ => trivial) ?_
            rintro _ h26 ⟨rfl, rfl⟩
            refine lx_pick false (.bool ((decide (joinF p.length ((pb p)) a b = ((i : Nat) : Int)) && decide (meetF p.length ((pb p)) a b = ((o : Nat) : Int))))) rfl rfl rfl <| lx_assign (.bool ((decide (joinF p.length ((pb p)) a b = ((i : Nat) : Int)) && decide (meetF p.length ((pb p)) a b = ((o : Nat) : Int))))) rfl rfl <| lx_nil <| ?_
            -- R9
            refine wi_ret ⟨.bool ((decide (joinF p.length ((pb p)) a b = ((i : Nat) : Int)) && decide (meetF p.length ((pb p)) a b = ((o : Nat) : Int)))), (res_one rfl rfl), ⟨?_, hx0_17⟩⟩
            · congr 1
              rw [Bool.eq_iff_iff, decide_eq_true_iff, (bad_dec hp3 hp4 (by omega) (by omega) (by omega))]
              exact ⟨fun h => ⟨Classical.byContradiction fun hn => c5 (by have := (compact_sorted [((o : Nat) : Int), ((a : Nat) : Int), ((b : Nat) : Int), ((c : Nat) : Int), ((i : Nat) : Int)]).2 hn; simp only [List.length_cons, List.length_nil] at this; omega), c6, by unfold mtB; simpa using c7, .inr h⟩, fun h => h.2.2.2.resolve_left (by rw [c8]; simp)⟩
          · refine lx_skip rfl <| lx_skip rfl <| lx_skip rfl <| lx_skip rfl <| lx_pick true (.bool true) rfl rfl rfl <| lx_assign (.bool true) rfl rfl <| lx_nil <| ?_
            -- R10
            refine wi_ret ⟨.bool true, (res_one rfl rfl), ⟨?_, hx0_17⟩⟩
            · congr 1
              symm
              rw [decide_eq_true_iff, (bad_dec hp3 hp4 (by omega) (by omega) (by omega))]
              exact ⟨Classical.byContradiction fun hn => c5 (by have := (compact_sorted [((o : Nat) : Int), ((a : Nat) : Int), ((b : Nat) : Int), ((c : Nat) : Int), ((i : Nat) : Int)]).2 hn; simp only [List.length_cons, List.length_nil] at this; omega), c6, by unfold mtB; simpa using c7, .inl c8⟩

end Go.Proofs.Ytdokijbdnajhgaa
namespace Go.Proofs.Ytdokijbdnajhgaa
open Go Go.X

/-- Whether these three are the middle of a bad five. -/
abbrev badAt (n : Nat) (f : Nat → Nat → Bool) (a b c : Nat) : Prop := badP n f (mN n f a c) a b c (jN n f a c)
def badR (n : Nat) (f : Nat → Nat → Bool) (o a b c i : Nat) (bb : Bool) : Prop :=
  (bb = true ∧ badP n f o a b c i ∧ o < n ∧ a < n ∧ b < n ∧ c < n ∧ i < n) ∨ (bb = false ∧ (o = 0 ∧ a = 0 ∧ b = 0 ∧ c = 0 ∧ i = 0) ∧ ∀ q r s, q < n → r < n → s < n → ¬ badAt n f q r s)

set_option maxRecDepth 10000 in
theorem bad_spec (h : Heap) (vp : Value) (hs : List Hdr) (p : List (List Bool)) (vj : Value) (hj : List Hdr) (rj : List (List Int)) (vm : Value) (hm : List Hdr) (rm : List (List Int)) (hr_vj : RdE encHd h vj hj) (ht_vj : RT encI h hj rj) (hr_vm : RdE encHd h vm hm) (ht_vm : RT encI h hm rm) (hr_vp : RdE encHd h vp hs) (ht_vp : RT encB h hs p) (hp1 : p.length ≤ 12) (hp2 : Sq p p.length) (hp3 : IsO p.length (pb p)) (hp4 : noGap p.length (pb p)) (hp5 : rj = tabI p.length (joinF p.length (pb p))) (hp6 : rm = tabI p.length (meetF p.length (pb p))) : Fx Try.prog 94 [.agg #[vj, vm], vp] h (fun v h' => ∃ (o : Nat) (a : Nat) (b : Nat) (c : Nat) (i : Nat) (bb : Bool), v = .tuple #[.agg #[.int .i64 ((o : Nat) : Int), .int .i64 ((a : Nat) : Int), .int .i64 ((b : Nat) : Int), .int .i64 ((c : Nat) : Int), .int .i64 ((i : Nat) : Int)], .bool bb] ∧ (badR p.length (pb p) o a b c i bb) ∧ Ext h.size h h') := by
  have hl_vp := ht_vp.1
  have hl_vj := ht_vj.1
  have hl_vm := ht_vm.1
  refine fx_intro (n := 56) [(0, .agg #[vj, vm]), (1, vp)] Try.func94 rfl rfl (by simp) ⟨rfl, rfl, trivial⟩ fun g0 => ?_
  refine wi_seq <| wi_reg rfl <| lx_box #[vj, vm] rfl rfl rfl (fun _ _ _ => trivial) fun bn1 h1 hbn1 hbk1 hx1 hsz1 => ?_
  have hbb1 : h.size ≤ bn1 := by have := (Nat.le_refl h.size); omega
  refine lx_alloc rfl rfl Try.zeroValue48 (fun _ _ _ => trivial) fun bn2 h2 hbn2 hbk2 hx2 hsz2 => ?_
  have hbb2 : h.size ≤ bn2 := by have := hx1.size; omega
  have hne1 : bn2 ≠ bn1 := by have := hbk1.lt; omega
  have hx0_1 := hx1.trans2 hx2 hx1.size
  have hb1 := hbk1.extS hx2
  have hbk2 : Blk h2 bn2 #[.int .i64 0, .int .i64 0, .int .i64 0, .int .i64 0, .int .i64 0] 48 := hbk2
  refine lx_assign (.bool false) rfl rfl <| lx_nil <| wi_scope <| wi_seq <| wi_label <| wi_seq <| wi_seq <| wi_reg rfl <| lx_move (vp) rfl rfl <| lx_len rfl Try.underlying29 hr_vp rfl <| lx_move (.int .i64 0) rfl rfl <| lx_nil <| wi_block <| ?_
  refine wi_loop (σ := Nat × Nat × Nat × Nat × Nat × Nat × Bool) (rngB 11 52 [5, 6, 7, 8]) (fun (ss : Nat × Nat × Nat × Nat × Nat × Nat × Bool) => [(11, .int .i64 ((ss.1 : Nat) : Int)), (5, .bool ss.2.2.2.2.2.2)]) (fun (ss : Nat × Nat × Nat × Nat × Nat × Nat × Bool) (hh : Heap) => Blk hh bn1 #[vj, vm] 119 ∧ Blk hh bn2 #[.int .i64 ((ss.2.1 : Nat) : Int), .int .i64 ((ss.2.2.1 : Nat) : Int), .int .i64 ((ss.2.2.2.1 : Nat) : Int), .int .i64 ((ss.2.2.2.2.1 : Nat) : Int), .int .i64 ((ss.2.2.2.2.2.1 : Nat) : Int)] 48 ∧ Ext h.size h hh ∧ (ss.1 ≤ p.length) ∧ (ss.2.2.2.2.2.2 = false) ∧ (∀ q r s, q < ss.1 → r < p.length → s < p.length → ¬ badAt p.length (pb p) q r s)) (fun (ss : Nat × Nat × Nat × Nat × Nat × Nat × Bool) => p.length - ss.1) (0, 0, 0, 0, 0, 0, false) ⟨rfl, rfl, trivial⟩ ⟨?_, ?_, hx0_1, ?_, ?_, ?_⟩ ?_
  · exact hb1
  · exact hbk2
  · try dsimp only
    omega
  · try dsimp only
    first | done | rfl
  · try dsimp only
    intro q r s hq; omega
  rintro g1 ⟨x, vo, va, vb, vc, vi, bb⟩ hh1 ⟨hbk3, hbk4, hx0_2, hx, hbb, ha⟩ IH1
  dsimp only at *
  refine wi_seq <| wi_reg rfl <| lx_lssS rfl rfl rfl (fun c1 => ?_) (fun c1 => ?_)
  · refine lx_nil <| wi_seq <| wi_true rfl <| wi_skip <| wi_seq <| wi_block <| wi_seq <| wi_reg rfl <| lx_move (.int .i64 ((x : Nat) : Int)) rfl rfl <| lx_assign (.int .i64 ((x : Nat) : Int)) rfl rfl <| lx_nil <| wi_seq <| wi_reg rfl <| lx_move (vp) rfl rfl <| lx_len rfl Try.underlying29 hr_vp rfl <| lx_move (.int .i64 0) rfl rfl <| lx_nil <| wi_block <| ?_
    refine wi_loop (σ := Nat × Nat × Nat × Nat × Nat × Nat × Bool) (rngB 16 51 [5, 7, 8]) (fun (ss : Nat × Nat × Nat × Nat × Nat × Nat × Bool) => [(16, .int .i64 ((ss.1 : Nat) : Int)), (5, .bool ss.2.2.2.2.2.2)]) (fun (ss : Nat × Nat × Nat × Nat × Nat × Nat × Bool) (hh : Heap) => Blk hh bn1 #[vj, vm] 119 ∧ Blk hh bn2 #[.int .i64 ((ss.2.1 : Nat) : Int), .int .i64 ((ss.2.2.1 : Nat) : Int), .int .i64 ((ss.2.2.2.1 : Nat) : Int), .int .i64 ((ss.2.2.2.2.1 : Nat) : Int), .int .i64 ((ss.2.2.2.2.2.1 : Nat) : Int)] 48 ∧ Ext h.size h hh ∧ (ss.1 ≤ p.length) ∧ (ss.2.2.2.2.2.2 = false) ∧ (∀ r s, r < ss.1 → s < p.length → ¬ badAt p.length (pb p) x r s)) (fun (ss : Nat × Nat × Nat × Nat × Nat × Nat × Bool) => p.length - ss.1) (0, vo, va, vb, vc, vi, bb) ⟨rfl, rfl, trivial⟩ ⟨?_, ?_, hx0_2, ?_, ?_, ?_⟩ ?_
    · exact hbk3
    · exact hbk4
    · try dsimp only
      omega
    · try dsimp only
      exact hbb
    · try dsimp only
      intro r s hr; omega
    rintro g2 ⟨y, vo, va, vb, vc, vi, bb⟩ hh2 ⟨hbk5, hbk6, hx0_3, hy, hbb, hb⟩ IH2
    dsimp only at *
    refine wi_seq <| wi_reg rfl <| lx_lssS rfl rfl rfl (fun c2 => ?_) (fun c2 => ?_)
    · refine lx_nil <| wi_seq <| wi_true rfl <| wi_skip <| wi_seq <| wi_block <| wi_seq <| wi_reg rfl <| lx_move (.int .i64 ((y : Nat) : Int)) rfl rfl <| lx_assign (.int .i64 ((y : Nat) : Int)) rfl rfl <| lx_nil <| wi_seq <| wi_reg rfl <| lx_move (vp) rfl rfl <| lx_len rfl Try.underlying29 hr_vp rfl <| lx_move (.int .i64 0) rfl rfl <| lx_nil <| wi_block <| ?_
      refine wi_loop (σ := Nat × Nat × Nat × Nat × Nat × Nat × Bool) (rngB 21 50 [5, 8]) (fun (ss : Nat × Nat × Nat × Nat × Nat × Nat × Bool) => [(21, .int .i64 ((ss.1 : Nat) : Int)), (5, .bool ss.2.2.2.2.2.2)]) (fun (ss : Nat × Nat × Nat × Nat × Nat × Nat × Bool) (hh : Heap) => Blk hh bn1 #[vj, vm] 119 ∧ Blk hh bn2 #[.int .i64 ((ss.2.1 : Nat) : Int), .int .i64 ((ss.2.2.1 : Nat) : Int), .int .i64 ((ss.2.2.2.1 : Nat) : Int), .int .i64 ((ss.2.2.2.2.1 : Nat) : Int), .int .i64 ((ss.2.2.2.2.2.1 : Nat) : Int)] 48 ∧ Ext h.size h hh ∧ (ss.1 ≤ p.length) ∧ (ss.2.2.2.2.2.2 = false) ∧ (∀ s, s < ss.1 → ¬ badAt p.length (pb p) x y s)) (fun (ss : Nat × Nat × Nat × Nat × Nat × Nat × Bool) => p.length - ss.1) (0, vo, va, vb, vc, vi, bb) ⟨rfl, rfl, trivial⟩ ⟨?_, ?_, hx0_3, ?_, ?_, ?_⟩ ?_
      · exact hbk5
      · exact hbk6
      · try dsimp only
        omega
      · try dsimp only
        exact hbb
      · try dsimp only
        intro s hs9; omega
      rintro g3 ⟨z, vo, va, vb, vc, vi, bb⟩ hh3 ⟨hbk7, hbk8, hx0_4, hz, hbb, hc⟩ IH3
      dsimp only at *
      refine wi_seq <| wi_reg rfl <| lx_lssS rfl rfl rfl (fun c3 => ?_) (fun c3 => ?_)
      · refine lx_nil <| wi_seq <| wi_true rfl <| wi_skip <| wi_seq <| wi_block <| wi_seq <| wi_reg rfl <| lx_move (.int .i64 ((z : Nat) : Int)) rfl rfl <| lx_assign (.int .i64 ((z : Nat) : Int)) rfl rfl <| lx_nil <| wi_seq <| wi_draw mo rfl (by decide +kernel) <| ?_
        have hjl : rj.length = p.length := by rw [hp5]; exact tabI_len _ _
        have hml : rm.length = p.length := by rw [hp6]; exact tabI_len _ _
        have hjr : gt rj x = mapR p.length (joinF p.length (pb p) x) := by rw [hp5, gt_tabI (by omega)]
        have hmr : gt rm x = mapR p.length (meetF p.length (pb p) x) := by rw [hp6, gt_tabI (by omega)]
        have hjl2 : (gt rj x).length = p.length := by rw [hjr]; exact mapR_len _ _
        have hml2 : (gt rm x).length = p.length := by rw [hmr]; exact mapR_len _ _
        have hJ := jN_at hp3 hp4 (x := x) (y := z) (by omega) (by omega)
        have hM := mN_at hp3 hp4 (x := x) (y := z) (by omega) (by omega)
        have hje : gt (gt rj x) z = ((jN p.length (pb p) x z : Nat) : Int) := by rw [hjr, gt_mapR (by omega)]; exact hJ.1
        have hme : gt (gt rm x) z = ((mN p.length (pb p) x z : Nat) : Int) := by rw [hmr, gt_mapR (by omega)]; exact hM.1
        have hjn := hJ.2.1
        have hmn := hM.2.1
        refine lx_fieldL (i := 1) rfl st119 (.inr rfl) rfl <| lx_ldB (vm) rfl rfl fl49 hbk7 rfl rfl <| lx_move (.int .i64 ((x : Nat) : Int)) rfl rfl <| lx_ix (i := x) rfl eT49 hr_vm rfl rfl (by omega) <| lx_ld (i := x) (j := 0) ((gt hm x).v) rfl rfl fl25 (hr_vm.extS hx0_4) (by omega) rfl rfl <| lx_move (.int .i64 ((z : Nat) : Int)) rfl rfl <| lx_ix (i := z) rfl eT25 (ht_vm.2 x (by omega)) rfl rfl (by omega) <| lx_ld (i := z) (j := 0) (.int .i64 ((mN p.length (pb p) x z : Nat) : Int)) rfl rfl fl3 ((ht_vm.extS hx0_4).2 x (by omega)) (by omega) (by show some (Value.int .i64 (gt (gt rm x) z)) = _; rw [hme]) rfl <| lx_move (.int .i64 ((x : Nat) : Int)) rfl rfl <| lx_move (.int .i64 ((y : Nat) : Int)) rfl rfl <| lx_move (.int .i64 ((z : Nat) : Int)) rfl rfl <| lx_fieldL (i := 0) rfl st119 (.inl rfl) rfl <| lx_ldB (vj) rfl rfl fl49 hbk7 rfl rfl <| lx_move (.int .i64 ((x : Nat) : Int)) rfl rfl <| lx_ix (i := x) rfl eT49 hr_vj rfl rfl (by omega) <| lx_ld (i := x) (j := 0) ((gt hj x).v) rfl rfl fl25 (hr_vj.extS hx0_4) (by omega) rfl rfl <| lx_move (.int .i64 ((z : Nat) : Int)) rfl rfl <| lx_ix (i := z) rfl eT25 (ht_vj.2 x (by omega)) rfl rfl (by omega) <| lx_ld (i := z) (j := 0) (.int .i64 ((jN p.length (pb p) x z : Nat) : Int)) rfl rfl fl3 ((ht_vj.extS hx0_4).2 x (by omega)) (by omega) (by show some (Value.int .i64 (gt (gt rj x) z)) = _; rw [hje]) rfl <| lx_build (.agg #[.int .i64 ((mN p.length (pb p) x z : Nat) : Int), .int .i64 ((x : Nat) : Int), .int .i64 ((y : Nat) : Int), .int .i64 ((z : Nat) : Int), .int .i64 ((jN p.length (pb p) x z : Nat) : Int)]) [(0, .int .i64 ((mN p.length (pb p) x z : Nat) : Int)), (1, .int .i64 ((x : Nat) : Int)), (2, .int .i64 ((y : Nat) : Int)), (3, .int .i64 ((z : Nat) : Int)), (4, .int .i64 ((jN p.length (pb p) x z : Nat) : Int))] rfl rfl (fun w => bld5 Try.underlying48 Try.zeroValue48 Try.sizeOf3 _ _ _ _ _ w) <| lx_stBA (#[.int .i64 ((mN p.length (pb p) x z : Nat) : Int), .int .i64 ((x : Nat) : Int), .int .i64 ((y : Nat) : Int), .int .i64 ((z : Nat) : Int), .int .i64 ((jN p.length (pb p) x z : Nat) : Int)]) rfl rfl Try.sizeOf48 hbk8 rfl rfl rfl rfl (by simp [Value.oneCell']) (fun _ _ _ _ => trivial) fun h3 hbk9 hc1 => ?_
        have hx0_5 := hx0_4.trans (hc1.ext hbb2)
        have hb2 := hc1.blk hbk7 (Ne.symm hne1)
        refine lx_nil <| wi_seq <| wi_reg rfl <| lx_ldBA rfl rfl wd119 hb2 rfl rfl <| lx_move (vp) rfl rfl <| lx_ldBA rfl rfl wd48 hbk9 rfl rfl <| lx_call [.agg #[vj, vm], vp, .agg #[.int .i64 ((mN p.length (pb p) x z : Nat) : Int), .int .i64 ((x : Nat) : Int), .int .i64 ((y : Nat) : Int), .int .i64 ((z : Nat) : Int), .int .i64 ((jN p.length (pb p) x z : Nat) : Int)]] rfl rfl Try.call99 rfl (isBad_spec h3 vp hs p (mN p.length (pb p) x z) x y z (jN p.length (pb p) x z) vj hj rj vm hm rm (hr_vj.extS hx0_5) (ht_vj.extS hx0_5) (hr_vm.extS hx0_5) (ht_vm.extS hx0_5) (hr_vp.extS hx0_5) (ht_vp.extS hx0_5) (by omega) (by first | with_reducible assumption | omega) (by first | with_reducible assumption | omega) (by omega) (by omega) (by omega) (by omega) (by omega) (by omega) (by omega) (by omega)) (fun _ _ _ => trivial) ?_
        rintro _ h4 ⟨rfl, hx3⟩
        have hx0_6 := hx0_5.trans2 hx3 hx0_5.size
        have hb3 := hb2.extS hx3
        have hb4 := hbk9.extS hx3
        refine lx_assign (.bool (decide (badP p.length (pb p) (mN p.length (pb p) x z) x y z (jN p.length (pb p) x z)))) rfl rfl <| lx_nil <| wi_seq <| wi_reg rfl <| lx_move (.bool (decide (badP p.length (pb p) (mN p.length (pb p) x z) x y z (jN p.length (pb p) x z)))) rfl rfl <| lx_nil <| wi_condS (t := decide (badP p.length (pb p) (mN p.length (pb p) x z) x y z (jN p.length (pb p) x z))) rfl (fun c4 => ?_) (fun c4 => ?_)
        · refine wi_exit rfl <| wi_seq <| wi_seq <| wi_reg rfl <| lx_move (.bool (decide (badP p.length (pb p) (mN p.length (pb p) x z) x y z (jN p.length (pb p) x z)))) rfl rfl <| lx_not rfl rfl <| lx_nil <| wi_condS (t := !(decide (badP p.length (pb p) (mN p.length (pb p) x z) x y z (jN p.length (pb p) x z)))) rfl (fun c5 => ?_) (fun c5 => ?_)
          · refine wi_seq <| wi_reg rfl <| lx_build (.agg #[.int .i64 0, .int .i64 0, .int .i64 0, .int .i64 0, .int .i64 0]) [] rfl rfl (fun w => bld5z Try.underlying48 Try.zeroValue48 Try.sizeOf3 w) <| lx_stBA (#[.int .i64 0, .int .i64 0, .int .i64 0, .int .i64 0, .int .i64 0]) rfl rfl Try.sizeOf48 hb4 rfl rfl rfl rfl (by simp [Value.oneCell']) (fun _ _ _ _ => trivial) fun h5 hbk10 hc2 => ?_
            have hx0_7 := hx0_6.trans (hc2.ext hbb2)
            have hb5 := hc2.blk hb3 (Ne.symm hne1)
            refine lx_assign (.bool false) rfl rfl <| lx_nil <| ?_
            -- R1
            refine wi_ret ⟨.tuple #[.agg #[.int .i64 0, .int .i64 0, .int .i64 0, .int .i64 0, .int .i64 0], .bool false], (res_cell2 rfl rfl hbk10 wd48 rfl rfl), ⟨0, 0, 0, 0, 0, false, ?_, ?_, hx0_7⟩⟩
            · first | rfl | (simp; done) | (simp; omega)
            · exact absurd c4 (by simpa using c5)
          · refine wi_skip <| wi_seq <| wi_reg rfl <| lx_ldBA rfl rfl wd48 hb4 rfl rfl <| lx_stBA (#[.int .i64 ((mN p.length (pb p) x z : Nat) : Int), .int .i64 ((x : Nat) : Int), .int .i64 ((y : Nat) : Int), .int .i64 ((z : Nat) : Int), .int .i64 ((jN p.length (pb p) x z : Nat) : Int)]) rfl rfl Try.sizeOf48 hb4 rfl rfl rfl rfl (by simp [Value.oneCell']) (fun _ _ _ _ => trivial) fun h6 hbk11 hc3 => ?_
            have hx0_8 := hx0_6.trans (hc3.ext hbb2)
            have hb6 := hc3.blk hb3 (Ne.symm hne1)
            refine lx_assign (.bool true) rfl rfl <| lx_nil <| ?_
            -- R2
            refine wi_ret ⟨.tuple #[.agg #[.int .i64 ((mN p.length (pb p) x z : Nat) : Int), .int .i64 ((x : Nat) : Int), .int .i64 ((y : Nat) : Int), .int .i64 ((z : Nat) : Int), .int .i64 ((jN p.length (pb p) x z : Nat) : Int)], .bool true], (res_cell2 rfl rfl hbk11 wd48 rfl rfl), ⟨mN p.length (pb p) x z, x, y, z, jN p.length (pb p) x z, true, ?_, ?_, hx0_8⟩⟩
            · first | rfl | (simp; done) | (simp; omega)
            · exact .inl ⟨rfl, of_decide_eq_true c4, by omega, by omega, by omega, by omega, by omega⟩
        · refine wi_skip <| wi_inBlock <| wi_reg rfl <| lx_add (((z + 1 : Nat) : Int)) rfl rfl rfl (by omega) (by omega) (by omega) <| lx_move (.int .i64 ((z + 1 : Nat) : Int)) rfl rfl <| lx_nil <| ?_
          -- L4.1
          refine IH3 _ _ (z + 1, mN p.length (pb p) x z, x, y, z, jN p.length (pb p) x z, decide (badP p.length (pb p) (mN p.length (pb p) x z) x y z (jN p.length (pb p) x z))) (agree_ups rfl agree_self) ⟨rfl, rfl, trivial⟩ ⟨?_, ?_, hx0_6, ?_, ?_, ?_⟩ ?_
          · exact hb3
          · exact hb4
          · try dsimp only
            omega
          · try dsimp only
            exact c4
          · try dsimp only
            intro s hs9
            by_cases e : s = z
            · subst e; exact of_decide_eq_false c4
            · exact hc s (by omega)
          · first | omega | (dsimp only; omega)
      · refine lx_nil <| wi_seq <| wi_false rfl <| wi_exit rfl <| wi_inBlock <| wi_reg rfl <| lx_add (((y + 1 : Nat) : Int)) rfl rfl rfl (by omega) (by omega) (by omega) <| lx_move (.int .i64 ((y + 1 : Nat) : Int)) rfl rfl <| lx_nil <| ?_
        -- L2.1
        refine IH2 _ _ (y + 1, vo, va, vb, vc, vi, bb) (agree_ups rfl (agree_mix (rngB_sub (by decide) (by decide) rfl) (agree_ups rfl agree_self))) ⟨rfl, rfl, trivial⟩ ⟨?_, ?_, hx0_4, ?_, ?_, ?_⟩ ?_
        · exact hbk7
        · exact hbk8
        · try dsimp only
          omega
        · try dsimp only
          exact hbb
        · try dsimp only
          intro r s hr hs9
          by_cases e : r = y
          · subst e; exact hc s (by omega)
          · exact hb r s (by omega) hs9
        · first | omega | (dsimp only; omega)
    · refine lx_nil <| wi_seq <| wi_false rfl <| wi_exit rfl <| wi_inBlock <| wi_reg rfl <| lx_add (((x + 1 : Nat) : Int)) rfl rfl rfl (by omega) (by omega) (by omega) <| lx_move (.int .i64 ((x + 1 : Nat) : Int)) rfl rfl <| lx_nil <| ?_
      -- L0.1
      refine IH1 _ _ (x + 1, vo, va, vb, vc, vi, bb) (agree_ups rfl (agree_mix (rngB_sub (by decide) (by decide) rfl) (agree_ups rfl agree_self))) ⟨rfl, rfl, trivial⟩ ⟨?_, ?_, hx0_3, ?_, ?_, ?_⟩ ?_
      · exact hbk5
      · exact hbk6
      · try dsimp only
        omega
      · try dsimp only
        exact hbb
      · try dsimp only
        intro q r s hq hr hs9
        by_cases e : q = x
        · subst e; exact hb r s (by omega) hs9
        · exact ha q r s (by omega) hr hs9
      · first | omega | (dsimp only; omega)
  · refine lx_nil <| wi_seq <| wi_false rfl <| wi_exit rfl <| wi_seq <| wi_seq <| wi_reg rfl <| lx_move (.bool bb) rfl rfl <| lx_not rfl rfl <| lx_nil <| wi_condS (t := !bb) rfl (fun c6 => ?_) (fun c6 => ?_)
    · refine wi_seq <| wi_reg rfl <| lx_build (.agg #[.int .i64 0, .int .i64 0, .int .i64 0, .int .i64 0, .int .i64 0]) [] rfl rfl (fun w => bld5z Try.underlying48 Try.zeroValue48 Try.sizeOf3 w) <| lx_stBA (#[.int .i64 0, .int .i64 0, .int .i64 0, .int .i64 0, .int .i64 0]) rfl rfl Try.sizeOf48 hbk4 rfl rfl rfl rfl (by simp [Value.oneCell']) (fun _ _ _ _ => trivial) fun h7 hbk12 hc4 => ?_
      have hx0_9 := hx0_2.trans (hc4.ext hbb2)
      have hb7 := hc4.blk hbk3 (Ne.symm hne1)
      refine lx_assign (.bool false) rfl rfl <| lx_nil <| ?_
      -- R3
      refine wi_ret ⟨.tuple #[.agg #[.int .i64 0, .int .i64 0, .int .i64 0, .int .i64 0, .int .i64 0], .bool false], (res_cell2 rfl rfl hbk12 wd48 rfl rfl), ⟨0, 0, 0, 0, 0, false, ?_, ?_, hx0_9⟩⟩
      · first | rfl | (simp; done) | (simp; omega)
      · exact .inr ⟨rfl, ⟨rfl, rfl, rfl, rfl, rfl⟩, fun q r s hq hr hs9 => ha q r s (by omega) hr hs9⟩
    · refine wi_skip <| wi_seq <| wi_reg rfl <| lx_ldBA rfl rfl wd48 hbk4 rfl rfl <| lx_stBA (#[.int .i64 ((vo : Nat) : Int), .int .i64 ((va : Nat) : Int), .int .i64 ((vb : Nat) : Int), .int .i64 ((vc : Nat) : Int), .int .i64 ((vi : Nat) : Int)]) rfl rfl Try.sizeOf48 hbk4 rfl rfl rfl rfl (by simp [Value.oneCell']) (fun _ _ _ _ => trivial) fun h8 hbk13 hc5 => ?_
      have hx0_10 := hx0_2.trans (hc5.ext hbb2)
      have hb8 := hc5.blk hbk3 (Ne.symm hne1)
      refine lx_assign (.bool true) rfl rfl <| lx_nil <| ?_
      -- R4
      refine wi_ret ⟨.tuple #[.agg #[.int .i64 ((vo : Nat) : Int), .int .i64 ((va : Nat) : Int), .int .i64 ((vb : Nat) : Int), .int .i64 ((vc : Nat) : Int), .int .i64 ((vi : Nat) : Int)], .bool true], (res_cell2 rfl rfl hbk13 wd48 rfl rfl), ⟨vo, va, vb, vc, vi, true, rfl, ?_, hx0_10⟩⟩
      · rw [hbb] at c6; cases c6

set_option maxRecDepth 10000 in
theorem obad_spec (h : Heap) (vp : Value) (hs : List Hdr) (p : List (List Bool)) (hr_vp : RdE encHd h vp hs) (ht_vp : RT encB h hs p) (hp1 : p.length ≤ 1000000) (hp2 : ∀ i, i < p.length → (gt p i).length ≤ 1000000) : Fx Try.prog 33 [vp] h (fun v h' => ∃ (o : Nat) (a : Nat) (b : Nat) (c : Nat) (i : Nat) (bb : Bool), v = .tuple #[.agg #[.int .i64 ((o : Nat) : Int), .int .i64 ((a : Nat) : Int), .int .i64 ((b : Nat) : Int), .int .i64 ((c : Nat) : Int), .int .i64 ((i : Nat) : Int)], .bool bb, .int .i64 (opnC p)] ∧ ((opnC p ≠ 0 ∧ (o = 0 ∧ a = 0 ∧ b = 0 ∧ c = 0 ∧ i = 0) ∧ bb = false) ∨ (opnC p = 0 ∧ badR p.length (pb p) o a b c i bb)) ∧ Ext h.size h h') := by
  have hl_vp := ht_vp.1
  refine fx_intro (n := 26) [(0, vp)] Try.func33 rfl rfl (by simp) ⟨rfl, trivial⟩ fun g0 => ?_
  refine wi_seq <| wi_reg rfl <| lx_alloc rfl rfl Try.zeroValue48 (fun _ _ _ => trivial) fun bn1 h1 hbn1 hbk1 hx1 hsz1 => ?_
  have hbb1 : h.size ≤ bn1 := by have := (Nat.le_refl h.size); omega
  have hbk1 : Blk h1 bn1 #[.int .i64 0, .int .i64 0, .int .i64 0, .int .i64 0, .int .i64 0] 48 := hbk1
  refine lx_assign (.bool false) rfl rfl <| lx_assign (.int .i64 0) rfl rfl <| lx_nil <| wi_seq <| wi_reg rfl <| lx_move (vp) rfl rfl <| lx_call [vp] rfl rfl Try.call92 rfl (open_spec h1 vp hs p (hr_vp.extS hx1) (ht_vp.extS hx1) (by omega) (by first | with_reducible assumption | omega)) (fun _ _ _ => trivial) ?_
  rintro _ h2 ⟨vj, vm, hj, hm, rj, rm, rfl, ho1, hot1, ho2, hot2, hop, hx2⟩
  have hx0_1 := hx1.trans2 hx2 hx1.size
  have hb1 := hbk1.extS hx2
  have ho3 := ho1.base hx1.size
  have hot3 := hot1.base hx1.size
  have hl_hot3 := hot3.1
  have ho4 := ho2.base hx1.size
  have hot4 := hot2.base hx1.size
  have hl_hot4 := hot4.1
  refine lx_move (.tuple #[.agg #[vj, vm], .int .i64 (opnC p)]) rfl rfl <| lx_extract (.agg #[vj, vm]) rfl rfl rfl <| lx_extract (.int .i64 (opnC p)) rfl rfl rfl <| lx_alloc rfl rfl Try.zeroValue119 (fun _ _ _ => trivial) fun bn2 h3 hbn2 hbk2 hx3 hsz2 => ?_
  have hbb2 : h.size ≤ bn2 := by have := hx0_1.size; omega
  have hne1 : bn2 ≠ bn1 := by have := hb1.lt; omega
  have hdj1 : Value.ownBlock vj ≠ some bn2 := by intro e; have := (ho3.lt e).2; omega
  have hnb1 : Nbt hj bn2 := nbt_new hot3 (by omega)
  have hdj2 : Value.ownBlock vm ≠ some bn2 := by intro e; have := (ho4.lt e).2; omega
  have hnb2 : Nbt hm bn2 := nbt_new hot4 (by omega)
  have hx0_2 := hx0_1.trans2 hx3 hx0_1.size
  have ho5 := ho3.extS hx3
  have hot5 := hot3.extS hx3
  have ho6 := ho4.extS hx3
  have hot6 := hot4.extS hx3
  have hb2 := hb1.extS hx3
  have hbk2 : Blk h3 bn2 #[.slice none 0 0, .slice none 0 0] 119 := hbk2
  refine lx_stBA (#[vj, vm]) rfl rfl Try.sizeOf119 hbk2 rfl rfl rfl rfl (one2 (sl_one ho5.rd) (sl_one ho6.rd)) (fun _ _ _ _ => trivial) fun h4 hbk3 hc1 => ?_
  have hx0_3 := hx0_2.trans (hc1.ext hbb2)
  have ho7 := hc1.owE ho5 hdj1
  have hot7 := hot5.chgB hc1 hnb1
  have ho8 := hc1.owE ho6 hdj2
  have hot8 := hot6.chgB hc1 hnb2
  have hb3 := hc1.blk hb2 (Ne.symm hne1)
  refine lx_assign (.int .i64 (opnC p)) rfl rfl <| lx_nil <| wi_seq <| wi_seq <| wi_reg rfl <| lx_move (.int .i64 (opnC p)) rfl rfl <| lx_neqS rfl rfl rfl (fun c1 => ?_) (fun c1 => ?_)
  · refine lx_nil <| wi_true rfl <| wi_seq <| wi_reg rfl <| lx_build (.agg #[.int .i64 0, .int .i64 0, .int .i64 0, .int .i64 0, .int .i64 0]) [] rfl rfl (fun w => bld5z Try.underlying48 Try.zeroValue48 Try.sizeOf3 w) <| lx_move (.int .i64 (opnC p)) rfl rfl <| lx_stBA (#[.int .i64 0, .int .i64 0, .int .i64 0, .int .i64 0, .int .i64 0]) rfl rfl Try.sizeOf48 hb3 rfl rfl rfl rfl (by simp [Value.oneCell']) (fun _ _ _ _ => trivial) fun h5 hbk4 hc2 => ?_
    have hx0_4 := hx0_3.trans (hc2.ext hbb1)
    have ho9 := hc2.owE ho7 (nb_new hbk1 ho1)
    have hot9 := hot7.chgB hc2 (nbt_ty hot7 hb3 (by decide))
    have ho10 := hc2.owE ho8 (nb_new hbk1 ho2)
    have hot10 := hot8.chgB hc2 (nbt_ty hot8 hb3 (by decide))
    have hb4 := hc2.blk hbk3 hne1
    refine lx_assign (.bool false) rfl rfl <| lx_assign (.int .i64 (opnC p)) rfl rfl <| lx_nil <| ?_
    -- R1
    refine wi_ret ⟨.tuple #[.agg #[.int .i64 0, .int .i64 0, .int .i64 0, .int .i64 0, .int .i64 0], .bool false, .int .i64 (opnC p)], (res_cell3 rfl rfl hbk4 wd48 rfl rfl rfl), ⟨0, 0, 0, 0, 0, false, ?_, ?_, hx0_4⟩⟩
    · first | rfl | (simp; done) | (simp; omega)
    · exact .inl ⟨by omega, ⟨rfl, rfl, rfl, rfl, rfl⟩, rfl⟩
  · refine lx_nil <| wi_false rfl <| wi_skip <| wi_seq <| wi_reg rfl <| ?_
    have hz := opnC_zero (p := p) (by omega)
    have hok := chkT_ok (p := p) hz.1
    have hp12 : p.length ≤ 12 := hok.2.1
    have hpq : Sq p p.length := isT_sq hok.2.2
    have hio := isT_o hok.2.2
    have hng : noGap p.length (pb p) := ngB_iff.1 hz.2
    obtain ⟨hrj, hrm⟩ : rj = tabI p.length (joinF p.length (pb p)) ∧ rm = tabI p.length (meetF p.length (pb p)) := opnP_ok hop (by omega)
    refine lx_ldBA rfl rfl wd119 hbk3 rfl rfl <| lx_move (vp) rfl rfl <| lx_call [.agg #[vj, vm], vp] rfl rfl Try.call94 rfl (bad_spec h4 vp hs p vj hj rj vm hm rm ho7.rd hot7.rt ho8.rd hot8.rt (hr_vp.extS hx0_3) (ht_vp.extS hx0_3) (by omega) (by first | with_reducible assumption | omega) hio hng hrj hrm) (fun _ _ _ => trivial) ?_
    rintro _ h6 ⟨xo, xa, xb, xc, xi, xbb, rfl, hxb, hx4⟩
    have hx0_5 := hx0_3.trans2 hx4 hx0_3.size
    have ho11 := ho7.extS hx4
    have hot11 := hot7.extS hx4
    have ho12 := ho8.extS hx4
    have hot12 := hot8.extS hx4
    have hb5 := hb3.extS hx4
    have hb6 := hbk3.extS hx4
    refine lx_move (.tuple #[.agg #[.int .i64 ((xo : Nat) : Int), .int .i64 ((xa : Nat) : Int), .int .i64 ((xb : Nat) : Int), .int .i64 ((xc : Nat) : Int), .int .i64 ((xi : Nat) : Int)], .bool xbb]) rfl rfl <| lx_extract (.agg #[.int .i64 ((xo : Nat) : Int), .int .i64 ((xa : Nat) : Int), .int .i64 ((xb : Nat) : Int), .int .i64 ((xc : Nat) : Int), .int .i64 ((xi : Nat) : Int)]) rfl rfl rfl <| lx_extract (.bool xbb) rfl rfl rfl <| lx_alloc rfl rfl Try.zeroValue48 (fun _ _ _ => trivial) fun bn3 h7 hbn3 hbk5 hx5 hsz3 => ?_
    have hbb3 : h.size ≤ bn3 := by have := hx0_5.size; omega
    have hne2 : bn3 ≠ bn1 := by have := hb5.lt; omega
    have hne3 : bn3 ≠ bn2 := by have := hb6.lt; omega
    have hdj3 : Value.ownBlock vj ≠ some bn3 := by intro e; have := (ho11.lt e).2; omega
    have hnb3 : Nbt hj bn3 := nbt_new hot11 (by omega)
    have hdj4 : Value.ownBlock vm ≠ some bn3 := by intro e; have := (ho12.lt e).2; omega
    have hnb4 : Nbt hm bn3 := nbt_new hot12 (by omega)
    have hx0_6 := hx0_5.trans2 hx5 hx0_5.size
    have ho13 := ho11.extS hx5
    have hot13 := hot11.extS hx5
    have ho14 := ho12.extS hx5
    have hot14 := hot12.extS hx5
    have hb7 := hb5.extS hx5
    have hb8 := hb6.extS hx5
    have hbk5 : Blk h7 bn3 #[.int .i64 0, .int .i64 0, .int .i64 0, .int .i64 0, .int .i64 0] 48 := hbk5
    refine lx_stBA (#[.int .i64 ((xo : Nat) : Int), .int .i64 ((xa : Nat) : Int), .int .i64 ((xb : Nat) : Int), .int .i64 ((xc : Nat) : Int), .int .i64 ((xi : Nat) : Int)]) rfl rfl Try.sizeOf48 hbk5 rfl rfl rfl rfl (by simp [Value.oneCell']) (fun _ _ _ _ => trivial) fun h8 hbk6 hc3 => ?_
    have hx0_7 := hx0_6.trans (hc3.ext hbb3)
    have ho15 := hc3.owE ho13 hdj3
    have hot15 := hot13.chgB hc3 hnb3
    have ho16 := hc3.owE ho14 hdj4
    have hot16 := hot14.chgB hc3 hnb4
    have hb9 := hc3.blk hb7 (Ne.symm hne2)
    have hb10 := hc3.blk hb8 (Ne.symm hne3)
    refine lx_assign (.bool xbb) rfl rfl <| lx_nil <| wi_seq <| wi_reg rfl <| lx_ldBA rfl rfl wd48 hbk6 rfl rfl <| lx_move (.bool xbb) rfl rfl <| lx_stBA (#[.int .i64 ((xo : Nat) : Int), .int .i64 ((xa : Nat) : Int), .int .i64 ((xb : Nat) : Int), .int .i64 ((xc : Nat) : Int), .int .i64 ((xi : Nat) : Int)]) rfl rfl Try.sizeOf48 hb9 rfl rfl rfl rfl (by simp [Value.oneCell']) (fun _ _ _ _ => trivial) fun h9 hbk7 hc4 => ?_
    have hx0_8 := hx0_7.trans (hc4.ext hbb1)
    have ho17 := hc4.owE ho15 (nb_new hbk1 ho1)
    have hot17 := hot15.chgB hc4 (nbt_ty hot15 hb9 (by decide))
    have ho18 := hc4.owE ho16 (nb_new hbk1 ho2)
    have hot18 := hot16.chgB hc4 (nbt_ty hot16 hb9 (by decide))
    have hb11 := hc4.blk hb10 hne1
    have hb12 := hc4.blk hbk6 hne2
    refine lx_assign (.bool xbb) rfl rfl <| lx_assign (.int .i64 0) rfl rfl <| lx_nil <| ?_
    -- R2
    refine wi_ret ⟨.tuple #[.agg #[.int .i64 ((xo : Nat) : Int), .int .i64 ((xa : Nat) : Int), .int .i64 ((xb : Nat) : Int), .int .i64 ((xc : Nat) : Int), .int .i64 ((xi : Nat) : Int)], .bool xbb, .int .i64 0], (res_cell3 rfl rfl hbk7 wd48 rfl rfl rfl), ⟨xo, xa, xb, xc, xi, xbb, ?_, ?_, hx0_8⟩⟩
    · rw [show opnC p = 0 from by omega]
    · exact .inr ⟨by omega, hxb⟩

abbrev inR (n : Nat) (x : Int) : Prop := 0 ≤ x ∧ x < n
theorem min5 {a b c d e : Int} (h : 0 ≤ Lib.minOf [a, b, c, d, e]) : 0 ≤ a ∧ 0 ≤ b ∧ 0 ≤ c ∧ 0 ≤ d ∧ 0 ≤ e := by
  have h1 : Lib.minOf [a, b, c, d, e] = min (min (min (min (min a a) b) c) d) e := rfl
  rw [h1] at h
  omega
theorem max5 {a b c d e n : Int} (h : Lib.maxOf [a, b, c, d, e] < n) : a < n ∧ b < n ∧ c < n ∧ d < n ∧ e < n := by
  have h1 : Lib.maxOf [a, b, c, d, e] = max (max (max (max (max a a) b) c) d) e := rfl
  rw [h1] at h
  omega
theorem min5' {a b c d e : Int} (h : ¬ 0 ≤ Lib.minOf [a, b, c, d, e]) : ¬ (0 ≤ a ∧ 0 ≤ b ∧ 0 ≤ c ∧ 0 ≤ d ∧ 0 ≤ e) := by
  have h1 : Lib.minOf [a, b, c, d, e] = min (min (min (min (min a a) b) c) d) e := rfl
  rw [h1] at h
  omega
theorem max5' {a b c d e n : Int} (h : ¬ Lib.maxOf [a, b, c, d, e] < n) : ¬ (a < n ∧ b < n ∧ c < n ∧ d < n ∧ e < n) := by
  have h1 : Lib.maxOf [a, b, c, d, e] = max (max (max (max (max a a) b) c) d) e := rfl
  rw [h1] at h
  omega
/-- Whether an order is a lattice and these are a bad five. -/
abbrev badZ (p : List (List Bool)) (o a b c i : Int) : Prop := opnC p = 0 ∧ (inR p.length o ∧ inR p.length a ∧ inR p.length b ∧ inR p.length c ∧ inR p.length i) ∧ badP p.length (pb p) o.toNat a.toNat b.toNat c.toNat i.toNat
set_option maxRecDepth 10000 in
theorem oisBad_spec (h : Heap) (vp : Value) (hs : List Hdr) (p : List (List Bool)) (o : Int) (a : Int) (b : Int) (c : Int) (i : Int) (hr_vp : RdE encHd h vp hs) (ht_vp : RT encB h hs p) (hp1 : p.length ≤ 1000000) (hp2 : ∀ i, i < p.length → (gt p i).length ≤ 1000000) : Fx Try.prog 36 [vp, .agg #[.int .i64 o, .int .i64 a, .int .i64 b, .int .i64 c, .int .i64 i]] h (fun v h' => v = .bool (decide (badZ p o a b c i)) ∧ Ext h.size h h') := by
  have hl_vp := ht_vp.1
  refine fx_intro (n := 32) [(0, vp), (1, .agg #[.int .i64 o, .int .i64 a, .int .i64 b, .int .i64 c, .int .i64 i])] Try.func36 rfl rfl (by simp) ⟨rfl, rfl, trivial⟩ fun g0 => ?_
  refine wi_seq <| wi_reg rfl <| lx_box #[.int .i64 o, .int .i64 a, .int .i64 b, .int .i64 c, .int .i64 i] rfl rfl rfl (fun _ _ _ => trivial) fun bn1 h1 hbn1 hbk1 hx1 hsz1 => ?_
  have hbb1 : h.size ≤ bn1 := by have := (Nat.le_refl h.size); omega
  refine lx_assign (.bool false) rfl rfl <| lx_nil <| wi_seq <| wi_reg rfl <| lx_move (vp) rfl rfl <| lx_call [vp] rfl rfl Try.call92 rfl (open_spec h1 vp hs p (hr_vp.extS hx1) (ht_vp.extS hx1) (by omega) (by first | with_reducible assumption | omega)) (fun _ _ _ => trivial) ?_
  rintro _ h2 ⟨vj, vm, hj, hm, rj, rm, rfl, ho1, hot1, ho2, hot2, hop, hx2⟩
  have hx0_1 := hx1.trans2 hx2 hx1.size
  have hb1 := hbk1.extS hx2
  have ho3 := ho1.base hx1.size
  have hot3 := hot1.base hx1.size
  have hl_hot3 := hot3.1
  have ho4 := ho2.base hx1.size
  have hot4 := hot2.base hx1.size
  have hl_hot4 := hot4.1
  refine lx_move (.tuple #[.agg #[vj, vm], .int .i64 (opnC p)]) rfl rfl <| lx_extract (.agg #[vj, vm]) rfl rfl rfl <| lx_extract (.int .i64 (opnC p)) rfl rfl rfl <| lx_alloc rfl rfl Try.zeroValue119 (fun _ _ _ => trivial) fun bn2 h3 hbn2 hbk2 hx3 hsz2 => ?_
  have hbb2 : h.size ≤ bn2 := by have := hx0_1.size; omega
  have hne1 : bn2 ≠ bn1 := by have := hb1.lt; omega
  have hdj1 : Value.ownBlock vj ≠ some bn2 := by intro e; have := (ho3.lt e).2; omega
  have hnb1 : Nbt hj bn2 := nbt_new hot3 (by omega)
  have hdj2 : Value.ownBlock vm ≠ some bn2 := by intro e; have := (ho4.lt e).2; omega
  have hnb2 : Nbt hm bn2 := nbt_new hot4 (by omega)
  have hx0_2 := hx0_1.trans2 hx3 hx0_1.size
  have ho5 := ho3.extS hx3
  have hot5 := hot3.extS hx3
  have ho6 := ho4.extS hx3
  have hot6 := hot4.extS hx3
  have hb2 := hb1.extS hx3
  have hbk2 : Blk h3 bn2 #[.slice none 0 0, .slice none 0 0] 119 := hbk2
  refine lx_stBA (#[vj, vm]) rfl rfl Try.sizeOf119 hbk2 rfl rfl rfl rfl (one2 (sl_one ho5.rd) (sl_one ho6.rd)) (fun _ _ _ _ => trivial) fun h4 hbk3 hc1 => ?_
  have hx0_3 := hx0_2.trans (hc1.ext hbb2)
  have ho7 := hc1.owE ho5 hdj1
  have hot7 := hot5.chgB hc1 hnb1
  have ho8 := hc1.owE ho6 hdj2
  have hot8 := hot6.chgB hc1 hnb2
  have hb3 := hc1.blk hb2 (Ne.symm hne1)
  refine lx_assign (.int .i64 (opnC p)) rfl rfl <| lx_nil <| wi_seq <| wi_reg rfl <| lx_move (.int .i64 (opnC p)) rfl rfl <| lx_eqlS rfl rfl rfl (fun c1 => ?_) (fun c1 => ?_)
  · refine lx_move (.bool true) rfl rfl <| lx_sliceA rfl Try.underlying48 Try.sizeOf3 rfl <| ?_
    have ho9 : OwE encI h4 h.size 48 (.slice (some ⟨bn1, 0, none⟩) 5 5) ([o, a, b, c, i]) := own_of_blk (xs := [o, a, b, c, i]) hb3 hbb1 (by simp)
    have hr1 := ho9.rd
    refine lx_call [(.slice (some ⟨bn1, 0, none⟩) 5 5)] rfl rfl Try.call97 rfl (lmin_spec h4 ((.slice (some ⟨bn1, 0, none⟩) 5 5)) ([o, a, b, c, i]) hr1 (by simp) (by simp)) (fun _ _ _ => trivial) ?_
    rintro _ h5 ⟨rfl, rfl⟩
    refine lx_geqS rfl rfl rfl (fun c2 => ?_) (fun c2 => ?_)
    · refine lx_pick true (.bool true) rfl rfl rfl <| lx_move (.bool true) rfl rfl <| lx_sliceA rfl Try.underlying48 Try.sizeOf3 rfl <| ?_
      have ho10 : OwE encI h4 h.size 48 (.slice (some ⟨bn1, 0, none⟩) 5 5) ([o, a, b, c, i]) := own_of_blk (xs := [o, a, b, c, i]) hb3 hbb1 (by simp)
      have hr2 := ho10.rd
      refine lx_call [(.slice (some ⟨bn1, 0, none⟩) 5 5)] rfl rfl Try.call98 rfl (lmax_spec h4 ((.slice (some ⟨bn1, 0, none⟩) 5 5)) ([o, a, b, c, i]) hr2 (by simp) (by simp)) (fun _ _ _ => trivial) ?_
      rintro _ h6 ⟨rfl, rfl⟩
      refine lx_move (vp) rfl rfl <| lx_len rfl Try.underlying29 hr_vp rfl <| lx_lssS rfl rfl rfl (fun c3 => ?_) (fun c3 => ?_)
      · refine lx_pick true (.bool true) rfl rfl rfl <| lx_move (.bool true) rfl rfl <| ?_
        have hz := opnC_zero (p := p) (by omega)
        have hok := chkT_ok (p := p) hz.1
        have hp12 : p.length ≤ 12 := hok.2.1
        have hpq : Sq p p.length := isT_sq hok.2.2
        have hio := isT_o hok.2.2
        have hng : noGap p.length (pb p) := ngB_iff.1 hz.2
        obtain ⟨hrj, hrm⟩ : rj = tabI p.length (joinF p.length (pb p)) ∧ rm = tabI p.length (meetF p.length (pb p)) := opnP_ok hop (by omega)
        obtain ⟨hm1, hm2, hm3, hm4, hm5⟩ := min5 (by assumption)
        obtain ⟨hq1, hq2, hq3, hq4, hq5⟩ := max5 (by assumption)
        obtain ⟨on, rfl⟩ : ∃ on : Nat, o = ((on : Nat) : Int) := ⟨o.toNat, by omega⟩
        obtain ⟨an, rfl⟩ : ∃ an : Nat, a = ((an : Nat) : Int) := ⟨a.toNat, by omega⟩
        obtain ⟨bn, rfl⟩ : ∃ bn : Nat, b = ((bn : Nat) : Int) := ⟨b.toNat, by omega⟩
        obtain ⟨cn, rfl⟩ : ∃ cn : Nat, c = ((cn : Nat) : Int) := ⟨c.toNat, by omega⟩
        obtain ⟨xn, rfl⟩ : ∃ xn : Nat, i = ((xn : Nat) : Int) := ⟨i.toNat, by omega⟩
        refine lx_ldBA rfl rfl wd119 hbk3 rfl rfl <| lx_move (vp) rfl rfl <| lx_ldBA rfl rfl wd48 hb3 rfl rfl <| lx_call [.agg #[vj, vm], vp, .agg #[.int .i64 ((on : Nat) : Int), .int .i64 ((an : Nat) : Int), .int .i64 ((bn : Nat) : Int), .int .i64 ((cn : Nat) : Int), .int .i64 ((xn : Nat) : Int)]] rfl rfl Try.call99 rfl (isBad_spec h4 vp hs p on an bn cn xn vj hj rj vm hm rm ho7.rd hot7.rt ho8.rd hot8.rt (hr_vp.extS hx0_3) (ht_vp.extS hx0_3) (by omega) (by first | with_reducible assumption | omega) hio hng hrj hrm (by omega) (by omega) (by omega) (by omega) (by omega)) (fun _ _ _ => trivial) ?_
        rintro _ h7 ⟨rfl, hx4⟩
        have hx0_4 := hx0_3.trans2 hx4 hx0_3.size
        have ho11 := ho7.extS hx4
        have hot9 := hot7.extS hx4
        have ho12 := ho8.extS hx4
        have hot10 := hot8.extS hx4
        have hb4 := hb3.extS hx4
        have hb5 := hbk3.extS hx4
        have hxr1 := (Ext.refl h4.size h4).trans2 hx4 (Ext.refl h4.size h4).size
        refine lx_pick true (.bool (decide (badP p.length (pb p) on an bn cn xn))) rfl rfl rfl <| lx_assign (.bool (decide (badP p.length (pb p) on an bn cn xn))) rfl rfl <| lx_nil <| ?_
        -- R1
        refine wi_ret ⟨.bool (decide (badP p.length (pb p) on an bn cn xn)), (res_one rfl rfl), ⟨?_, hx0_4⟩⟩
        · congr 1
          rw [Bool.eq_iff_iff, decide_eq_true_iff, decide_eq_true_iff]
          exact ⟨fun h => ⟨by omega, ⟨⟨by omega, by omega⟩, ⟨by omega, by omega⟩, ⟨by omega, by omega⟩, ⟨by omega, by omega⟩, ⟨by omega, by omega⟩⟩, h⟩, fun h => h.2.2⟩
      · refine lx_pick true (.bool false) rfl rfl rfl <| lx_move (.bool false) rfl rfl <| ?_
        refine lx_skip rfl <| lx_skip rfl <| lx_skip rfl <| lx_skip rfl <| lx_pick false (.bool false) rfl rfl rfl <| lx_assign (.bool false) rfl rfl <| lx_nil <| ?_
        -- R2
        refine wi_ret ⟨.bool false, (res_one rfl rfl), ⟨?_, hx0_3⟩⟩
        · congr 1; exact (decide_eq_false fun hz => by obtain ⟨_, ⟨⟨_, h1⟩, ⟨_, h2⟩, ⟨_, h3⟩, ⟨_, h4⟩, ⟨_, h5⟩⟩, _⟩ := hz; exact max5' (by rw [← hl_vp]; assumption) ⟨h1, h2, h3, h4, h5⟩).symm
    · refine lx_pick true (.bool false) rfl rfl rfl <| lx_move (.bool false) rfl rfl <| lx_skip rfl <| lx_skip rfl <| lx_skip rfl <| lx_skip rfl <| lx_skip rfl <| lx_pick false (.bool false) rfl rfl rfl <| lx_move (.bool false) rfl rfl <| ?_
      refine lx_skip rfl <| lx_skip rfl <| lx_skip rfl <| lx_skip rfl <| lx_pick false (.bool false) rfl rfl rfl <| lx_assign (.bool false) rfl rfl <| lx_nil <| ?_
      -- R3
      refine wi_ret ⟨.bool false, (res_one rfl rfl), ⟨?_, hx0_3⟩⟩
      · congr 1; exact (decide_eq_false fun hz => by obtain ⟨_, ⟨⟨h1, _⟩, ⟨h2, _⟩, ⟨h3, _⟩, ⟨h4, _⟩, ⟨h5, _⟩⟩, _⟩ := hz; exact min5' (by assumption) ⟨h1, h2, h3, h4, h5⟩).symm
  · refine lx_move (.bool false) rfl rfl <| lx_skip rfl <| lx_skip rfl <| lx_skip rfl <| lx_pick false (.bool false) rfl rfl rfl <| lx_move (.bool false) rfl rfl <| lx_skip rfl <| lx_skip rfl <| lx_skip rfl <| lx_skip rfl <| lx_skip rfl <| lx_pick false (.bool false) rfl rfl rfl <| lx_move (.bool false) rfl rfl <| ?_
    refine lx_skip rfl <| lx_skip rfl <| lx_skip rfl <| lx_skip rfl <| lx_pick false (.bool false) rfl rfl rfl <| lx_assign (.bool false) rfl rfl <| lx_nil <| ?_
    -- R4
    refine wi_ret ⟨.bool false, (res_one rfl rfl), ⟨?_, hx0_3⟩⟩
    · congr 1; exact (decide_eq_false fun hz => absurd hz.1 (by omega)).symm

end Go.Proofs.Ytdokijbdnajhgaa
namespace Go.Proofs.Ytdokijbdnajhgaa
open Go Go.X

set_option maxRecDepth 10000 in
theorem olinear_spec (h : Heap) (vp : Value) (hs : List Hdr) (p : List (List Bool)) (hr_vp : RdE encHd h vp hs) (ht_vp : RT encB h hs p) (hp1 : p.length ≤ 1000000) (hp2 : ∀ i, i < p.length → (gt p i).length ≤ 1000000) : Fx Try.prog 45 [vp] h (fun v h' => v = .tuple #[.int .i64 ((if chkT p = 0 then linN p.length (pb p) (2 ^ p.length - 1) else 0)), .int .i64 (chkT p)] ∧ Ext h.size h h') := by
  have hl_vp := ht_vp.1
  refine fx_intro (n := 64) [(0, vp)] Try.func45 rfl rfl (by simp) ⟨rfl, trivial⟩ fun g0 => ?_
  refine wi_seq <| wi_reg rfl <| lx_assign (.int .i64 0) rfl rfl <| lx_assign (.int .i64 0) rfl rfl <| lx_nil <| wi_seq <| wi_seq <| wi_reg rfl <| lx_move (vp) rfl rfl <| lx_call [vp] rfl rfl Try.call62 rfl (ocheck_spec h vp hs p hr_vp ht_vp (by omega) (by first | with_reducible assumption | omega)) (fun _ _ _ => trivial) ?_
  rintro _ h1 ⟨rfl, hx1⟩
  refine lx_assign (.int .i64 (chkT p)) rfl rfl <| lx_nil <| wi_seq <| wi_reg rfl <| lx_move (.int .i64 (chkT p)) rfl rfl <| lx_neqS rfl rfl rfl (fun c1 => ?_) (fun c1 => ?_)
  · refine lx_nil <| wi_true rfl <| wi_seq <| wi_reg rfl <| lx_move (.int .i64 (chkT p)) rfl rfl <| lx_assign (.int .i64 0) rfl rfl <| lx_assign (.int .i64 (chkT p)) rfl rfl <| lx_nil <| ?_
    -- R1
    refine wi_ret ⟨.tuple #[.int .i64 0, .int .i64 (chkT p)], (res_two rfl rfl rfl), ⟨?_, hx1⟩⟩
    · rw [if_neg (by omega)]
  · refine lx_nil <| wi_false rfl <| wi_skip <| wi_seq <| wi_reg rfl <| ?_
    have hok := chkT_ok (p := p) (by omega)
    have hp12 : p.length ≤ 12 := hok.2.1
    have hpq : Sq p p.length := isT_sq hok.2.2
    have hio := isT_o hok.2.2
    have hpw := pow12 hp12
    have hp0 : 1 ≤ p.length := hok.1
    refine lx_makeMap rfl rfl (fun _ _ _ => trivial) fun l1 h2 hl1 hmp1 hx2 => ?_
    have hbb1 : h.size ≤ l1 := by have := hx1.size; omega
    have hx0_1 := hx1.trans2 hx2 hx1.size
    refine lx_insert ((0 : Int)) (.int .i64 1) rfl rfl Try.underlying129 Try.underlying3 hmp1 rfl rfl rfl (fun _ _ => trivial) fun h3 hmp2 hc1 => ?_
    have hx0_2 := hx0_1.trans (hc1.ext hbb1)
    refine lx_move (.map (some l1)) rfl rfl <| lx_assign (.map (some l1)) rfl rfl <| lx_nil <| wi_seq <| wi_seq <| wi_reg rfl <| ?_
    have hidl : (idealsF p.length (pb p)).length ≤ 2 ^ p.length := filtF_length _ _
    have hF0 : MpF (putM [] 0 (.int .i64 1)) (cntF p.length (pb p) 0) := (mpF_nil.put 0 1).congr fun k => cnt_start _ _ k
    refine lx_move (vp) rfl rfl <| lx_call [vp] rfl rfl Try.call76 rfl (ideals_spec h3 vp hs p (hr_vp.extS hx0_2) (ht_vp.extS hx0_2) (by omega) (by first | with_reducible assumption | omega)) (fun _ _ _ => trivial) ?_
    rintro v1 h4 ⟨_, rfl, ho1, hx3⟩
    have hmp3 := hmp2.extS hx3
    have hx0_3 := hx0_2.trans2 hx3 hx0_2.size
    have ho2 := ho1.base hx0_2.size
    refine lx_len rfl Try.underlying25 ho2.rd rfl <| lx_move (.int .i64 0) rfl rfl <| lx_nil <| wi_block <| ?_
    refine wi_loop (σ := Nat × (List (Int × Value))) (rngB 19 57 [7, 8]) (fun (ss : Nat × (List (Int × Value))) => [(19, .int .i64 ((ss.1 : Nat) : Int))]) (fun (ss : Nat × (List (Int × Value))) (hh : Heap) => MpO hh l1 ss.2 ∧ OwE encI hh h.size 3 v1 ((idealsF p.length (pb p))) ∧ Ext h.size h hh ∧ (ss.1 ≤ (idealsF p.length (pb p)).length) ∧ (MpF ss.2 (cntF p.length (pb p) ss.1))) (fun (ss : Nat × (List (Int × Value))) => (idealsF p.length (pb p)).length - ss.1) (0, putM [] 0 (.int .i64 1)) ⟨rfl, trivial⟩ ⟨?_, ?_, hx0_3, ?_, ?_⟩ ?_
    · exact hmp3
    · first | exact ho2 | (simpa using ho2)
    · try dsimp only
      omega
    · try dsimp only
      exact hF0
    rintro g1 ⟨i, ms⟩ hh1 ⟨hmp4, ho3, hx0_4, hi, hF⟩ IH1
    dsimp only at *
    refine wi_seq <| wi_reg rfl <| lx_lssS rfl rfl rfl (fun c2 => ?_) (fun c2 => ?_)
    · refine lx_nil <| wi_seq <| wi_true rfl <| wi_skip <| wi_seq <| wi_block <| wi_seq <| wi_reg rfl <| ?_
      have hil : i < (idealsF p.length (pb p)).length := by omega
      obtain ⟨s, hgs, hs4, _⟩ := filtF_gt (N := 2 ^ p.length) (f := idlB p.length (pb p)) (i := i) hil
      refine lx_ix (i := i) rfl eT25 ho3.rd rfl rfl (by omega) <| lx_ld (i := i) (j := 0) (.int .i64 ((s : Nat) : Int)) rfl rfl fl3 ho3.rd (by omega) (by show some (Value.int .i64 (gt (idealsF p.length (pb p)) i)) = _; exact congrArg (fun z => some (Value.int .i64 z)) hgs) rfl <| lx_assign (.int .i64 ((s : Nat) : Int)) rfl rfl <| lx_nil <| wi_seq <| wi_reg rfl <| lx_move (vp) rfl rfl <| lx_len rfl Try.underlying29 hr_vp rfl <| lx_move (.int .i64 0) rfl rfl <| lx_nil <| wi_block <| ?_
      refine wi_loop (σ := Nat × (List (Int × Value))) (rngB 25 56 [8]) (fun (ss : Nat × (List (Int × Value))) => [(25, .int .i64 ((ss.1 : Nat) : Int))]) (fun (ss : Nat × (List (Int × Value))) (hh : Heap) => MpO hh l1 ss.2 ∧ OwE encI hh h.size 3 v1 ((idealsF p.length (pb p))) ∧ Ext h.size h hh ∧ (ss.1 ≤ p.length) ∧ (MpF ss.2 (cntG p.length (pb p) i s ss.1))) (fun (ss : Nat × (List (Int × Value))) => p.length - ss.1) (0, ms) ⟨rfl, trivial⟩ ⟨?_, ?_, hx0_4, ?_, ?_⟩ ?_
      · exact hmp4
      · first | exact ho3 | (simpa using ho3)
      · try dsimp only
        omega
      · try dsimp only
        exact hF.congr fun k => cntG_zero hil hgs k
      rintro g2 ⟨x, ms⟩ hh2 ⟨hmp5, ho4, hx0_5, hx, hG⟩ IH2
      dsimp only at *
      refine wi_seq <| wi_reg rfl <| lx_lssS rfl rfl rfl (fun c3 => ?_) (fun c3 => ?_)
      · refine lx_nil <| wi_seq <| wi_true rfl <| wi_skip <| wi_seq <| wi_block <| wi_seq <| wi_reg rfl <| lx_move (.int .i64 ((x : Nat) : Int)) rfl rfl <| lx_assign (.int .i64 ((x : Nat) : Int)) rfl rfl <| lx_nil <| wi_seq <| wi_reg rfl <| ?_
        have hdv := Nat.div_le_self s (2 ^ x)
        have hul := upF_lt p.length (pb p) x
        have hal : upF p.length (pb p) x &&& s ≤ s := Nat.and_le_right
        have hbl : s / 2 ^ x &&& 1 ≤ 1 := Nat.and_le_right
        refine lx_move (.int .i64 ((s : Nat) : Int)) rfl rfl <| lx_move (.int .i64 ((x : Nat) : Int)) rfl rfl <| lx_conv ((x : Nat) : Int) rfl Try.underlying3 Try.underlying45 rfl (wrap_u64 (by omega) (by omega)) <| lx_shr (m := s) (n := x) rfl rfl rfl (by show _ ≤ 64; omega) <| lx_and (m := s / 2 ^ x) (n := 1) rfl rfl rfl (by show _ < 2 ^ 64; omega) (by show _ < 2 ^ 64; omega) (wrap_i64 (by omega) (by omega)) <| lx_eqlS rfl rfl rfl (fun c4 => ?_) (fun c4 => ?_)
        · refine lx_move (.bool true) rfl rfl <| lx_move (vp) rfl rfl <| lx_move (.int .i64 ((x : Nat) : Int)) rfl rfl <| lx_call [vp, .int .i64 ((x : Nat) : Int)] rfl rfl Try.call80 rfl (up_spec hh2 vp hs p x (hr_vp.extS hx0_5) (ht_vp.extS hx0_5) (by omega) (by first | with_reducible assumption | omega) (by omega)) (fun _ _ _ => trivial) ?_
          rintro _ h5 ⟨rfl, rfl⟩
          refine lx_move (.int .i64 ((s : Nat) : Int)) rfl rfl <| lx_and (m := upF p.length (pb p) x) (n := s) rfl rfl rfl (by show _ < 2 ^ 64; omega) (by show _ < 2 ^ 64; omega) (wrap_i64 (by omega) (by omega)) <| lx_conv (((upF p.length (pb p) x) &&& s : Nat) : Int) rfl Try.underlying3 Try.underlying45 rfl (wrap_u64 (by omega) (by omega)) <| lx_call [.int .u64 (((upF p.length (pb p) x) &&& s : Nat) : Int)] rfl rfl Try.call104 rfl (ones_spec hh2 ((upF p.length (pb p) x) &&& s) (by omega)) (fun _ _ _ => trivial) ?_
          rintro _ h6 ⟨rfl, rfl⟩
          refine lx_eqlS rfl rfl rfl (fun c5 => ?_) (fun c5 => ?_)
          · refine lx_pick true (.bool true) rfl rfl rfl <| lx_nil <| wi_true rfl <| wi_reg rfl <| ?_
            have hlast : lastB p.length (pb p) s x = true := by
              unfold lastB; rw [bit_nz (by omega), decide_eq_true (by omega)]; rfl
            have hb1 := linS_bound (n := p.length) (f := pb p) (s := s) hp12 (x := x) (by omega)
            have hb2 := linN_bound (n := p.length) (f := pb p) (s := andNot s (2 ^ x)) hp12
            have hal2 := andNot_le s (1 * 2 ^ x)
            have hpx : 2 ^ x ≤ 4096 := pow12 (by omega)
            refine lx_move (.map (some l1)) rfl rfl <| lx_move (.int .i64 ((s : Nat) : Int)) rfl rfl <| lx_lookupF (((s : Nat) : Int)) (linS p.length (pb p) s x) rfl rfl Try.underlying129 Try.underlying3 Try.zeroValue2 hmp5 hG (cntG_self (last_nz hlast)) rfl rfl <| lx_move (.map (some l1)) rfl rfl <| lx_move (.int .i64 ((s : Nat) : Int)) rfl rfl <| lx_move (.int .i64 ((x : Nat) : Int)) rfl rfl <| lx_conv ((x : Nat) : Int) rfl Try.underlying3 Try.underlying45 rfl (wrap_u64 (by omega) (by omega)) <| lx_shl (m := 1) (n := x) rfl rfl rfl (by show _ ≤ 64; omega) (wrap_i64 (by omega) (by omega)) <| lx_andNot (m := s) (n := 1 * 2 ^ x) rfl rfl rfl (by show _ < 2 ^ 64; omega) (by show _ < 2 ^ 64; omega) (wrap_i64 (by omega) (by omega)) <| lx_lookupF (((andNot s (1 * 2 ^ x) : Nat) : Int)) (linN p.length (pb p) (andNot s (2 ^ x))) rfl rfl Try.underlying129 Try.underlying3 Try.zeroValue2 hmp5 hG (by rw [Nat.one_mul]; exact cntG_off hio hp12 hil hgs hlast) rfl rfl <| lx_add ((linS p.length (pb p) s x) + (linN p.length (pb p) (andNot s (2 ^ x)))) rfl rfl rfl (by omega) (by omega) (by omega) <| lx_mapUpdate (((s : Nat) : Int)) (.int .i64 ((linS p.length (pb p) s x) + (linN p.length (pb p) (andNot s (2 ^ x))))) rfl rfl Try.underlying129 Try.underlying3 hmp5 rfl rfl rfl (fun _ _ => trivial) fun h7 hmp6 hc2 => ?_
            have hx0_6 := hx0_5.trans (hc2.ext hbb1)
            have ho5 := hc2.owE ho4 (nb_map ho4 hmp5)
            refine lx_nil <| wi_inBlock <| wi_reg rfl <| lx_add (((x + 1 : Nat) : Int)) rfl rfl rfl (by omega) (by omega) (by omega) <| lx_move (.int .i64 ((x + 1 : Nat) : Int)) rfl rfl <| lx_nil <| ?_
            -- L2.1
            refine IH2 _ _ (x + 1, putM ms (((s : Nat) : Int)) (.int .i64 ((linS p.length (pb p) s x) + (linN p.length (pb p) (andNot s (2 ^ x)))))) (agree_ups rfl agree_self) ⟨rfl, trivial⟩ ⟨?_, ?_, hx0_6, ?_, ?_⟩ ?_
            · exact hmp6
            · first | exact ho5 | (simpa using ho5)
            · try dsimp only
              omega
            · try dsimp only
              exact (hG.put _ _).congr fun k => cntG_yes hlast k
            · first | omega | (dsimp only; omega)
          · refine lx_pick true (.bool false) rfl rfl rfl <| lx_nil <| wi_false rfl <| wi_skip <| wi_inBlock <| wi_reg rfl <| lx_add (((x + 1 : Nat) : Int)) rfl rfl rfl (by omega) (by omega) (by omega) <| lx_move (.int .i64 ((x + 1 : Nat) : Int)) rfl rfl <| lx_nil <| ?_
            -- L2.2
            refine IH2 _ _ (x + 1, ms) (agree_ups rfl agree_self) ⟨rfl, trivial⟩ ⟨?_, ?_, hx0_5, ?_, ?_⟩ ?_
            · exact hmp5
            · first | exact ho4 | (simpa using ho4)
            · try dsimp only
              omega
            · try dsimp only
              exact hG.congr fun k => cntG_no (by unfold lastB; rw [decide_eq_false (by omega), Bool.and_false]) k
            · first | omega | (dsimp only; omega)
        · refine lx_move (.bool false) rfl rfl <| lx_skip rfl <| lx_skip rfl <| lx_skip rfl <| lx_skip rfl <| lx_skip rfl <| lx_skip rfl <| lx_skip rfl <| lx_skip rfl <| lx_pick false (.bool false) rfl rfl rfl <| lx_nil <| wi_false rfl <| wi_skip <| wi_inBlock <| wi_reg rfl <| lx_add (((x + 1 : Nat) : Int)) rfl rfl rfl (by omega) (by omega) (by omega) <| lx_move (.int .i64 ((x + 1 : Nat) : Int)) rfl rfl <| lx_nil <| ?_
          -- L2.3
          refine IH2 _ _ (x + 1, ms) (agree_ups rfl agree_self) ⟨rfl, trivial⟩ ⟨?_, ?_, hx0_5, ?_, ?_⟩ ?_
          · exact hmp5
          · first | exact ho4 | (simpa using ho4)
          · try dsimp only
            omega
          · try dsimp only
            exact hG.congr fun k => cntG_no (by unfold lastB; rw [bit_zero.1 (by omega)]; rfl) k
          · first | omega | (dsimp only; omega)
      · refine lx_nil <| wi_seq <| wi_false rfl <| wi_exit rfl <| wi_inBlock <| wi_reg rfl <| lx_add (((i + 1 : Nat) : Int)) rfl rfl rfl (by omega) (by omega) (by omega) <| lx_move (.int .i64 ((i + 1 : Nat) : Int)) rfl rfl <| lx_nil <| ?_
        -- L0.1
        refine IH1 _ _ (i + 1, ms) (agree_ups rfl (agree_mix (rngB_sub (by decide) (by decide) rfl) (agree_ups rfl agree_self))) ⟨rfl, trivial⟩ ⟨?_, ?_, hx0_5, ?_, ?_⟩ ?_
        · exact hmp5
        · first | exact ho4 | (simpa using ho4)
        · try dsimp only
          omega
        · try dsimp only
          exact hG.congr fun k => by rw [show x = p.length from by omega]; exact cntG_end hp12 hil hgs k
        · first | omega | (dsimp only; omega)
    · refine lx_nil <| wi_seq <| wi_false rfl <| wi_exit rfl <| wi_seq <| wi_reg rfl <| ?_
      have hpe : 2 ^ hs.length = 2 ^ p.length := by rw [hl_vp]
      have hpp : 0 < 2 ^ p.length := Nat.pow_pos (by omega)
      refine lx_move (.map (some l1)) rfl rfl <| lx_move (vp) rfl rfl <| lx_len rfl Try.underlying29 hr_vp rfl <| lx_conv ((hs.length : Nat) : Int) rfl Try.underlying3 Try.underlying45 rfl (wrap_u64 (by omega) (by omega)) <| lx_shl (m := 1) (n := hs.length) rfl rfl rfl (by show _ ≤ 64; omega) (wrap_i64 (by omega) (by omega)) <| lx_sub ((((1 * 2 ^ hs.length : Nat) : Int)) - ((1 : Int))) rfl rfl rfl (by omega) (by omega) (by omega) <| lx_lookupF ((((1 * 2 ^ hs.length : Nat) : Int)) - ((1 : Int))) (linN p.length (pb p) (2 ^ p.length - 1)) rfl rfl Try.underlying129 Try.underlying3 Try.zeroValue2 hmp4 hF (by rw [show ((((1 * 2 ^ hs.length : Nat) : Int)) - ((1 : Int))) = (((2 ^ p.length - 1 : Nat)) : Int) from by omega]; exact cnt_all _ hp0 (by omega)) rfl rfl <| lx_assign (.int .i64 (linN p.length (pb p) (2 ^ p.length - 1))) rfl rfl <| lx_assign (.int .i64 0) rfl rfl <| lx_nil <| ?_
      -- R2
      refine wi_ret ⟨.tuple #[.int .i64 (linN p.length (pb p) (2 ^ p.length - 1)), .int .i64 0], (res_two rfl rfl rfl), ⟨?_, hx0_4⟩⟩
      · rw [if_pos (by omega), show chkT p = 0 from by omega]

end Go.Proofs.Ytdokijbdnajhgaa
namespace Go.Proofs.Ytdokijbdnajhgaa
open Go Go.X

theorem goodA {a : Int} {A B : Prop} (h : (a ≠ 0 ∧ A) ∨ (a = 0 ∧ B)) (h0 : a = 0) : B := h.elim (fun x => absurd h0 x.1) (fun x => x.2)
abbrev awL : List (Int × Int) := [((0 : Int), (1 : Int)), ((0 : Int), (2 : Int))]
abbrev awM : List (Int × Int) := [((0 : Int), (1 : Int)), ((1 : Int), (2 : Int)), ((2 : Int), (4 : Int)), ((0 : Int), (3 : Int)), ((3 : Int), (4 : Int))]
def awA : List (List Bool) := tabF 3 (closW 3 awL)
def awB : List (List Bool) := tabF 5 (closW 5 awM)
theorem awA_cl : closE 3 awL = 0 := by decide +kernel
theorem awB_cl : closE 5 awM = 0 := by decide +kernel
theorem awA_len : awA.length = 3 := tabF_length _ _
theorem awB_len : awB.length = 5 := tabF_length _ _
theorem awA_rows : ∀ i, i < awA.length → (gt awA i).length ≤ 1000000 := fun i hi => by rw [awA, gt_tabF (by rw [awA_len] at hi; exact hi), rowF_length]; omega
theorem awB_rows : ∀ i, i < awB.length → (gt awB i).length ≤ 1000000 := fun i hi => by rw [awB, gt_tabF (by rw [awB_len] at hi; exact hi), rowF_length]; omega
theorem awA_chk : chkT awA = 0 := by decide +kernel
theorem awA_mu : gt (gt (muT awA.length (pb awA)) 0) 1 = -1 := by decide +kernel
theorem awA_gapB : gapB 3 (pb awA) 0 1 = false ∧ gapB 3 (pb awA) 0 2 = false ∧ gapB 3 (pb awA) 1 2 = true := by decide +kernel
theorem awA_gap : gapR awA.length (pb awA) 1 2 true := by
  rw [awA_len]
  refine .inl ⟨rfl, by omega, by omega, awA_gapB.2.2, fun i j h1 h2 h3 => ?_⟩
  have h4 : i = 0 := by omega
  subst h4
  rcases (by omega : j = 1 ∨ j = 2) with rfl | rfl
  · exact awA_gapB.1
  · exact awA_gapB.2.1
theorem awA_lin : (if chkT awA = 0 then linN awA.length (pb awA) (2 ^ awA.length - 1) else 0) = 2 := by decide +kernel
theorem awB_opn : opnC awB = 0 := by decide +kernel
theorem awB_bad : badAt awB.length (pb awB) 1 2 3 := by decide +kernel
theorem awB_has {o a b c i : Nat} {bb : Bool} (h : badR awB.length (pb awB) o a b c i bb) : bb = true ∧ badZ awB o a b c i := by
  rcases h with ⟨h1, h2, h3, h4, h5, h6, h7⟩ | ⟨_, _, h⟩
  · exact ⟨h1, awB_opn, ⟨⟨by omega, by omega⟩, ⟨by omega, by omega⟩, ⟨by omega, by omega⟩, ⟨by omega, by omega⟩, ⟨by omega, by omega⟩⟩, h2⟩
  · exact absurd awB_bad (h 1 2 3 (by rw [awB_len]; omega) (by rw [awB_len]; omega) (by rw [awB_len]; omega))

set_option maxRecDepth 10000 in
theorem awake_spec (h : Heap) : Fx Try.prog 20 [] h (fun v h' => v = .bool true ∧ Ext h.size h h') := by
  refine fx_intro (n := 109) [] Try.func20 rfl rfl (by simp) trivial fun g0 => ?_
  refine wi_seq <| wi_reg rfl <| lx_assign (.bool false) rfl rfl <| lx_nil <| wi_seq <| wi_reg rfl <| lx_build (.agg #[.int .i64 0, .int .i64 1]) [(0, .int .i64 0), (1, .int .i64 1)] rfl rfl (fun w => bld85_2 _ _ w) <| lx_build (.agg #[.int .i64 0, .int .i64 2]) [(0, .int .i64 0), (1, .int .i64 2)] rfl rfl (fun w => bld85_2 _ _ w) <| lx_buildSlice (E := encP) h.size [((0 : Int), (1 : Int)), ((0 : Int), (2 : Int))] [.agg #[.int .i64 0, .int .i64 1], .agg #[.int .i64 0, .int .i64 2]] rfl rfl eT22 rfl rfl rfl rfl (Nat.le_refl _) (fun _ _ _ => trivial) fun v1 h1 ho1 hx1 hvb1 hsz1 => ?_
  have ho2 := ho1.base (Nat.le_refl h.size)
  refine lx_call [.int .i64 3, v1] rfl rfl Try.call63 rfl (oclosure_spec h1 ((3 : Int)) v1 ([((0 : Int), (1 : Int)), ((0 : Int), (2 : Int))]) ho2.rd (by decide)) (fun _ _ _ => trivial) ?_
  rintro _ h2 ⟨va, ha, pa, rfl, ho3, hot1, hca, hx2⟩
  have hx0_1 := hx1.trans2 hx2 hx1.size
  have ho4 := ho2.extS hx2
  have ho5 := ho3.base hx1.size
  have hot2 := hot1.base hx1.size
  have hl_hot2 := hot2.1
  have hpa : pa = awA := goodA hca awA_cl
  have hck : chkT pa = 0 := by rw [hpa]; exact awA_chk
  refine lx_move (.tuple #[va, .int .i64 (closE ((3 : Int)) ([((0 : Int), (1 : Int)), ((0 : Int), (2 : Int))]))]) rfl rfl <| lx_extract (va) rfl rfl rfl <| lx_extract (.int .i64 (closE ((3 : Int)) ([((0 : Int), (1 : Int)), ((0 : Int), (2 : Int))]))) rfl rfl rfl <| lx_assign (va) rfl rfl <| lx_assign (.int .i64 (closE ((3 : Int)) ([((0 : Int), (1 : Int)), ((0 : Int), (2 : Int))]))) rfl rfl <| lx_nil <| wi_seq <| wi_reg rfl <| lx_move (va) rfl rfl <| lx_call [va] rfl rfl Try.call49 rfl (omoebius_spec h2 va ha pa ho5.rd hot2.rt (by rw [hpa, awA_len]; omega) (by rw [hpa]; exact awA_rows)) (fun _ _ _ => trivial) ?_
  rintro _ h3 ⟨vmu, hmu, rmu, rfl, ho6, hot3, hmo, hx3⟩
  have hx0_2 := hx0_1.trans2 hx3 hx0_1.size
  have ho7 := ho4.extS hx3
  have ho8 := ho5.extS hx3
  have hot4 := hot2.extS hx3
  have ho9 := ho6.base hx0_1.size
  have hot5 := hot3.base hx0_1.size
  have hl_hot5 := hot5.1
  have hrmu : rmu = muT awA.length (pb awA) := by rw [goodA hmo hck, hpa]
  have hmv : gt (gt rmu 0) 1 = -1 := by rw [hrmu]; exact awA_mu
  have hml : rmu.length = 3 := by rw [hrmu, muT_len, awA_len]
  have hml2 : (gt rmu 0).length = 3 := by rw [hrmu, gt_muT (by rw [awA_len]; omega), mapR_len, awA_len]
  refine lx_move (.tuple #[vmu, .int .i64 (chkT pa)]) rfl rfl <| lx_extract (vmu) rfl rfl rfl <| lx_extract (.int .i64 (chkT pa)) rfl rfl rfl <| lx_assign (vmu) rfl rfl <| lx_assign (.int .i64 (chkT pa)) rfl rfl <| lx_nil <| wi_seq <| wi_reg rfl <| lx_move (va) rfl rfl <| lx_call [va] rfl rfl Try.call30 rfl (ogap_spec h3 va ha pa ho8.rd hot4.rt (by rw [hpa, awA_len]; omega) (by rw [hpa]; exact awA_rows)) (fun _ _ _ => trivial) ?_
  rintro _ h4 ⟨gx, gy, gb, rfl, hgap, hx4⟩
  have hx0_3 := hx0_2.trans2 hx4 hx0_2.size
  have ho10 := ho7.extS hx4
  have ho11 := ho8.extS hx4
  have hot6 := hot4.extS hx4
  have ho12 := ho9.extS hx4
  have hot7 := hot5.extS hx4
  refine lx_move (.tuple #[.int .i64 ((gx : Nat) : Int), .int .i64 ((gy : Nat) : Int), .bool gb, .int .i64 (chkT pa)]) rfl rfl <| lx_extract (.int .i64 ((gx : Nat) : Int)) rfl rfl rfl <| lx_extract (.int .i64 ((gy : Nat) : Int)) rfl rfl rfl <| lx_extract (.bool gb) rfl rfl rfl <| lx_extract (.int .i64 (chkT pa)) rfl rfl rfl <| lx_assign (.int .i64 ((gx : Nat) : Int)) rfl rfl <| lx_assign (.int .i64 ((gy : Nat) : Int)) rfl rfl <| lx_assign (.bool gb) rfl rfl <| lx_assign (.int .i64 (chkT pa)) rfl rfl <| lx_nil <| wi_seq <| wi_reg rfl <| ?_
  obtain ⟨hgx, hgy, hgb⟩ := gapR_uniq (goodA hgap hck) (by rw [hpa]; exact awA_gap)
  subst hgx; subst hgy; subst hgb
  refine lx_move (va) rfl rfl <| lx_call [va] rfl rfl Try.call45 rfl (olinear_spec h4 va ha pa ho11.rd hot6.rt (by rw [hpa, awA_len]; omega) (by rw [hpa]; exact awA_rows)) (fun _ _ _ => trivial) ?_
  rintro _ h5 ⟨rfl, hx5⟩
  have hx0_4 := hx0_3.trans2 hx5 hx0_3.size
  have ho13 := ho10.extS hx5
  have ho14 := ho11.extS hx5
  have hot8 := hot6.extS hx5
  have ho15 := ho12.extS hx5
  have hot9 := hot7.extS hx5
  refine lx_move (.tuple #[.int .i64 ((if chkT pa = 0 then linN pa.length (pb pa) (2 ^ pa.length - 1) else 0)), .int .i64 (chkT pa)]) rfl rfl <| lx_extract (.int .i64 ((if chkT pa = 0 then linN pa.length (pb pa) (2 ^ pa.length - 1) else 0))) rfl rfl rfl <| lx_extract (.int .i64 (chkT pa)) rfl rfl rfl <| lx_assign (.int .i64 ((if chkT pa = 0 then linN pa.length (pb pa) (2 ^ pa.length - 1) else 0))) rfl rfl <| lx_assign (.int .i64 (chkT pa)) rfl rfl <| lx_nil <| wi_seq <| wi_reg rfl <| lx_build (.agg #[.int .i64 0, .int .i64 1]) [(0, .int .i64 0), (1, .int .i64 1)] rfl rfl (fun w => bld85_2 _ _ w) <| lx_build (.agg #[.int .i64 1, .int .i64 2]) [(0, .int .i64 1), (1, .int .i64 2)] rfl rfl (fun w => bld85_2 _ _ w) <| lx_build (.agg #[.int .i64 2, .int .i64 4]) [(0, .int .i64 2), (1, .int .i64 4)] rfl rfl (fun w => bld85_2 _ _ w) <| lx_build (.agg #[.int .i64 0, .int .i64 3]) [(0, .int .i64 0), (1, .int .i64 3)] rfl rfl (fun w => bld85_2 _ _ w) <| lx_build (.agg #[.int .i64 3, .int .i64 4]) [(0, .int .i64 3), (1, .int .i64 4)] rfl rfl (fun w => bld85_2 _ _ w) <| lx_buildSlice (E := encP) h5.size [((0 : Int), (1 : Int)), ((1 : Int), (2 : Int)), ((2 : Int), (4 : Int)), ((0 : Int), (3 : Int)), ((3 : Int), (4 : Int))] [.agg #[.int .i64 0, .int .i64 1], .agg #[.int .i64 1, .int .i64 2], .agg #[.int .i64 2, .int .i64 4], .agg #[.int .i64 0, .int .i64 3], .agg #[.int .i64 3, .int .i64 4]] rfl rfl eT22 rfl rfl rfl rfl (Nat.le_refl _) (fun _ _ _ => trivial) fun v2 h6 ho16 hx6 hvb2 hsz2 => ?_
  have hx0_5 := hx0_4.trans2 hx6 hx0_4.size
  have ho17 := ho13.extS hx6
  have ho18 := ho14.extS hx6
  have hot10 := hot8.extS hx6
  have ho19 := ho15.extS hx6
  have hot11 := hot9.extS hx6
  have ho20 := ho16.base hx0_4.size
  refine lx_call [.int .i64 5, v2] rfl rfl Try.call63 rfl (oclosure_spec h6 ((5 : Int)) v2 ([((0 : Int), (1 : Int)), ((1 : Int), (2 : Int)), ((2 : Int), (4 : Int)), ((0 : Int), (3 : Int)), ((3 : Int), (4 : Int))]) ho20.rd (by decide)) (fun _ _ _ => trivial) ?_
  rintro _ h7 ⟨vq, hq, pq, rfl, ho21, hot12, hcq, hx7⟩
  have hx0_6 := hx0_5.trans2 hx7 hx0_5.size
  have ho22 := ho17.extS hx7
  have ho23 := ho18.extS hx7
  have hot13 := hot10.extS hx7
  have ho24 := ho19.extS hx7
  have hot14 := hot11.extS hx7
  have ho25 := ho20.extS hx7
  have ho26 := ho21.base hx0_5.size
  have hot15 := hot12.base hx0_5.size
  have hl_hot15 := hot15.1
  have hpq : pq = awB := goodA hcq awB_cl
  have hop : opnC pq = 0 := by rw [hpq]; exact awB_opn
  refine lx_move (.tuple #[vq, .int .i64 (closE ((5 : Int)) ([((0 : Int), (1 : Int)), ((1 : Int), (2 : Int)), ((2 : Int), (4 : Int)), ((0 : Int), (3 : Int)), ((3 : Int), (4 : Int))]))]) rfl rfl <| lx_extract (vq) rfl rfl rfl <| lx_extract (.int .i64 (closE ((5 : Int)) ([((0 : Int), (1 : Int)), ((1 : Int), (2 : Int)), ((2 : Int), (4 : Int)), ((0 : Int), (3 : Int)), ((3 : Int), (4 : Int))]))) rfl rfl rfl <| lx_assign (vq) rfl rfl <| lx_assign (.int .i64 (closE ((5 : Int)) ([((0 : Int), (1 : Int)), ((1 : Int), (2 : Int)), ((2 : Int), (4 : Int)), ((0 : Int), (3 : Int)), ((3 : Int), (4 : Int))]))) rfl rfl <| lx_nil <| wi_seq <| wi_reg rfl <| lx_move (vq) rfl rfl <| lx_call [vq] rfl rfl Try.call33 rfl (obad_spec h7 vq hq pq ho26.rd hot15.rt (by rw [hpq, awB_len]; omega) (by rw [hpq]; exact awB_rows)) (fun _ _ _ => trivial) ?_
  rintro _ h8 ⟨xo, xa, xb, xc, xi, xbb, rfl, hxb, hx8⟩
  have hx0_7 := hx0_6.trans2 hx8 hx0_6.size
  have ho27 := ho22.extS hx8
  have ho28 := ho23.extS hx8
  have hot16 := hot13.extS hx8
  have ho29 := ho24.extS hx8
  have hot17 := hot14.extS hx8
  have ho30 := ho25.extS hx8
  have ho31 := ho26.extS hx8
  have hot18 := hot15.extS hx8
  refine lx_move (.tuple #[.agg #[.int .i64 ((xo : Nat) : Int), .int .i64 ((xa : Nat) : Int), .int .i64 ((xb : Nat) : Int), .int .i64 ((xc : Nat) : Int), .int .i64 ((xi : Nat) : Int)], .bool xbb, .int .i64 (opnC pq)]) rfl rfl <| lx_extract (.agg #[.int .i64 ((xo : Nat) : Int), .int .i64 ((xa : Nat) : Int), .int .i64 ((xb : Nat) : Int), .int .i64 ((xc : Nat) : Int), .int .i64 ((xi : Nat) : Int)]) rfl rfl rfl <| lx_extract (.bool xbb) rfl rfl rfl <| lx_extract (.int .i64 (opnC pq)) rfl rfl rfl <| lx_alloc rfl rfl Try.zeroValue48 (fun _ _ _ => trivial) fun bn1 h9 hbn1 hbk1 hx9 hsz3 => ?_
  have hbb1 : h.size ≤ bn1 := by have := hx0_7.size; omega
  have hdj1 : Value.ownBlock v1 ≠ some bn1 := by intro e; have := (ho27.lt e).2; omega
  have hdj2 : Value.ownBlock va ≠ some bn1 := by intro e; have := (ho28.lt e).2; omega
  have hnb1 : Nbt ha bn1 := nbt_new hot16 (by omega)
  have hdj3 : Value.ownBlock vmu ≠ some bn1 := by intro e; have := (ho29.lt e).2; omega
  have hnb2 : Nbt hmu bn1 := nbt_new hot17 (by omega)
  have hdj4 : Value.ownBlock v2 ≠ some bn1 := by intro e; have := (ho30.lt e).2; omega
  have hdj5 : Value.ownBlock vq ≠ some bn1 := by intro e; have := (ho31.lt e).2; omega
  have hnb3 : Nbt hq bn1 := nbt_new hot18 (by omega)
  have hx0_8 := hx0_7.trans2 hx9 hx0_7.size
  have ho32 := ho27.extS hx9
  have ho33 := ho28.extS hx9
  have hot19 := hot16.extS hx9
  have ho34 := ho29.extS hx9
  have hot20 := hot17.extS hx9
  have ho35 := ho30.extS hx9
  have ho36 := ho31.extS hx9
  have hot21 := hot18.extS hx9
  have hbk1 : Blk h9 bn1 #[.int .i64 0, .int .i64 0, .int .i64 0, .int .i64 0, .int .i64 0] 48 := hbk1
  refine lx_stBA (#[.int .i64 ((xo : Nat) : Int), .int .i64 ((xa : Nat) : Int), .int .i64 ((xb : Nat) : Int), .int .i64 ((xc : Nat) : Int), .int .i64 ((xi : Nat) : Int)]) rfl rfl Try.sizeOf48 hbk1 rfl rfl rfl rfl (by simp [Value.oneCell']) (fun _ _ _ _ => trivial) fun h10 hbk2 hc1 => ?_
  have hx0_9 := hx0_8.trans (hc1.ext hbb1)
  have ho37 := hc1.owE ho32 hdj1
  have ho38 := hc1.owE ho33 hdj2
  have hot22 := hot19.chgB hc1 hnb1
  have ho39 := hc1.owE ho34 hdj3
  have hot23 := hot20.chgB hc1 hnb2
  have ho40 := hc1.owE ho35 hdj4
  have ho41 := hc1.owE ho36 hdj5
  have hot24 := hot21.chgB hc1 hnb3
  refine lx_assign (.bool xbb) rfl rfl <| lx_assign (.int .i64 (opnC pq)) rfl rfl <| lx_nil <| wi_seq <| wi_reg rfl <| ?_
  have hxb2 : xbb = true ∧ badZ pq xo xa xb xc xi := by rw [hpq]; exact awB_has (by rw [← hpq]; exact goodA hxb hop)
  obtain ⟨hxt, hbz⟩ := hxb2
  subst hxt
  have hlv : (if chkT pa = 0 then linN pa.length (pb pa) (2 ^ pa.length - 1) else 0) = 2 := by rw [hpa]; exact awA_lin
  refine lx_move (.int .i64 (closE ((3 : Int)) ([((0 : Int), (1 : Int)), ((0 : Int), (2 : Int))]))) rfl rfl <| lx_eqlT rfl rfl rfl awA_cl <| lx_move (.bool true) rfl rfl <| lx_move (.int .i64 (chkT pa)) rfl rfl <| lx_eqlT rfl rfl rfl hck <| lx_pick true (.bool true) rfl rfl rfl <| lx_move (.bool true) rfl rfl <| lx_move (.int .i64 (chkT pa)) rfl rfl <| lx_eqlT rfl rfl rfl hck <| lx_pick true (.bool true) rfl rfl rfl <| lx_move (.bool true) rfl rfl <| lx_move (.int .i64 (chkT pa)) rfl rfl <| lx_eqlT rfl rfl rfl hck <| lx_pick true (.bool true) rfl rfl rfl <| lx_move (.bool true) rfl rfl <| lx_move (.int .i64 (closE ((5 : Int)) ([((0 : Int), (1 : Int)), ((1 : Int), (2 : Int)), ((2 : Int), (4 : Int)), ((0 : Int), (3 : Int)), ((3 : Int), (4 : Int))]))) rfl rfl <| lx_eqlT rfl rfl rfl awB_cl <| lx_pick true (.bool true) rfl rfl rfl <| lx_move (.bool true) rfl rfl <| lx_move (.int .i64 (opnC pq)) rfl rfl <| lx_eqlT rfl rfl rfl hop <| lx_pick true (.bool true) rfl rfl rfl <| lx_move (.bool true) rfl rfl <| lx_move (vmu) rfl rfl <| lx_ix (i := 0) rfl eT49 ho39.rd rfl rfl (by omega) <| lx_ld (i := 0) (j := 0) ((gt hmu 0).v) rfl rfl fl25 ho39.rd (by omega) rfl rfl <| lx_ix (i := 1) rfl eT25 (hot23.2.1 0 (by omega)).rd rfl rfl (by omega) <| lx_ld (i := 1) (j := 0) (.int .i64 (gt (gt rmu 0) 1)) rfl rfl fl3 (hot23.2.1 0 (by omega)).rd (by omega) rfl rfl <| lx_eqlT rfl rfl rfl hmv <| lx_pick true (.bool true) rfl rfl rfl <| lx_move (.bool true) rfl rfl <| lx_move (.bool true) rfl rfl <| lx_pick true (.bool true) rfl rfl rfl <| lx_move (.bool true) rfl rfl <| lx_move (.int .i64 ((1 : Nat) : Int)) rfl rfl <| lx_eqlT rfl rfl rfl rfl <| lx_pick true (.bool true) rfl rfl rfl <| lx_move (.bool true) rfl rfl <| lx_move (.int .i64 ((2 : Nat) : Int)) rfl rfl <| lx_eqlT rfl rfl rfl rfl <| lx_pick true (.bool true) rfl rfl rfl <| lx_move (.bool true) rfl rfl <| lx_move (.int .i64 ((if chkT pa = 0 then linN pa.length (pb pa) (2 ^ pa.length - 1) else 0))) rfl rfl <| lx_eqlT rfl rfl rfl hlv <| lx_pick true (.bool true) rfl rfl rfl <| lx_move (.bool true) rfl rfl <| lx_move (.bool true) rfl rfl <| lx_pick true (.bool true) rfl rfl rfl <| lx_move (.bool true) rfl rfl <| lx_move (vq) rfl rfl <| lx_ldBA rfl rfl wd48 hbk2 rfl rfl <| lx_call [vq, .agg #[.int .i64 ((xo : Nat) : Int), .int .i64 ((xa : Nat) : Int), .int .i64 ((xb : Nat) : Int), .int .i64 ((xc : Nat) : Int), .int .i64 ((xi : Nat) : Int)]] rfl rfl Try.call36 rfl (oisBad_spec h10 vq hq pq (((xo : Nat) : Int)) (((xa : Nat) : Int)) (((xb : Nat) : Int)) (((xc : Nat) : Int)) (((xi : Nat) : Int)) ho41.rd hot24.rt (by rw [hpq, awB_len]; omega) (by rw [hpq]; exact awB_rows)) (fun _ _ _ => trivial) ?_
  rintro _ h11 ⟨rfl, hx10⟩
  have hx0_10 := hx0_9.trans2 hx10 hx0_9.size
  have ho42 := ho37.extS hx10
  have ho43 := ho38.extS hx10
  have hot25 := hot22.extS hx10
  have ho44 := ho39.extS hx10
  have hot26 := hot23.extS hx10
  have ho45 := ho40.extS hx10
  have ho46 := ho41.extS hx10
  have hot27 := hot24.extS hx10
  have hb1 := hbk2.extS hx10
  refine lx_pick true (.bool (decide (badZ pq (((xo : Nat) : Int)) (((xa : Nat) : Int)) (((xb : Nat) : Int)) (((xc : Nat) : Int)) (((xi : Nat) : Int))))) rfl rfl rfl <| lx_assign (.bool (decide (badZ pq (((xo : Nat) : Int)) (((xa : Nat) : Int)) (((xb : Nat) : Int)) (((xc : Nat) : Int)) (((xi : Nat) : Int))))) rfl rfl <| lx_nil <| ?_
  -- R1
  refine wi_ret ⟨.bool (decide (badZ pq (((xo : Nat) : Int)) (((xa : Nat) : Int)) (((xb : Nat) : Int)) (((xc : Nat) : Int)) (((xi : Nat) : Int)))), (res_one rfl rfl), ⟨?_, hx0_10⟩⟩
  · congr 1; exact decide_eq_true hbz

end Go.Proofs.Ytdokijbdnajhgaa
