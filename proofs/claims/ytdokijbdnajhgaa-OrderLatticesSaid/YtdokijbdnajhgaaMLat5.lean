/-
  Texts in one: XLinM, OK, OC, OD, OE, XCross, XFiveL, XOSort, XOSortB, XOMin, XArr, XFive.
-/
import Derived.Test.YtdokijbdnajhgaaMLat4
import Derived.WideKeyPair
import Derived.Shelf.Sort.Plain
import Derived.Ground.Names2Prog
import Derived.Shelf.Slices.CompactI
import Derived.Test.YtdokijbdnajhgaaProg
import Derived.Shelf.Slices.Turned
set_option linter.unusedSimpArgs false
set_option linter.unusedVariables false
namespace Go.X
section
variable {P : Program} {S : Heap → Prop} {kd : Oper → Kd} {ops : Array Oper} {rest : List Oper} {K : Env → Heap → Prop} {L : List (Nat × Value)} {b : Env} {h : Heap}
variable {d : Nat} {t ty kt et : TypeId} {p : String} {af : Array Edge} {g : Option (Nat × Bool)} {x y z : Operand} {l : Nat} {ms : List (Int × Value)}
theorem lx_lookupF {F : Int → Int} (k r : Int) (hw : Region.wanted ⟨some d, .lookup t x y false, ty, p, af, g⟩ (yieldE ops (ups L b)) = true) (hk : kd ⟨some d, .lookup t x y false, ty, p, af, g⟩ = .read)
    (ht : P.underlying t = some (.map kt et)) (hkt : P.underlying kt = some (.int .i64)) (hz : ∀ w, (zeroValue et).run P w = .ok (.int .i64 0) w) (hm : MpO h l ms) (hF : MpF ms F) (hr : F k = r) (hx : ev (ups L b) x = .map (some l)) (hy : ev (ups L b) y = .int .i64 k)
    (hn : Lx P S kd ops rest K (ups ((d, .int .i64 r) :: L) b) h) : Lx P S kd ops (⟨some d, .lookup t x y false, ty, p, af, g⟩ :: rest) K (ups L b) h :=
  lx_lookup k (.int .i64 0) hw hk ht hkt hz hm hx hy (by rw [hF k, hr]; exact hn)
end
theorem asc_take {xs : List Int} (h : xs.Pairwise (· < ·)) {i : Nat} (hi : i < xs.length) {q : Int} : q ∈ xs.take i ↔ q ∈ xs ∧ q < gt xs i := by
  rw [List.pairwise_iff_getElem] at h
  rw [gt_eq hi]
  constructor
  · intro hq
    obtain ⟨j, hj, rfl⟩ := List.mem_iff_getElem.1 hq
    rw [List.length_take] at hj
    rw [List.getElem_take]
    exact ⟨List.getElem_mem _, h j i (by omega) hi (by omega)⟩
  · rintro ⟨hq, hlt⟩
    obtain ⟨j, hj, rfl⟩ := List.mem_iff_getElem.1 hq
    rcases Nat.lt_or_ge j i with h1 | h1
    · exact List.mem_iff_getElem.2 ⟨j, by rw [List.length_take]; omega, by rw [List.getElem_take]⟩
    · rcases Nat.lt_or_eq_of_le h1 with h2 | h2
      · have := h i j hi hj h2; omega
      · subst h2; omega
def cntF (n : Nat) (f : Nat → Nat → Bool) (i : Nat) (k : Int) : Int := if k = 0 then 1 else if k ∈ (idealsF n f).take i then linN n f k.toNat else 0
def cntG (n : Nat) (f : Nat → Nat → Bool) (i s x : Nat) (k : Int) : Int := if k = (s : Int) ∧ s ≠ 0 then linS n f s x else cntF n f i k
theorem cnt_start (n : Nat) (f : Nat → Nat → Bool) (k : Int) : (if k = 0 then 1 else 0) = cntF n f 0 k := by unfold cntF; simp
theorem idl_mem {n : Nat} {f : Nat → Nat → Bool} {x : Int} : x ∈ idealsF n f ↔ ∃ q : Nat, q < 2 ^ n ∧ idlB n f q = true ∧ (q : Int) = x := by unfold idealsF; exact filtF_mem
theorem idl_asc (n : Nat) (f : Nat → Nat → Bool) : (idealsF n f).Pairwise (· < ·) := filtF_asc _ _
section
variable {n i s x : Nat} {f : Nat → Nat → Bool}
theorem idl_at (hi : i < (idealsF n f).length) (hs : gt (idealsF n f) i = (s : Int)) : s < 2 ^ n ∧ idlB n f s = true := by
  have h1 : (s : Int) ∈ idealsF n f := by rw [← hs, gt_eq hi]; exact List.getElem_mem _
  obtain ⟨q, h2, h3, h4⟩ := idl_mem.1 h1
  obtain rfl : q = s := by omega
  exact ⟨h2, h3⟩
theorem cntG_zero (hi : i < (idealsF n f).length) (hs : gt (idealsF n f) i = (s : Int)) (k : Int) : cntF n f i k = cntG n f i s 0 k := by
  unfold cntG
  by_cases e : k = (s : Int) ∧ s ≠ 0
  · rw [if_pos e]
    obtain ⟨rfl, h0⟩ := e
    unfold cntF
    rw [if_neg (by omega), if_neg (by rw [asc_take (idl_asc n f) hi, hs]; omega)]; rfl
  · rw [if_neg e]
theorem last_bit (h : lastB n f s x = true) : s.testBit x = true := by unfold lastB at h; rw [Bool.and_eq_true] at h; exact h.1
theorem last_nz (h : lastB n f s x = true) : s ≠ 0 := fun e => by have := last_bit h; rw [e, Nat.zero_testBit] at this; cases this
theorem cntG_self (h0 : s ≠ 0) : cntG n f i s x (s : Int) = linS n f s x := if_pos ⟨rfl, h0⟩
theorem cntG_off (ho : IsO n f) (hn : n ≤ 12) (hi : i < (idealsF n f).length) (hs : gt (idealsF n f) i = (s : Int)) (hl : lastB n f s x = true) : cntG n f i s x ((andNot s (2 ^ x) : Nat) : Int) = linN n f (andNot s (2 ^ x)) := by
  obtain ⟨h1, h2⟩ := idl_at hi hs
  obtain ⟨h3, h4⟩ := idl_off ho hn h1 h2 hl
  unfold cntG
  rw [if_neg (by omega)]
  unfold cntF
  by_cases e : ((andNot s (2 ^ x) : Nat) : Int) = 0
  · rw [if_pos e, show andNot s (2 ^ x) = 0 by omega, linN_zero]
  · rw [if_neg e, if_pos]
    · rfl
    · rw [asc_take (idl_asc n f) hi, hs, idl_mem]
      exact ⟨⟨_, by omega, h3, rfl⟩, by omega⟩
theorem cntG_yes (hl : lastB n f s x = true) (k : Int) : (if k = (s : Int) then linS n f s x + linN n f (andNot s (2 ^ x)) else cntG n f i s x k) = cntG n f i s (x + 1) k := by
  have h0 := last_nz hl
  unfold cntG
  by_cases e : k = (s : Int)
  · rw [if_pos e, if_pos ⟨e, h0⟩, linS_yes hl]
  · rw [if_neg e, if_neg (fun h => e h.1), if_neg (fun h => e h.1)]
theorem cntG_no (hl : lastB n f s x = false) (k : Int) : cntG n f i s x k = cntG n f i s (x + 1) k := by
  unfold cntG
  rw [linS_no hl]
theorem take_succ' {xs : List Int} {i : Nat} (hi : i < xs.length) : xs.take (i + 1) = xs.take i ++ [gt xs i] := by rw [gt_eq hi, List.take_add_one, List.getElem?_eq_getElem hi]; rfl
theorem cntG_end (hn : n ≤ 12) (hi : i < (idealsF n f).length) (hs : gt (idealsF n f) i = (s : Int)) (k : Int) : cntG n f i s n k = cntF n f (i + 1) k := by
  obtain ⟨h1, h2⟩ := idl_at hi hs
  have hp := pow12 hn
  unfold cntG
  by_cases e : k = (s : Int) ∧ s ≠ 0
  · rw [if_pos e]
    obtain ⟨rfl, h0⟩ := e
    unfold cntF
    rw [if_neg (by omega), if_pos (by rw [take_succ' hi, hs]; simp), Int.toNat_natCast, linN_sum hn (by omega) h0]
  · rw [if_neg e]
    unfold cntF
    by_cases e0 : k = 0
    · rw [if_pos e0, if_pos e0]
    · rw [if_neg e0, if_neg e0, take_succ' hi, hs]
      have : k ≠ (s : Int) := fun h => e ⟨h, fun h3 => e0 (by omega)⟩
      simp [this]
theorem cnt_all (f : Nat → Nat → Bool) (hn1 : 1 ≤ n) (hi : i = (idealsF n f).length) : cntF n f i (((2 ^ n - 1 : Nat)) : Int) = linN n f (2 ^ n - 1) := by
  have hp : 2 ^ 1 ≤ 2 ^ n := Nat.pow_le_pow_right (by omega) hn1
  unfold cntF
  rw [if_neg (by omega), hi, List.take_length, if_pos]
  · rfl
  · rw [idl_mem]
    refine ⟨2 ^ n - 1, by omega, ?_, rfl⟩
    rw [idlB_iff]
    intro x y hx hy _ _
    rw [Nat.testBit_two_pow_sub_one]; exact decide_eq_true hy
end
end Go.X
namespace Go.Proofs.Ytdokijbdnajhgaa
open Go Go.X

set_option maxRecDepth 10000 in
theorem ones64_spec (h : Heap) (x : Nat) (hp1 : x < 4096) : Fx Try.prog 135 [.int .u64 ((x : Nat) : Int)] h (fun v h' => v = .int .i64 ((popN x : Nat) : Int) ∧ h = h') := by
  refine fx_intro (n := 35) [(0, .int .u64 ((x : Nat) : Int))] Try.func135 rfl rfl (by simp) ⟨rfl, trivial⟩ fun g0 => ?_
  refine wi_seq <| wi_reg rfl <| lx_assign (.int .i64 0) rfl rfl <| lx_nil <| wi_seq <| wi_reg rfl <| ?_
  obtain ⟨b1, b2, b3, b4, b5, b6, b7⟩ := on_ok hp1
  have := Nat.div_le_self x (2 ^ 1)
  have : x / 2 ^ 1 &&& 6148914691236517205 ≤ x / 2 ^ 1 := Nat.and_le_left
  have : x &&& 6148914691236517205 ≤ x := Nat.and_le_left
  refine lx_move (.int .u64 ((x : Nat) : Int)) rfl rfl <| lx_shr (m := x) (n := 1) rfl rfl rfl (by show _ ≤ 64; omega) <| lx_and (m := x / 2 ^ 1) (n := 6148914691236517205) rfl rfl rfl (by show _ < 2 ^ 64; omega) (by show _ < 2 ^ 64; omega) (wrap_u64 (by omega) (by omega)) <| lx_move (.int .u64 ((x : Nat) : Int)) rfl rfl <| lx_and (m := x) (n := 6148914691236517205) rfl rfl rfl (by show _ < 2 ^ 64; omega) (by show _ < 2 ^ 64; omega) (wrap_u64 (by omega) (by omega)) <| lx_addU (((((x / 2 ^ 1) &&& 6148914691236517205) + (x &&& 6148914691236517205) : Nat) : Nat) : Int) rfl rfl rfl (by omega) (by omega) (by omega) <| ?_
  generalize hy1 : ((x / 2 ^ 1) &&& 6148914691236517205) + (x &&& 6148914691236517205) = y1
  replace hy1 : on1 x = y1 := hy1
  rw [hy1] at b1 b2 b3 b4 b5 b6 b7
  refine lx_assign (.int .u64 ((y1 : Nat) : Int)) rfl rfl <| lx_nil <| wi_seq <| wi_reg rfl <| ?_
  have := Nat.div_le_self y1 (2 ^ 2)
  have : y1 / 2 ^ 2 &&& 3689348814741910323 ≤ y1 / 2 ^ 2 := Nat.and_le_left
  have : y1 &&& 3689348814741910323 ≤ y1 := Nat.and_le_left
  refine lx_move (.int .u64 ((y1 : Nat) : Int)) rfl rfl <| lx_shr (m := y1) (n := 2) rfl rfl rfl (by show _ ≤ 64; omega) <| lx_and (m := y1 / 2 ^ 2) (n := 3689348814741910323) rfl rfl rfl (by show _ < 2 ^ 64; omega) (by show _ < 2 ^ 64; omega) (wrap_u64 (by omega) (by omega)) <| lx_move (.int .u64 ((y1 : Nat) : Int)) rfl rfl <| lx_and (m := y1) (n := 3689348814741910323) rfl rfl rfl (by show _ < 2 ^ 64; omega) (by show _ < 2 ^ 64; omega) (wrap_u64 (by omega) (by omega)) <| lx_addU (((((y1 / 2 ^ 2) &&& 3689348814741910323) + (y1 &&& 3689348814741910323) : Nat) : Nat) : Int) rfl rfl rfl (by omega) (by omega) (by omega) <| ?_
  generalize hy2 : ((y1 / 2 ^ 2) &&& 3689348814741910323) + (y1 &&& 3689348814741910323) = y2
  replace hy2 : on2 y1 = y2 := hy2
  rw [hy2] at b2 b3 b4 b5 b6 b7
  refine lx_assign (.int .u64 ((y2 : Nat) : Int)) rfl rfl <| lx_nil <| wi_seq <| wi_reg rfl <| ?_
  have := Nat.div_le_self y2 (2 ^ 4)
  have : (y2 / 2 ^ 4 + y2) &&& 1085102592571150095 ≤ (y2 / 2 ^ 4 + y2) := Nat.and_le_left
  refine lx_move (.int .u64 ((y2 : Nat) : Int)) rfl rfl <| lx_shr (m := y2) (n := 4) rfl rfl rfl (by show _ ≤ 64; omega) <| lx_move (.int .u64 ((y2 : Nat) : Int)) rfl rfl <| lx_addU ((((y2 / 2 ^ 4) + y2 : Nat) : Nat) : Int) rfl rfl rfl (by omega) (by omega) (by omega) <| lx_and (m := (y2 / 2 ^ 4) + y2) (n := 1085102592571150095) rfl rfl rfl (by show _ < 2 ^ 64; omega) (by show _ < 2 ^ 64; omega) (wrap_u64 (by omega) (by omega)) <| ?_
  generalize hy3 : ((y2 / 2 ^ 4) + y2) &&& 1085102592571150095 = y3
  replace hy3 : on3 y2 = y3 := hy3
  rw [hy3] at b3 b4 b5 b6 b7
  refine lx_assign (.int .u64 ((y3 : Nat) : Int)) rfl rfl <| lx_nil <| wi_seq <| wi_reg rfl <| ?_
  have := Nat.div_le_self y3 (2 ^ 8)
  refine lx_move (.int .u64 ((y3 : Nat) : Int)) rfl rfl <| lx_move (.int .u64 ((y3 : Nat) : Int)) rfl rfl <| lx_shr (m := y3) (n := 8) rfl rfl rfl (by show _ ≤ 64; omega) <| lx_addU (((y3 + (y3 / 2 ^ 8) : Nat) : Nat) : Int) rfl rfl rfl (by omega) (by omega) (by omega) <| ?_
  generalize hy4 : y3 + (y3 / 2 ^ 8) = y4
  replace hy4 : on4 y3 = y4 := hy4
  rw [hy4] at b4 b5 b6 b7
  refine lx_assign (.int .u64 ((y4 : Nat) : Int)) rfl rfl <| lx_nil <| wi_seq <| wi_reg rfl <| ?_
  have := Nat.div_le_self y4 (2 ^ 16)
  refine lx_move (.int .u64 ((y4 : Nat) : Int)) rfl rfl <| lx_move (.int .u64 ((y4 : Nat) : Int)) rfl rfl <| lx_shr (m := y4) (n := 16) rfl rfl rfl (by show _ ≤ 64; omega) <| lx_addU (((y4 + (y4 / 2 ^ 16) : Nat) : Nat) : Int) rfl rfl rfl (by omega) (by omega) (by omega) <| ?_
  generalize hy5 : y4 + (y4 / 2 ^ 16) = y5
  replace hy5 : on5 y4 = y5 := hy5
  rw [hy5] at b5 b6 b7
  refine lx_assign (.int .u64 ((y5 : Nat) : Int)) rfl rfl <| lx_nil <| wi_seq <| wi_reg rfl <| ?_
  have := Nat.div_le_self y5 (2 ^ 32)
  refine lx_move (.int .u64 ((y5 : Nat) : Int)) rfl rfl <| lx_move (.int .u64 ((y5 : Nat) : Int)) rfl rfl <| lx_shr (m := y5) (n := 32) rfl rfl rfl (by show _ ≤ 64; omega) <| lx_addU (((y5 + (y5 / 2 ^ 32) : Nat) : Nat) : Int) rfl rfl rfl (by omega) (by omega) (by omega) <| ?_
  generalize hy6 : y5 + (y5 / 2 ^ 32) = y6
  replace hy6 : on6 y5 = y6 := hy6
  rw [hy6] at b6 b7
  refine lx_assign (.int .u64 ((y6 : Nat) : Int)) rfl rfl <| lx_nil <| wi_seq <| wi_reg rfl <| ?_
  have : y6 &&& 127 ≤ y6 := Nat.and_le_left
  refine lx_move (.int .u64 ((y6 : Nat) : Int)) rfl rfl <| lx_conv ((y6 : Nat) : Int) rfl Try.underlying149 Try.underlying3 rfl (wrap_i64 (by omega) (by omega)) <| lx_and (m := y6) (n := 127) rfl rfl rfl (by show _ < 2 ^ 64; omega) (by show _ < 2 ^ 64; omega) (wrap_i64 (by omega) (by omega)) <| lx_assign (.int .i64 ((y6 &&& 127 : Nat) : Int)) rfl rfl <| lx_nil <| ?_
  -- R1
  refine wi_ret ⟨.int .i64 ((y6 &&& 127 : Nat) : Int), (res_one rfl rfl), ⟨?_, rfl⟩⟩
  · rw [b7]

set_option maxRecDepth 10000 in
theorem ones_spec (h : Heap) (x : Nat) (hp1 : x < 4096) : Fx Try.prog 104 [.int .u64 ((x : Nat) : Int)] h (fun v h' => v = .int .i64 ((popN x : Nat) : Int) ∧ h = h') := by
  refine fx_intro (n := 8) [(0, .int .u64 ((x : Nat) : Int))] Try.func104 rfl rfl (by simp) ⟨rfl, trivial⟩ fun g0 => ?_
  refine wi_seq <| wi_reg rfl <| lx_assign (.int .i64 0) rfl rfl <| lx_nil <| wi_seq <| wi_false rfl <| wi_skip <| wi_seq <| wi_reg rfl <| lx_move (.int .u64 ((x : Nat) : Int)) rfl rfl <| lx_call [.int .u64 ((x : Nat) : Int)] rfl rfl Try.call135 rfl (ones64_spec h x (by omega)) (fun _ _ _ => trivial) ?_
  rintro _ h1 ⟨rfl, rfl⟩
  refine lx_assign (.int .i64 ((popN x : Nat) : Int)) rfl rfl <| lx_nil <| ?_
  -- R1
  refine wi_ret ⟨.int .i64 ((popN x : Nat) : Int), (res_one rfl rfl), ⟨rfl, rfl⟩⟩

end Go.Proofs.Ytdokijbdnajhgaa
namespace Go.Proofs.Ytdokijbdnajhgaa
open Go Go.X

set_option maxRecDepth 10000 in
theorem oclosure_spec (h : Heap) (n : Int) (vl : Value) (ls : List (Int × Int)) (hr_vl : RdE encP h vl ls) (hp1 : ls.length ≤ 4611686018427387904) : Fx Try.prog 63 [.int .i64 n, vl] h (fun v h' => ∃ (s : Value) (hs : List Hdr) (p : List (List Bool)), v = .tuple #[s, .int .i64 (closE n ls)] ∧ OwE encHd h' h.size 70 s hs ∧ OT encB h' h.size 4 hs p ∧ ((closE n ls ≠ 0 ∧ p = []) ∨ (closE n ls = 0 ∧ p = tabF n.toNat (closW n.toNat ls))) ∧ Ext h.size h h') := by
  refine fx_intro (n := 53) [(0, .int .i64 n), (1, vl)] Try.func63 rfl rfl (by simp) ⟨rfl, rfl, trivial⟩ fun g0 => ?_
  refine wi_seq <| wi_reg rfl <| lx_assign (.slice none 0 0) rfl rfl <| lx_assign (.int .i64 0) rfl rfl <| lx_nil <| wi_seq <| wi_seq <| wi_reg rfl <| lx_move (.int .i64 n) rfl rfl <| lx_lssS rfl rfl rfl (fun c1 => ?_) (fun c1 => ?_)
  · refine lx_move (.bool true) rfl rfl <| lx_skip rfl <| lx_skip rfl <| lx_pick true (.bool true) rfl rfl rfl <| lx_nil <| wi_true rfl <| wi_seq <| wi_reg rfl <| lx_assign (.slice none 0 0) rfl rfl <| lx_assign (.int .i64 1) rfl rfl <| lx_nil <| ?_
    -- R1
    refine wi_ret ⟨.tuple #[.slice none 0 0, .int .i64 1], (res_two rfl rfl rfl), ⟨.slice none 0 0, [], [], ?_, (owE_nil encHd _ h.size 70), (OT.nil encB _ h.size 4), ?_, (Ext.refl _ _)⟩⟩
    · first
      | (rw [closE_size (by omega)]; done)
      | (rw [closE_out (i := i) (by omega) (by omega)]; done)
      | (rw [hce]; have hcc := chkT_cases r_1; first | (rw [hcc.resolve_left (by omega)]; done) | (rw [hcc.resolve_right (by omega)]; done))
    · first
      | exact .inl ⟨by rw [closE_size (by omega)]; decide, rfl⟩
      | exact .inl ⟨by rw [closE_out (i := i) (by omega) (by omega)]; decide, rfl⟩
      | exact .inl ⟨by omega, rfl⟩
      | exact .inr ⟨by omega, by rw [Int.toNat_natCast]; exact hrt⟩
  · refine lx_move (.bool false) rfl rfl <| lx_move (.int .i64 n) rfl rfl <| lx_gtrS rfl rfl rfl (fun c2 => ?_) (fun c2 => ?_)
    · refine lx_pick false (.bool true) rfl rfl rfl <| lx_nil <| wi_true rfl <| wi_seq <| wi_reg rfl <| lx_assign (.slice none 0 0) rfl rfl <| lx_assign (.int .i64 1) rfl rfl <| lx_nil <| ?_
      -- R2
      refine wi_ret ⟨.tuple #[.slice none 0 0, .int .i64 1], (res_two rfl rfl rfl), ⟨.slice none 0 0, [], [], ?_, (owE_nil encHd _ h.size 70), (OT.nil encB _ h.size 4), ?_, (Ext.refl _ _)⟩⟩
      · first
        | (rw [closE_size (by omega)]; done)
        | (rw [closE_out (i := i) (by omega) (by omega)]; done)
        | (rw [hce]; have hcc := chkT_cases r_1; first | (rw [hcc.resolve_left (by omega)]; done) | (rw [hcc.resolve_right (by omega)]; done))
      · first
        | exact .inl ⟨by rw [closE_size (by omega)]; decide, rfl⟩
        | exact .inl ⟨by rw [closE_out (i := i) (by omega) (by omega)]; decide, rfl⟩
        | exact .inl ⟨by omega, rfl⟩
        | exact .inr ⟨by omega, by rw [Int.toNat_natCast]; exact hrt⟩
    · refine lx_pick false (.bool false) rfl rfl rfl <| lx_nil <| wi_false rfl <| wi_skip <| wi_seq <| wi_reg rfl <| ?_
      have hn1 : ¬ (n < 1 ∨ 12 < n) := by omega
      obtain ⟨m, rfl⟩ : ∃ m : Nat, n = ((m : Nat) : Int) := ⟨n.toNat, by omega⟩
      refine lx_move (.int .i64 ((m : Nat) : Int)) rfl rfl <| lx_call [.int .i64 ((m : Nat) : Int)] rfl rfl Try.call115 rfl (obare_spec h m (by omega)) (fun _ _ _ => trivial) ?_
      rintro vp h1 ⟨_, hs, rfl, ho1, hot1, hx1⟩
      have ho2 := ho1.base (Nat.le_refl h.size)
      have hot2 := hot1.base (Nat.le_refl h.size)
      have hl_hot2 := hot2.1
      refine lx_assign (vp) rfl rfl <| lx_nil <| wi_seq <| wi_seq <| wi_reg rfl <| lx_move (vl) rfl rfl <| lx_len rfl Try.underlying22 hr_vl rfl <| lx_move (.int .i64 0) rfl rfl <| lx_nil <| wi_block <| ?_
      refine wi_loop (σ := Nat × (List Hdr) × (List (List Bool))) (rngB 19 47 [4, 5, 8]) (fun (ss : Nat × (List Hdr) × (List (List Bool))) => [(19, .int .i64 ((ss.1 : Nat) : Int))]) (fun (ss : Nat × (List Hdr) × (List (List Bool))) (hh : Heap) => OwE encHd hh h.size 70 vp ss.2.1 ∧ OT encB hh h.size 4 ss.2.1 ss.2.2 ∧ Ext h.size h hh ∧ (ss.1 ≤ ls.length) ∧ (Sq ss.2.2 m) ∧ (∀ j, j < ss.1 → inR m (gt ls j) = true) ∧ (∀ x y, x < m → y < m → pb ss.2.2 x y = pairW ls ss.1 x y)) (fun (ss : Nat × (List Hdr) × (List (List Bool))) => ls.length - ss.1) (0, hs, tabF m (fun x y => decide (x = y))) ⟨rfl, trivial⟩ ⟨?_, ?_, hx1, ?_, ?_, ?_, ?_⟩ ?_
      · first | exact ho2 | (simpa using ho2)
      · first | exact hot2 | (simpa using hot2)
      · try dsimp only
        omega
      · try dsimp only
        exact tabF_sq _ _
      · try dsimp only
        intro j hj; omega
      · try dsimp only
        intro x y hx hy; rw [pb_tabF hx hy, pairW_zero]
      rintro g1 ⟨i, hs, p⟩ hh1 ⟨ho3, hot3, hx0_1, hi, hq, hr, hp⟩ IH1
      dsimp only at *
      have hq1 := hq.1
      have hl_hot3 := hot3.1
      refine wi_seq <| wi_reg rfl <| lx_lssS rfl rfl rfl (fun c3 => ?_) (fun c3 => ?_)
      · refine lx_nil <| wi_seq <| wi_true rfl <| wi_skip <| wi_seq <| wi_block <| wi_seq <| wi_reg rfl <| lx_ix (i := i) rfl eT22 hr_vl rfl rfl (by omega) <| lx_ldA (i := i) [.int .i64 ((gt ls i).1), .int .i64 ((gt ls i).2)] rfl rfl wd85 (hr_vl.extS hx0_1) (by omega) rfl rfl <| lx_alloc rfl rfl Try.zeroValue85 (fun _ _ _ => trivial) fun bn1 h2 hbn1 hbk1 hx2 hsz1 => ?_
        have hbb1 : h.size ≤ bn1 := by have := hx0_1.size; omega
        have hdj1 : Value.ownBlock vp ≠ some bn1 := by intro e; have := (ho3.lt e).2; omega
        have hnb1 : Nbt hs bn1 := nbt_new hot3 (by omega)
        have hx0_2 := hx0_1.trans2 hx2 hx0_1.size
        have ho4 := ho3.extS hx2
        have hot4 := hot3.extS hx2
        have hbk1 : Blk h2 bn1 #[.int .i64 0, .int .i64 0] 85 := hbk1
        refine lx_stBA (#[.int .i64 ((gt ls i).1), .int .i64 ((gt ls i).2)]) rfl rfl Try.sizeOf85 hbk1 rfl rfl rfl rfl (by simp [Value.oneCell']) (fun _ _ _ _ => trivial) fun h3 hbk2 hc1 => ?_
        have hx0_3 := hx0_2.trans (hc1.ext hbb1)
        have ho5 := hc1.owE ho4 hdj1
        have hot5 := hot4.chgB hc1 hnb1
        refine lx_nil <| wi_seq <| wi_seq <| wi_reg rfl <| lx_ixB (i := 0) (0) rfl Try.underlying85 Try.sizeOf3 rfl rfl (by omega) rfl <| lx_ldB (.int .i64 ((gt ls i).1)) rfl rfl fl3 hbk2 rfl rfl <| lx_ixB (i := 1) (1) rfl Try.underlying85 Try.sizeOf3 rfl rfl (by omega) rfl <| lx_ldB (.int .i64 ((gt ls i).2)) rfl rfl fl3 hbk2 rfl rfl <| lx_min (min ((gt ls i).1) ((gt ls i).2)) rfl rfl rfl (by omega) <| lx_lssS rfl rfl rfl (fun c4 => ?_) (fun c4 => ?_)
        · refine lx_move (.bool true) rfl rfl <| lx_skip rfl <| lx_skip rfl <| lx_skip rfl <| lx_skip rfl <| lx_skip rfl <| lx_skip rfl <| lx_skip rfl <| lx_pick true (.bool true) rfl rfl rfl <| lx_nil <| wi_true rfl <| wi_seq <| wi_reg rfl <| lx_assign (.slice none 0 0) rfl rfl <| lx_assign (.int .i64 1) rfl rfl <| lx_nil <| ?_
          -- R3
          refine wi_ret ⟨.tuple #[.slice none 0 0, .int .i64 1], (res_two rfl rfl rfl), ⟨.slice none 0 0, [], [], ?_, (owE_nil encHd _ h.size 70), (OT.nil encB _ h.size 4), ?_, hx0_3⟩⟩
          · first
            | (rw [closE_size (by omega)]; done)
            | (rw [closE_out (i := i) (by omega) (by omega)]; done)
            | (rw [hce]; have hcc := chkT_cases r_1; first | (rw [hcc.resolve_left (by omega)]; done) | (rw [hcc.resolve_right (by omega)]; done))
          · first
            | exact .inl ⟨by rw [closE_size (by omega)]; decide, rfl⟩
            | exact .inl ⟨by rw [closE_out (i := i) (by omega) (by omega)]; decide, rfl⟩
            | exact .inl ⟨by omega, rfl⟩
            | exact .inr ⟨by omega, by rw [Int.toNat_natCast]; exact hrt⟩
        · refine lx_move (.bool false) rfl rfl <| lx_ixB (i := 0) (0) rfl Try.underlying85 Try.sizeOf3 rfl rfl (by omega) rfl <| lx_ldB (.int .i64 ((gt ls i).1)) rfl rfl fl3 hbk2 rfl rfl <| lx_ixB (i := 1) (1) rfl Try.underlying85 Try.sizeOf3 rfl rfl (by omega) rfl <| lx_ldB (.int .i64 ((gt ls i).2)) rfl rfl fl3 hbk2 rfl rfl <| lx_max (max ((gt ls i).1) ((gt ls i).2)) rfl rfl rfl (by omega) <| lx_move (.int .i64 ((m : Nat) : Int)) rfl rfl <| lx_geqS rfl rfl rfl (fun c5 => ?_) (fun c5 => ?_)
          · refine lx_pick false (.bool true) rfl rfl rfl <| lx_nil <| wi_true rfl <| wi_seq <| wi_reg rfl <| lx_assign (.slice none 0 0) rfl rfl <| lx_assign (.int .i64 1) rfl rfl <| lx_nil <| ?_
            -- R4
            refine wi_ret ⟨.tuple #[.slice none 0 0, .int .i64 1], (res_two rfl rfl rfl), ⟨.slice none 0 0, [], [], ?_, (owE_nil encHd _ h.size 70), (OT.nil encB _ h.size 4), ?_, hx0_3⟩⟩
            · first
              | (rw [closE_size (by omega)]; done)
              | (rw [closE_out (i := i) (by omega) (by omega)]; done)
              | (rw [hce]; have hcc := chkT_cases r_1; first | (rw [hcc.resolve_left (by omega)]; done) | (rw [hcc.resolve_right (by omega)]; done))
            · first
              | exact .inl ⟨by rw [closE_size (by omega)]; decide, rfl⟩
              | exact .inl ⟨by rw [closE_out (i := i) (by omega) (by omega)]; decide, rfl⟩
              | exact .inl ⟨by omega, rfl⟩
              | exact .inr ⟨by omega, by rw [Int.toNat_natCast]; exact hrt⟩
          · refine lx_pick false (.bool false) rfl rfl rfl <| lx_nil <| wi_false rfl <| wi_skip <| wi_draw mo rfl (by decide +kernel) <| ?_
            obtain ⟨a, b, hgc, ha, hb⟩ : ∃ a b : Nat, gt ls i = ((a : Int), (b : Int)) ∧ a < m ∧ b < m := ⟨(gt ls i).1.toNat, (gt ls i).2.toNat, Prod.ext (by show _ = ((_ : Nat) : Int); omega) (by show _ = ((_ : Nat) : Int); omega), by omega, by omega⟩
            refine lx_move (vp) rfl rfl <| lx_ixB (i := 0) (0) rfl Try.underlying85 Try.sizeOf3 rfl rfl (by omega) rfl <| lx_ldB (.int .i64 ((a : Nat) : Int)) rfl rfl fl3 hbk2 (by rw [hgc]; rfl) rfl <| lx_ix (i := a) rfl eT29 ho5.rd rfl rfl (by omega) <| lx_ld (i := a) (j := 0) ((gt hs a).v) rfl rfl fl70 ho5.rd (by omega) rfl rfl <| lx_ixB (i := 1) (1) rfl Try.underlying85 Try.sizeOf3 rfl rfl (by omega) rfl <| lx_ldB (.int .i64 ((b : Nat) : Int)) rfl rfl fl3 hbk2 (by rw [hgc]; rfl) rfl <| lx_ix (i := b) rfl eT70 (hot5.2.1 a (by omega)).rd rfl rfl (by rw [hq.2 a (by omega)]; omega) <| lx_st (i := b) true rfl rfl Try.sizeOf4 (hot5.2.1 a (by omega)) (by rw [hq.2 a (by omega)]; omega) rfl rfl (fun _ _ _ _ _ => trivial) fun h4 ho6 hc2 hsz2 => ?_
            have hx0_4 := hx0_3.trans ((hot5.2.1 a (by omega)).ext hc2 hx0_3.size)
            have ho7 := ho5.chg hc2 (Dj.symm ((djt_ty hot5 ho5 (by decide)) a (by rw [hot5.1]; exact (by omega))))
            have hb1 := hbk2.chg hc2 (hnb1 a (by rw [hot5.1]; exact (by omega)))
            have hot6 := OT.cell hot5 (by omega) hc2 ho6
            have hl_hot6 := hot6.1
            refine lx_nil <| wi_inBlock <| wi_reg rfl <| lx_add (((i + 1 : Nat) : Int)) rfl rfl rfl (by omega) (by omega) (by omega) <| lx_move (.int .i64 ((i + 1 : Nat) : Int)) rfl rfl <| lx_nil <| ?_
            -- L0.1
            refine IH1 _ _ (i + 1, hs, p.set a ((gt p a).set b true)) (agree_ups rfl agree_self) ⟨rfl, trivial⟩ ⟨?_, ?_, hx0_4, ?_, ?_, ?_, ?_⟩ ?_
            · first | exact ho7 | (simpa using ho7)
            · first | exact hot6 | (simpa using hot6)
            · try dsimp only
              omega
            · try dsimp only
              exact sq_set hq (by omega)
            · try dsimp only
              intro j hj; by_cases e : j = i
              · subst e; rw [hgc]; exact inR_iff.2 ⟨by show (0 : Int) ≤ (a : Int); omega, by show (0 : Int) ≤ (b : Int); omega, by show (a : Int) < m; omega, by show (b : Int) < m; omega⟩
              · exact hr j (by omega)
            · try dsimp only
              exact pairW_step (by omega) hq ha hb hgc hp
            · first | omega | (dsimp only; omega)
      · refine lx_nil <| wi_seq <| wi_false rfl <| wi_exit rfl <| wi_seq <| wi_seq <| wi_reg rfl <| ?_
        have hpl : p.length = m := hq.1
        refine lx_move (vp) rfl rfl <| lx_call [vp] rfl rfl Try.call116 rfl (oclosed_spec hh1 h.size vp hs p ho3 hot3 hx0_1.size (by omega) (by rw [hpl]; exact hq)) (fun _ _ _ => trivial) ?_
        rintro vp h5 ⟨r_1, rfl, ho8, hot7, hr_1, hx3⟩
        have hx0_5 := hx0_1.trans hx3
        have hl_hot7 := hot7.1
        refine lx_assign (vp) rfl rfl <| lx_nil <| wi_seq <| wi_reg rfl <| ?_
        have hrt : r_1 = tabF m (closW m ls) := by rw [hr_1]; exact clos_tab hq (by omega) hp
        have hce := closE_ok (by omega) (by omega) (fun j hj => hr j (by omega))
        rw [← chkT_tabF (by omega) (by omega), ← hrt] at hce
        have hqr : Sq r_1 m := by rw [hrt]; exact tabF_sq _ _
        refine lx_move (vp) rfl rfl <| lx_call [vp] rfl rfl Try.call62 rfl (ocheck_spec h5 vp hs r_1 ho8.rd hot7.rt (by rw [hqr.1]; omega) (fun i hi => by rw [hqr.2 i (by rw [← hqr.1]; exact hi)]; omega)) (fun _ _ _ => trivial) ?_
        rintro _ h6 ⟨rfl, hx4⟩
        have hx0_6 := hx0_5.trans2 hx4 hx0_5.size
        have ho9 := ho8.extS hx4
        have hot8 := hot7.extS hx4
        refine lx_neqS rfl rfl rfl (fun c6 => ?_) (fun c6 => ?_)
        · refine lx_nil <| wi_true rfl <| wi_seq <| wi_reg rfl <| lx_assign (.slice none 0 0) rfl rfl <| lx_assign (.int .i64 90) rfl rfl <| lx_nil <| ?_
          -- R5
          refine wi_ret ⟨.tuple #[.slice none 0 0, .int .i64 90], (res_two rfl rfl rfl), ⟨.slice none 0 0, [], [], ?_, (owE_nil encHd _ h.size 70), (OT.nil encB _ h.size 4), ?_, hx0_6⟩⟩
          · first
            | (rw [closE_size (by omega)]; done)
            | (rw [closE_out (i := i) (by omega) (by omega)]; done)
            | (rw [hce]; have hcc := chkT_cases r_1; first | (rw [hcc.resolve_left (by omega)]; done) | (rw [hcc.resolve_right (by omega)]; done))
          · first
            | exact .inl ⟨by rw [closE_size (by omega)]; decide, rfl⟩
            | exact .inl ⟨by rw [closE_out (i := i) (by omega) (by omega)]; decide, rfl⟩
            | exact .inl ⟨by omega, rfl⟩
            | exact .inr ⟨by omega, by rw [Int.toNat_natCast]; exact hrt⟩
        · refine lx_nil <| wi_false rfl <| wi_skip <| wi_seq <| wi_reg rfl <| lx_move (vp) rfl rfl <| lx_assign (vp) rfl rfl <| lx_assign (.int .i64 0) rfl rfl <| lx_nil <| ?_
          -- R6
          refine wi_ret ⟨.tuple #[vp, .int .i64 0], (res_two rfl rfl rfl), ⟨vp, hs, r_1, ?_, ho9, hot8, ?_, hx0_6⟩⟩
          · first
            | (rw [closE_size (by omega)]; done)
            | (rw [closE_out (i := i) (by omega) (by omega)]; done)
            | (rw [hce]; have hcc := chkT_cases r_1; first | (rw [hcc.resolve_left (by omega)]; done) | (rw [hcc.resolve_right (by omega)]; done))
          · first
            | exact .inl ⟨by rw [closE_size (by omega)]; decide, rfl⟩
            | exact .inl ⟨by rw [closE_out (i := i) (by omega) (by omega)]; decide, rfl⟩
            | exact .inl ⟨by omega, rfl⟩
            | exact .inr ⟨by omega, by rw [Int.toNat_natCast]; exact hrt⟩

end Go.Proofs.Ytdokijbdnajhgaa
namespace Go.Proofs.Ytdokijbdnajhgaa
open Go Go.X

set_option maxRecDepth 10000 in
theorem risorder_spec (h : Heap) (vp : Value) (hs : List Hdr) (p : List (List Bool)) (hr_vp : RdE encHd h vp hs) (ht_vp : RT encB h hs p) (hp1 : p.length ≤ 1000000) (hp2 : ∀ i, i < p.length → (gt p i).length ≤ 1000000) : Fx Try.prog 112 [vp] h (fun v h' => v = .bool (isT p) ∧ h = h') := by
  have hl_vp := ht_vp.1
  refine fx_intro (n := 92) [(0, vp)] Try.func112 rfl rfl (by simp) ⟨rfl, trivial⟩ fun g0 => ?_
  refine wi_seq <| wi_reg rfl <| lx_assign (.bool false) rfl rfl <| lx_nil <| wi_seq <| wi_reg rfl <| lx_move (vp) rfl rfl <| lx_len rfl Try.underlying23 hr_vp rfl <| lx_assign (.int .i64 ((hs.length : Nat) : Int)) rfl rfl <| lx_nil <| wi_seq <| wi_seq <| wi_reg rfl <| lx_assign (.int .i64 0) rfl rfl <| lx_nil <| wi_block <| ?_
  refine wi_loop (σ := Nat) (rngB 10 22 [2, 4]) (fun (w : Nat) => [(4, .int .i64 ((w : Nat) : Int))]) (fun (w : Nat) (hh : Heap) => h = hh ∧ (w ≤ p.length) ∧ (∀ j, j < w → (gt p j).length = p.length)) (fun (w : Nat) => p.length - w) 0 ⟨rfl, trivial⟩ ⟨rfl, ?_, ?_⟩ ?_
  · try dsimp only
    omega
  · try dsimp only
    intro j hj; omega
  rintro g1 w hh1 ⟨rfl, hw, he⟩ IH1
  refine wi_seq <| wi_seq <| wi_reg rfl <| lx_move (.int .i64 ((w : Nat) : Int)) rfl rfl <| lx_move (.int .i64 ((hs.length : Nat) : Int)) rfl rfl <| lx_lssS rfl rfl rfl (fun c1 => ?_) (fun c1 => ?_)
  · refine lx_nil <| wi_true rfl <| wi_skip <| wi_seq <| wi_block <| wi_seq <| wi_reg rfl <| lx_move (vp) rfl rfl <| lx_move (.int .i64 ((w : Nat) : Int)) rfl rfl <| lx_ix (i := w) rfl eT23 hr_vp rfl rfl (by omega) <| lx_ld (i := w) (j := 0) ((gt hs w).v) rfl rfl fl70 hr_vp (by omega) rfl rfl <| lx_len rfl Try.underlying70 (ht_vp.2 w (by omega)) rfl <| lx_move (.int .i64 ((hs.length : Nat) : Int)) rfl rfl <| lx_neqS rfl rfl rfl (fun c2 => ?_) (fun c2 => ?_)
    · refine lx_nil <| wi_true rfl <| wi_seq <| wi_reg rfl <| lx_assign (.bool false) rfl rfl <| lx_nil <| ?_
      -- R1
      refine wi_ret ⟨.bool false, (res_one rfl rfl), ⟨?_, rfl⟩⟩
      · congr 1
        first
        | exact (isT_iff.2 ⟨hsQ, fun a b ha hb => hA a (by omega) b hb⟩).symm
        | exact (bad_sq (i := w) (by omega) (by omega)).symm
        | exact (bad_ok (x := x) (y := x) (by omega) (by omega) (bad_refl rfl (by first | assumption | exact nbf (by assumption) | exact nbt (by assumption)))).symm
        | exact (bad_ok (x := x) (y := y) (by omega) (by omega) (bad_tri (z := z) (by omega) (by first | assumption | exact nbf (by assumption) | exact nbt (by assumption)) (by first | assumption | exact nbf (by assumption) | exact nbt (by assumption)) (by first | assumption | exact nbf (by assumption) | exact nbt (by assumption)))).symm
        | exact (bad_ok (x := x) (y := y) (by omega) (by omega) (bad_anti (by omega) (by first | assumption | exact nbf (by assumption) | exact nbt (by assumption)) (by first | assumption | exact nbf (by assumption) | exact nbt (by assumption)))).symm
    · refine lx_nil <| wi_false rfl <| wi_skip <| wi_inBlock <| wi_reg rfl <| lx_move (.int .i64 ((w : Nat) : Int)) rfl rfl <| lx_add (((w + 1 : Nat) : Int)) rfl rfl rfl (by omega) (by omega) (by omega) <| lx_assign (.int .i64 ((w + 1 : Nat) : Int)) rfl rfl <| lx_nil <| ?_
      -- L0.1
      refine IH1 _ _ (w + 1) (agree_ups rfl agree_self) ⟨rfl, trivial⟩ ⟨rfl, ?_, ?_⟩ ?_
      · try dsimp only
        omega
      · try dsimp only
        intro j hj; by_cases e : j = w
        · subst e; omega
        · exact he j (by omega)
      · first | omega | (dsimp only; omega)
  · refine lx_nil <| wi_false rfl <| wi_exit rfl <| wi_seq <| wi_seq <| wi_reg rfl <| ?_
    have hsQ : Sq p p.length := ⟨rfl, fun j hj => he j (by omega)⟩
    refine lx_assign (.int .i64 0) rfl rfl <| lx_nil <| wi_block <| ?_
    refine wi_loop (σ := Nat) (rngB 22 92 [2, 5, 6, 7]) (fun (x : Nat) => [(5, .int .i64 ((x : Nat) : Int))]) (fun (x : Nat) (hh : Heap) => h = hh ∧ (x ≤ p.length) ∧ (∀ a, a < x → ∀ b, b < p.length → okP p.length (pb p) a b)) (fun (x : Nat) => p.length - x) 0 ⟨rfl, trivial⟩ ⟨rfl, ?_, ?_⟩ ?_
    · try dsimp only
      omega
    · try dsimp only
      intro a ha; omega
    rintro g2 x hh2 ⟨rfl, hx, hA⟩ IH2
    refine wi_seq <| wi_seq <| wi_reg rfl <| lx_move (.int .i64 ((x : Nat) : Int)) rfl rfl <| lx_move (.int .i64 ((hs.length : Nat) : Int)) rfl rfl <| lx_lssS rfl rfl rfl (fun c3 => ?_) (fun c3 => ?_)
    · refine lx_nil <| wi_true rfl <| wi_skip <| wi_seq <| wi_block <| wi_seq <| wi_seq <| wi_reg rfl <| lx_move (vp) rfl rfl <| lx_move (.int .i64 ((x : Nat) : Int)) rfl rfl <| lx_ix (i := x) rfl eT23 hr_vp rfl rfl (by omega) <| lx_ld (i := x) (j := 0) ((gt hs x).v) rfl rfl fl70 hr_vp (by omega) rfl rfl <| lx_move (.int .i64 ((x : Nat) : Int)) rfl rfl <| lx_ix (i := x) rfl eT70 (ht_vp.2 x (by omega)) rfl rfl (by rw [hsQ.2 x (by omega)]; omega) <| lx_ld (i := x) (j := 0) (.bool (gt (gt p x) x)) rfl rfl fl4 (ht_vp.2 x (by omega)) (by rw [hsQ.2 x (by omega)]; omega) rfl rfl <| lx_not rfl rfl <| lx_nil <| wi_condS (t := !(gt (gt p x) x)) rfl (fun c4 => ?_) (fun c4 => ?_)
      · refine wi_seq <| wi_reg rfl <| lx_assign (.bool false) rfl rfl <| lx_nil <| ?_
        -- R2
        refine wi_ret ⟨.bool false, (res_one rfl rfl), ⟨?_, rfl⟩⟩
        · congr 1
          first
          | exact (isT_iff.2 ⟨hsQ, fun a b ha hb => hA a (by omega) b hb⟩).symm
          | exact (bad_sq (i := w) (by omega) (by omega)).symm
          | exact (bad_ok (x := x) (y := x) (by omega) (by omega) (bad_refl rfl (by first | assumption | exact nbf (by assumption) | exact nbt (by assumption)))).symm
          | exact (bad_ok (x := x) (y := y) (by omega) (by omega) (bad_tri (z := z) (by omega) (by first | assumption | exact nbf (by assumption) | exact nbt (by assumption)) (by first | assumption | exact nbf (by assumption) | exact nbt (by assumption)) (by first | assumption | exact nbf (by assumption) | exact nbt (by assumption)))).symm
          | exact (bad_ok (x := x) (y := y) (by omega) (by omega) (bad_anti (by omega) (by first | assumption | exact nbf (by assumption) | exact nbt (by assumption)) (by first | assumption | exact nbf (by assumption) | exact nbt (by assumption)))).symm
      · refine wi_skip <| wi_seq <| wi_reg rfl <| ?_
        have hre : pb p x x = true := nbf (by assumption)
        refine lx_assign (.int .i64 0) rfl rfl <| lx_nil <| wi_block <| ?_
        refine wi_loop (σ := Nat) (rngB 35 92 [2, 6, 7]) (fun (y : Nat) => [(6, .int .i64 ((y : Nat) : Int))]) (fun (y : Nat) (hh : Heap) => h = hh ∧ (y ≤ p.length) ∧ (∀ b, b < y → okP p.length (pb p) x b)) (fun (y : Nat) => p.length - y) 0 ⟨rfl, trivial⟩ ⟨rfl, ?_, ?_⟩ ?_
        · try dsimp only
          omega
        · try dsimp only
          intro b hb; omega
        rintro g3 y hh3 ⟨rfl, hy, hB⟩ IH3
        refine wi_seq <| wi_seq <| wi_reg rfl <| lx_move (.int .i64 ((y : Nat) : Int)) rfl rfl <| lx_move (.int .i64 ((hs.length : Nat) : Int)) rfl rfl <| lx_lssS rfl rfl rfl (fun c5 => ?_) (fun c5 => ?_)
        · refine lx_nil <| wi_true rfl <| wi_skip <| wi_seq <| wi_block <| wi_seq <| wi_seq <| wi_reg rfl <| lx_move (.int .i64 ((x : Nat) : Int)) rfl rfl <| lx_move (.int .i64 ((y : Nat) : Int)) rfl rfl <| lx_neqS rfl rfl rfl (fun c6 => ?_) (fun c6 => ?_)
          · refine lx_move (.bool true) rfl rfl <| lx_move (vp) rfl rfl <| lx_move (.int .i64 ((x : Nat) : Int)) rfl rfl <| lx_ix (i := x) rfl eT23 hr_vp rfl rfl (by omega) <| lx_ld (i := x) (j := 0) ((gt hs x).v) rfl rfl fl70 hr_vp (by omega) rfl rfl <| lx_move (.int .i64 ((y : Nat) : Int)) rfl rfl <| lx_ix (i := y) rfl eT70 (ht_vp.2 x (by omega)) rfl rfl (by rw [hsQ.2 x (by omega)]; omega) <| lx_ld (i := y) (j := 0) (.bool (gt (gt p x) y)) rfl rfl fl4 (ht_vp.2 x (by omega)) (by rw [hsQ.2 x (by omega)]; omega) rfl rfl <| lx_pick true (.bool (gt (gt p x) y)) rfl rfl rfl <| lx_move (.bool (gt (gt p x) y)) rfl rfl <| ?_
            cases c7 : (gt (gt p x) y)
            · refine lx_skip rfl <| lx_skip rfl <| lx_skip rfl <| lx_skip rfl <| lx_skip rfl <| lx_skip rfl <| lx_skip rfl <| lx_pick false (.bool false) rfl rfl rfl <| lx_nil <| wi_false rfl <| wi_skip <| wi_seq <| wi_reg rfl <| lx_assign (.int .i64 0) rfl rfl <| lx_nil <| wi_block <| ?_
              refine wi_loop (σ := Nat) (rngB 61 92 [2, 7]) (fun (z : Nat) => [(7, .int .i64 ((z : Nat) : Int))]) (fun (z : Nat) (hh : Heap) => h = hh ∧ (z ≤ p.length) ∧ (∀ c, c < z → pb p x y = true → pb p y c = true → pb p x c = true)) (fun (z : Nat) => p.length - z) 0 ⟨rfl, trivial⟩ ⟨rfl, ?_, ?_⟩ ?_
              · try dsimp only
                omega
              · try dsimp only
                intro c hc; omega
              rintro g4 z hh4 ⟨rfl, hz, hC⟩ IH4
              refine wi_seq <| wi_seq <| wi_reg rfl <| lx_move (.int .i64 ((z : Nat) : Int)) rfl rfl <| lx_move (.int .i64 ((hs.length : Nat) : Int)) rfl rfl <| lx_lssS rfl rfl rfl (fun c8 => ?_) (fun c8 => ?_)
              · refine lx_nil <| wi_true rfl <| wi_skip <| wi_seq <| wi_block <| wi_seq <| wi_reg rfl <| lx_move (vp) rfl rfl <| lx_move (.int .i64 ((x : Nat) : Int)) rfl rfl <| lx_ix (i := x) rfl eT23 hr_vp rfl rfl (by omega) <| lx_ld (i := x) (j := 0) ((gt hs x).v) rfl rfl fl70 hr_vp (by omega) rfl rfl <| lx_move (.int .i64 ((y : Nat) : Int)) rfl rfl <| lx_ix (i := y) rfl eT70 (ht_vp.2 x (by omega)) rfl rfl (by rw [hsQ.2 x (by omega)]; omega) <| lx_ld (i := y) (j := 0) (.bool false) rfl rfl fl4 (ht_vp.2 x (by omega)) (by rw [hsQ.2 x (by omega)]; omega) (by show some (Value.bool (gt (gt p x) y)) = _; rw [c7]) rfl <| lx_move (.bool false) rfl rfl <| lx_skip rfl <| lx_skip rfl <| lx_skip rfl <| lx_skip rfl <| lx_skip rfl <| lx_skip rfl <| lx_skip rfl <| lx_pick false (.bool false) rfl rfl rfl <| lx_move (.bool false) rfl rfl <| lx_skip rfl <| lx_skip rfl <| lx_skip rfl <| lx_skip rfl <| lx_skip rfl <| lx_skip rfl <| lx_skip rfl <| lx_skip rfl <| lx_pick false (.bool false) rfl rfl rfl <| lx_nil <| wi_false rfl <| wi_skip <| wi_inBlock <| wi_reg rfl <| lx_move (.int .i64 ((z : Nat) : Int)) rfl rfl <| lx_add (((z + 1 : Nat) : Int)) rfl rfl rfl (by omega) (by omega) (by omega) <| lx_assign (.int .i64 ((z + 1 : Nat) : Int)) rfl rfl <| lx_nil <| ?_
                -- L6.1
                refine IH4 _ _ (z + 1) (agree_ups rfl agree_self) ⟨rfl, trivial⟩ ⟨rfl, ?_, ?_⟩ ?_
                · try dsimp only
                  omega
                · try dsimp only
                  intro c hc h1 h2
                  by_cases e : c = z
                  · subst e; first | assumption | exact nbf (by assumption) | exact absurd h1 (ntb (by first | assumption | exact nbt (by assumption))) | exact absurd h2 (ntb (by first | assumption | exact nbt (by assumption)))
                  · exact hC c (by omega) h1 h2
                · first | omega | (dsimp only; omega)
              · refine lx_nil <| wi_false rfl <| wi_exit rfl <| wi_inBlock <| wi_reg rfl <| lx_move (.int .i64 ((y : Nat) : Int)) rfl rfl <| lx_add (((y + 1 : Nat) : Int)) rfl rfl rfl (by omega) (by omega) (by omega) <| lx_assign (.int .i64 ((y + 1 : Nat) : Int)) rfl rfl <| lx_nil <| ?_
                -- L4.1
                refine IH3 _ _ (y + 1) (agree_ups rfl (agree_mix (rngB_sub (by decide) (by decide) rfl) (agree_ups rfl agree_self))) ⟨rfl, trivial⟩ ⟨rfl, ?_, ?_⟩ ?_
                · try dsimp only
                  omega
                · try dsimp only
                  intro b hb
                  by_cases e : b = y
                  · subst e; exact ⟨fun e => (by first | assumption | exact nbf (by assumption) | (subst e; assumption) | (exfalso; omega)), fun h1 h2 => (by first | (exfalso; omega) | assumption | exact nbt (by assumption) | exact absurd h2 (ntb (by assumption))), fun c hc h1 h2 => hC c (by omega) h1 h2⟩
                  · exact hB b (by omega)
                · first | omega | (dsimp only; omega)
            · refine lx_move (vp) rfl rfl <| lx_move (.int .i64 ((y : Nat) : Int)) rfl rfl <| lx_ix (i := y) rfl eT23 hr_vp rfl rfl (by omega) <| lx_ld (i := y) (j := 0) ((gt hs y).v) rfl rfl fl70 hr_vp (by omega) rfl rfl <| lx_move (.int .i64 ((x : Nat) : Int)) rfl rfl <| lx_ix (i := x) rfl eT70 (ht_vp.2 y (by omega)) rfl rfl (by rw [hsQ.2 y (by omega)]; omega) <| lx_ld (i := x) (j := 0) (.bool (gt (gt p y) x)) rfl rfl fl4 (ht_vp.2 y (by omega)) (by rw [hsQ.2 y (by omega)]; omega) rfl rfl <| lx_pick true (.bool (gt (gt p y) x)) rfl rfl rfl <| lx_nil <| wi_condS (t := gt (gt p y) x) rfl (fun c9 => ?_) (fun c9 => ?_)
              · refine wi_seq <| wi_reg rfl <| lx_assign (.bool false) rfl rfl <| lx_nil <| ?_
                -- R3
                refine wi_ret ⟨.bool false, (res_one rfl rfl), ⟨?_, rfl⟩⟩
                · congr 1
                  first
                  | exact (isT_iff.2 ⟨hsQ, fun a b ha hb => hA a (by omega) b hb⟩).symm
                  | exact (bad_sq (i := w) (by omega) (by omega)).symm
                  | exact (bad_ok (x := x) (y := x) (by omega) (by omega) (bad_refl rfl (by first | assumption | exact nbf (by assumption) | exact nbt (by assumption)))).symm
                  | exact (bad_ok (x := x) (y := y) (by omega) (by omega) (bad_tri (z := z) (by omega) (by first | assumption | exact nbf (by assumption) | exact nbt (by assumption)) (by first | assumption | exact nbf (by assumption) | exact nbt (by assumption)) (by first | assumption | exact nbf (by assumption) | exact nbt (by assumption)))).symm
                  | exact (bad_ok (x := x) (y := y) (by omega) (by omega) (bad_anti (by omega) (by first | assumption | exact nbf (by assumption) | exact nbt (by assumption)) (by first | assumption | exact nbf (by assumption) | exact nbt (by assumption)))).symm
              · refine wi_skip <| wi_seq <| wi_reg rfl <| lx_assign (.int .i64 0) rfl rfl <| lx_nil <| wi_block <| ?_
                refine wi_loop (σ := Nat) (rngB 61 92 [2, 7]) (fun (z : Nat) => [(7, .int .i64 ((z : Nat) : Int))]) (fun (z : Nat) (hh : Heap) => h = hh ∧ (z ≤ p.length) ∧ (∀ c, c < z → pb p x y = true → pb p y c = true → pb p x c = true)) (fun (z : Nat) => p.length - z) 0 ⟨rfl, trivial⟩ ⟨rfl, ?_, ?_⟩ ?_
                · try dsimp only
                  omega
                · try dsimp only
                  intro c hc; omega
                rintro g5 z hh5 ⟨rfl, hz, hC⟩ IH5
                refine wi_seq <| wi_seq <| wi_reg rfl <| lx_move (.int .i64 ((z : Nat) : Int)) rfl rfl <| lx_move (.int .i64 ((hs.length : Nat) : Int)) rfl rfl <| lx_lssS rfl rfl rfl (fun c10 => ?_) (fun c10 => ?_)
                · refine lx_nil <| wi_true rfl <| wi_skip <| wi_seq <| wi_block <| wi_seq <| wi_reg rfl <| lx_move (vp) rfl rfl <| lx_move (.int .i64 ((x : Nat) : Int)) rfl rfl <| lx_ix (i := x) rfl eT23 hr_vp rfl rfl (by omega) <| lx_ld (i := x) (j := 0) ((gt hs x).v) rfl rfl fl70 hr_vp (by omega) rfl rfl <| lx_move (.int .i64 ((y : Nat) : Int)) rfl rfl <| lx_ix (i := y) rfl eT70 (ht_vp.2 x (by omega)) rfl rfl (by rw [hsQ.2 x (by omega)]; omega) <| lx_ld (i := y) (j := 0) (.bool true) rfl rfl fl4 (ht_vp.2 x (by omega)) (by rw [hsQ.2 x (by omega)]; omega) (by show some (Value.bool (gt (gt p x) y)) = _; rw [c7]) rfl <| lx_move (.bool true) rfl rfl <| lx_move (vp) rfl rfl <| lx_move (.int .i64 ((y : Nat) : Int)) rfl rfl <| lx_ix (i := y) rfl eT23 hr_vp rfl rfl (by omega) <| lx_ld (i := y) (j := 0) ((gt hs y).v) rfl rfl fl70 hr_vp (by omega) rfl rfl <| lx_move (.int .i64 ((z : Nat) : Int)) rfl rfl <| lx_ix (i := z) rfl eT70 (ht_vp.2 y (by omega)) rfl rfl (by rw [hsQ.2 y (by omega)]; omega) <| lx_ld (i := z) (j := 0) (.bool (gt (gt p y) z)) rfl rfl fl4 (ht_vp.2 y (by omega)) (by rw [hsQ.2 y (by omega)]; omega) rfl rfl <| lx_pick true (.bool (gt (gt p y) z)) rfl rfl rfl <| lx_move (.bool (gt (gt p y) z)) rfl rfl <| ?_
                  cases c11 : (gt (gt p y) z)
                  · refine lx_skip rfl <| lx_skip rfl <| lx_skip rfl <| lx_skip rfl <| lx_skip rfl <| lx_skip rfl <| lx_skip rfl <| lx_skip rfl <| lx_pick false (.bool false) rfl rfl rfl <| lx_nil <| wi_false rfl <| wi_skip <| wi_inBlock <| wi_reg rfl <| lx_move (.int .i64 ((z : Nat) : Int)) rfl rfl <| lx_add (((z + 1 : Nat) : Int)) rfl rfl rfl (by omega) (by omega) (by omega) <| lx_assign (.int .i64 ((z + 1 : Nat) : Int)) rfl rfl <| lx_nil <| ?_
                    -- L6.1
                    refine IH5 _ _ (z + 1) (agree_ups rfl agree_self) ⟨rfl, trivial⟩ ⟨rfl, ?_, ?_⟩ ?_
                    · try dsimp only
                      omega
                    · try dsimp only
                      intro c hc h1 h2
                      by_cases e : c = z
                      · subst e; first | assumption | exact nbf (by assumption) | exact absurd h1 (ntb (by first | assumption | exact nbt (by assumption))) | exact absurd h2 (ntb (by first | assumption | exact nbt (by assumption)))
                      · exact hC c (by omega) h1 h2
                    · first | omega | (dsimp only; omega)
                  · refine lx_move (vp) rfl rfl <| lx_move (.int .i64 ((x : Nat) : Int)) rfl rfl <| lx_ix (i := x) rfl eT23 hr_vp rfl rfl (by omega) <| lx_ld (i := x) (j := 0) ((gt hs x).v) rfl rfl fl70 hr_vp (by omega) rfl rfl <| lx_move (.int .i64 ((z : Nat) : Int)) rfl rfl <| lx_ix (i := z) rfl eT70 (ht_vp.2 x (by omega)) rfl rfl (by rw [hsQ.2 x (by omega)]; omega) <| lx_ld (i := z) (j := 0) (.bool (gt (gt p x) z)) rfl rfl fl4 (ht_vp.2 x (by omega)) (by rw [hsQ.2 x (by omega)]; omega) rfl rfl <| lx_not rfl rfl <| lx_pick true (.bool (!(gt (gt p x) z))) rfl rfl rfl <| lx_nil <| wi_condS (t := !(gt (gt p x) z)) rfl (fun c12 => ?_) (fun c12 => ?_)
                    · refine wi_seq <| wi_reg rfl <| lx_assign (.bool false) rfl rfl <| lx_nil <| ?_
                      -- R4
                      refine wi_ret ⟨.bool false, (res_one rfl rfl), ⟨?_, rfl⟩⟩
                      · congr 1
                        first
                        | exact (isT_iff.2 ⟨hsQ, fun a b ha hb => hA a (by omega) b hb⟩).symm
                        | exact (bad_sq (i := w) (by omega) (by omega)).symm
                        | exact (bad_ok (x := x) (y := x) (by omega) (by omega) (bad_refl rfl (by first | assumption | exact nbf (by assumption) | exact nbt (by assumption)))).symm
                        | exact (bad_ok (x := x) (y := y) (by omega) (by omega) (bad_tri (z := z) (by omega) (by first | assumption | exact nbf (by assumption) | exact nbt (by assumption)) (by first | assumption | exact nbf (by assumption) | exact nbt (by assumption)) (by first | assumption | exact nbf (by assumption) | exact nbt (by assumption)))).symm
                        | exact (bad_ok (x := x) (y := y) (by omega) (by omega) (bad_anti (by omega) (by first | assumption | exact nbf (by assumption) | exact nbt (by assumption)) (by first | assumption | exact nbf (by assumption) | exact nbt (by assumption)))).symm
                    · refine wi_skip <| wi_inBlock <| wi_reg rfl <| lx_move (.int .i64 ((z : Nat) : Int)) rfl rfl <| lx_add (((z + 1 : Nat) : Int)) rfl rfl rfl (by omega) (by omega) (by omega) <| lx_assign (.int .i64 ((z + 1 : Nat) : Int)) rfl rfl <| lx_nil <| ?_
                      -- L6.2
                      refine IH5 _ _ (z + 1) (agree_ups rfl agree_self) ⟨rfl, trivial⟩ ⟨rfl, ?_, ?_⟩ ?_
                      · try dsimp only
                        omega
                      · try dsimp only
                        intro c hc h1 h2
                        by_cases e : c = z
                        · subst e; first | assumption | exact nbf (by assumption) | exact absurd h1 (ntb (by first | assumption | exact nbt (by assumption))) | exact absurd h2 (ntb (by first | assumption | exact nbt (by assumption)))
                        · exact hC c (by omega) h1 h2
                      · first | omega | (dsimp only; omega)
                · refine lx_nil <| wi_false rfl <| wi_exit rfl <| wi_inBlock <| wi_reg rfl <| lx_move (.int .i64 ((y : Nat) : Int)) rfl rfl <| lx_add (((y + 1 : Nat) : Int)) rfl rfl rfl (by omega) (by omega) (by omega) <| lx_assign (.int .i64 ((y + 1 : Nat) : Int)) rfl rfl <| lx_nil <| ?_
                  -- L4.2
                  refine IH3 _ _ (y + 1) (agree_ups rfl (agree_mix (rngB_sub (by decide) (by decide) rfl) (agree_ups rfl agree_self))) ⟨rfl, trivial⟩ ⟨rfl, ?_, ?_⟩ ?_
                  · try dsimp only
                    omega
                  · try dsimp only
                    intro b hb
                    by_cases e : b = y
                    · subst e; exact ⟨fun e => (by first | assumption | exact nbf (by assumption) | (subst e; assumption) | (exfalso; omega)), fun h1 h2 => (by first | (exfalso; omega) | assumption | exact nbt (by assumption) | exact absurd h2 (ntb (by assumption))), fun c hc h1 h2 => hC c (by omega) h1 h2⟩
                    · exact hB b (by omega)
                  · first | omega | (dsimp only; omega)
          · refine lx_move (.bool false) rfl rfl <| lx_skip rfl <| lx_skip rfl <| lx_skip rfl <| lx_skip rfl <| lx_skip rfl <| lx_skip rfl <| lx_skip rfl <| lx_pick false (.bool false) rfl rfl rfl <| lx_move (.bool false) rfl rfl <| lx_skip rfl <| lx_skip rfl <| lx_skip rfl <| lx_skip rfl <| lx_skip rfl <| lx_skip rfl <| lx_skip rfl <| lx_pick false (.bool false) rfl rfl rfl <| lx_nil <| wi_false rfl <| wi_skip <| wi_seq <| wi_reg rfl <| lx_assign (.int .i64 0) rfl rfl <| lx_nil <| wi_block <| ?_
            refine wi_loop (σ := Nat) (rngB 61 92 [2, 7]) (fun (z : Nat) => [(7, .int .i64 ((z : Nat) : Int))]) (fun (z : Nat) (hh : Heap) => h = hh ∧ (z ≤ p.length) ∧ (∀ c, c < z → pb p x y = true → pb p y c = true → pb p x c = true)) (fun (z : Nat) => p.length - z) 0 ⟨rfl, trivial⟩ ⟨rfl, ?_, ?_⟩ ?_
            · try dsimp only
              omega
            · try dsimp only
              intro c hc; omega
            rintro g6 z hh6 ⟨rfl, hz, hC⟩ IH6
            refine wi_seq <| wi_seq <| wi_reg rfl <| lx_move (.int .i64 ((z : Nat) : Int)) rfl rfl <| lx_move (.int .i64 ((hs.length : Nat) : Int)) rfl rfl <| lx_lssS rfl rfl rfl (fun c13 => ?_) (fun c13 => ?_)
            · refine lx_nil <| wi_true rfl <| wi_skip <| wi_seq <| wi_block <| wi_seq <| wi_reg rfl <| lx_move (vp) rfl rfl <| lx_move (.int .i64 ((x : Nat) : Int)) rfl rfl <| lx_ix (i := x) rfl eT23 hr_vp rfl rfl (by omega) <| lx_ld (i := x) (j := 0) ((gt hs x).v) rfl rfl fl70 hr_vp (by omega) rfl rfl <| lx_move (.int .i64 ((y : Nat) : Int)) rfl rfl <| lx_ix (i := y) rfl eT70 (ht_vp.2 x (by omega)) rfl rfl (by rw [hsQ.2 x (by omega)]; omega) <| lx_ld (i := y) (j := 0) (.bool (gt (gt p x) y)) rfl rfl fl4 (ht_vp.2 x (by omega)) (by rw [hsQ.2 x (by omega)]; omega) rfl rfl <| lx_move (.bool (gt (gt p x) y)) rfl rfl <| ?_
              cases c14 : (gt (gt p x) y)
              · refine lx_skip rfl <| lx_skip rfl <| lx_skip rfl <| lx_skip rfl <| lx_skip rfl <| lx_skip rfl <| lx_skip rfl <| lx_pick false (.bool false) rfl rfl rfl <| lx_move (.bool false) rfl rfl <| lx_skip rfl <| lx_skip rfl <| lx_skip rfl <| lx_skip rfl <| lx_skip rfl <| lx_skip rfl <| lx_skip rfl <| lx_skip rfl <| lx_pick false (.bool false) rfl rfl rfl <| lx_nil <| wi_false rfl <| wi_skip <| wi_inBlock <| wi_reg rfl <| lx_move (.int .i64 ((z : Nat) : Int)) rfl rfl <| lx_add (((z + 1 : Nat) : Int)) rfl rfl rfl (by omega) (by omega) (by omega) <| lx_assign (.int .i64 ((z + 1 : Nat) : Int)) rfl rfl <| lx_nil <| ?_
                -- L6.1
                refine IH6 _ _ (z + 1) (agree_ups rfl agree_self) ⟨rfl, trivial⟩ ⟨rfl, ?_, ?_⟩ ?_
                · try dsimp only
                  omega
                · try dsimp only
                  intro c hc h1 h2
                  by_cases e : c = z
                  · subst e; first | assumption | exact nbf (by assumption) | exact absurd h1 (ntb (by first | assumption | exact nbt (by assumption))) | exact absurd h2 (ntb (by first | assumption | exact nbt (by assumption)))
                  · exact hC c (by omega) h1 h2
                · first | omega | (dsimp only; omega)
              · refine lx_move (vp) rfl rfl <| lx_move (.int .i64 ((y : Nat) : Int)) rfl rfl <| lx_ix (i := y) rfl eT23 hr_vp rfl rfl (by omega) <| lx_ld (i := y) (j := 0) ((gt hs y).v) rfl rfl fl70 hr_vp (by omega) rfl rfl <| lx_move (.int .i64 ((z : Nat) : Int)) rfl rfl <| lx_ix (i := z) rfl eT70 (ht_vp.2 y (by omega)) rfl rfl (by rw [hsQ.2 y (by omega)]; omega) <| lx_ld (i := z) (j := 0) (.bool (gt (gt p y) z)) rfl rfl fl4 (ht_vp.2 y (by omega)) (by rw [hsQ.2 y (by omega)]; omega) rfl rfl <| lx_pick true (.bool (gt (gt p y) z)) rfl rfl rfl <| lx_move (.bool (gt (gt p y) z)) rfl rfl <| ?_
                cases c15 : (gt (gt p y) z)
                · refine lx_skip rfl <| lx_skip rfl <| lx_skip rfl <| lx_skip rfl <| lx_skip rfl <| lx_skip rfl <| lx_skip rfl <| lx_skip rfl <| lx_pick false (.bool false) rfl rfl rfl <| lx_nil <| wi_false rfl <| wi_skip <| wi_inBlock <| wi_reg rfl <| lx_move (.int .i64 ((z : Nat) : Int)) rfl rfl <| lx_add (((z + 1 : Nat) : Int)) rfl rfl rfl (by omega) (by omega) (by omega) <| lx_assign (.int .i64 ((z + 1 : Nat) : Int)) rfl rfl <| lx_nil <| ?_
                  -- L6.2
                  refine IH6 _ _ (z + 1) (agree_ups rfl agree_self) ⟨rfl, trivial⟩ ⟨rfl, ?_, ?_⟩ ?_
                  · try dsimp only
                    omega
                  · try dsimp only
                    intro c hc h1 h2
                    by_cases e : c = z
                    · subst e; first | assumption | exact nbf (by assumption) | exact absurd h1 (ntb (by first | assumption | exact nbt (by assumption))) | exact absurd h2 (ntb (by first | assumption | exact nbt (by assumption)))
                    · exact hC c (by omega) h1 h2
                  · first | omega | (dsimp only; omega)
                · refine lx_move (vp) rfl rfl <| lx_move (.int .i64 ((x : Nat) : Int)) rfl rfl <| lx_ix (i := x) rfl eT23 hr_vp rfl rfl (by omega) <| lx_ld (i := x) (j := 0) ((gt hs x).v) rfl rfl fl70 hr_vp (by omega) rfl rfl <| lx_move (.int .i64 ((z : Nat) : Int)) rfl rfl <| lx_ix (i := z) rfl eT70 (ht_vp.2 x (by omega)) rfl rfl (by rw [hsQ.2 x (by omega)]; omega) <| lx_ld (i := z) (j := 0) (.bool (gt (gt p x) z)) rfl rfl fl4 (ht_vp.2 x (by omega)) (by rw [hsQ.2 x (by omega)]; omega) rfl rfl <| lx_not rfl rfl <| lx_pick true (.bool (!(gt (gt p x) z))) rfl rfl rfl <| lx_nil <| wi_condS (t := !(gt (gt p x) z)) rfl (fun c16 => ?_) (fun c16 => ?_)
                  · refine wi_seq <| wi_reg rfl <| lx_assign (.bool false) rfl rfl <| lx_nil <| ?_
                    -- R5
                    refine wi_ret ⟨.bool false, (res_one rfl rfl), ⟨?_, rfl⟩⟩
                    · congr 1
                      first
                      | exact (isT_iff.2 ⟨hsQ, fun a b ha hb => hA a (by omega) b hb⟩).symm
                      | exact (bad_sq (i := w) (by omega) (by omega)).symm
                      | exact (bad_ok (x := x) (y := x) (by omega) (by omega) (bad_refl rfl (by first | assumption | exact nbf (by assumption) | exact nbt (by assumption)))).symm
                      | exact (bad_ok (x := x) (y := y) (by omega) (by omega) (bad_tri (z := z) (by omega) (by first | assumption | exact nbf (by assumption) | exact nbt (by assumption)) (by first | assumption | exact nbf (by assumption) | exact nbt (by assumption)) (by first | assumption | exact nbf (by assumption) | exact nbt (by assumption)))).symm
                      | exact (bad_ok (x := x) (y := y) (by omega) (by omega) (bad_anti (by omega) (by first | assumption | exact nbf (by assumption) | exact nbt (by assumption)) (by first | assumption | exact nbf (by assumption) | exact nbt (by assumption)))).symm
                  · refine wi_skip <| wi_inBlock <| wi_reg rfl <| lx_move (.int .i64 ((z : Nat) : Int)) rfl rfl <| lx_add (((z + 1 : Nat) : Int)) rfl rfl rfl (by omega) (by omega) (by omega) <| lx_assign (.int .i64 ((z + 1 : Nat) : Int)) rfl rfl <| lx_nil <| ?_
                    -- L6.3
                    refine IH6 _ _ (z + 1) (agree_ups rfl agree_self) ⟨rfl, trivial⟩ ⟨rfl, ?_, ?_⟩ ?_
                    · try dsimp only
                      omega
                    · try dsimp only
                      intro c hc h1 h2
                      by_cases e : c = z
                      · subst e; first | assumption | exact nbf (by assumption) | exact absurd h1 (ntb (by first | assumption | exact nbt (by assumption))) | exact absurd h2 (ntb (by first | assumption | exact nbt (by assumption)))
                      · exact hC c (by omega) h1 h2
                    · first | omega | (dsimp only; omega)
            · refine lx_nil <| wi_false rfl <| wi_exit rfl <| wi_inBlock <| wi_reg rfl <| lx_move (.int .i64 ((y : Nat) : Int)) rfl rfl <| lx_add (((y + 1 : Nat) : Int)) rfl rfl rfl (by omega) (by omega) (by omega) <| lx_assign (.int .i64 ((y + 1 : Nat) : Int)) rfl rfl <| lx_nil <| ?_
              -- L4.3
              refine IH3 _ _ (y + 1) (agree_ups rfl (agree_mix (rngB_sub (by decide) (by decide) rfl) (agree_ups rfl agree_self))) ⟨rfl, trivial⟩ ⟨rfl, ?_, ?_⟩ ?_
              · try dsimp only
                omega
              · try dsimp only
                intro b hb
                by_cases e : b = y
                · subst e; exact ⟨fun e => (by first | assumption | exact nbf (by assumption) | (subst e; assumption) | (exfalso; omega)), fun h1 h2 => (by first | (exfalso; omega) | assumption | exact nbt (by assumption) | exact absurd h2 (ntb (by assumption))), fun c hc h1 h2 => hC c (by omega) h1 h2⟩
                · exact hB b (by omega)
              · first | omega | (dsimp only; omega)
        · refine lx_nil <| wi_false rfl <| wi_exit rfl <| wi_inBlock <| wi_reg rfl <| lx_move (.int .i64 ((x : Nat) : Int)) rfl rfl <| lx_add (((x + 1 : Nat) : Int)) rfl rfl rfl (by omega) (by omega) (by omega) <| lx_assign (.int .i64 ((x + 1 : Nat) : Int)) rfl rfl <| lx_nil <| ?_
          -- L2.1
          refine IH2 _ _ (x + 1) (agree_ups rfl (agree_mix (rngB_sub (by decide) (by decide) rfl) (agree_ups rfl agree_self))) ⟨rfl, trivial⟩ ⟨rfl, ?_, ?_⟩ ?_
          · try dsimp only
            omega
          · try dsimp only
            intro a ha b hb
            by_cases e : a = x
            · subst e; exact hB b (by omega)
            · exact hA a (by omega) b hb
          · first | omega | (dsimp only; omega)
    · refine lx_nil <| wi_false rfl <| wi_exit rfl <| wi_seq <| wi_reg rfl <| lx_assign (.bool true) rfl rfl <| lx_nil <| ?_
      -- R6
      refine wi_ret ⟨.bool true, (res_one rfl rfl), ⟨?_, rfl⟩⟩
      · congr 1
        first
        | exact (isT_iff.2 ⟨hsQ, fun a b ha hb => hA a (by omega) b hb⟩).symm
        | exact (bad_sq (i := w) (by omega) (by omega)).symm
        | exact (bad_ok (x := x) (y := x) (by omega) (by omega) (bad_refl rfl (by first | assumption | exact nbf (by assumption) | exact nbt (by assumption)))).symm
        | exact (bad_ok (x := x) (y := y) (by omega) (by omega) (bad_tri (z := z) (by omega) (by first | assumption | exact nbf (by assumption) | exact nbt (by assumption)) (by first | assumption | exact nbf (by assumption) | exact nbt (by assumption)) (by first | assumption | exact nbf (by assumption) | exact nbt (by assumption)))).symm
        | exact (bad_ok (x := x) (y := y) (by omega) (by omega) (bad_anti (by omega) (by first | assumption | exact nbf (by assumption) | exact nbt (by assumption)) (by first | assumption | exact nbf (by assumption) | exact nbt (by assumption)))).symm

set_option maxRecDepth 10000 in
theorem rcheck_spec (h : Heap) (vp : Value) (hs : List Hdr) (p : List (List Bool)) (hr_vp : RdE encHd h vp hs) (ht_vp : RT encB h hs p) (hp1 : p.length ≤ 1000000) (hp2 : ∀ i, i < p.length → (gt p i).length ≤ 1000000) : Fx Try.prog 61 [vp] h (fun v h' => v = .int .i64 (chkT p) ∧ h = h') := by
  have hl_vp := ht_vp.1
  refine fx_intro (n := 16) [(0, vp)] Try.func61 rfl rfl (by simp) ⟨rfl, trivial⟩ fun g0 => ?_
  refine wi_seq <| wi_reg rfl <| lx_assign (.int .i64 0) rfl rfl <| lx_nil <| wi_seq <| wi_seq <| wi_reg rfl <| lx_move (vp) rfl rfl <| lx_len rfl Try.underlying23 hr_vp rfl <| lx_lssS rfl rfl rfl (fun c1 => ?_) (fun c1 => ?_)
  · refine lx_move (.bool true) rfl rfl <| lx_skip rfl <| lx_skip rfl <| lx_skip rfl <| lx_pick true (.bool true) rfl rfl rfl <| lx_move (.bool true) rfl rfl <| lx_skip rfl <| lx_skip rfl <| lx_skip rfl <| lx_pick true (.bool true) rfl rfl rfl <| lx_nil <| wi_true rfl <| wi_seq <| wi_reg rfl <| lx_assign (.int .i64 90) rfl rfl <| lx_nil <| ?_
    -- R1
    refine wi_ret ⟨.int .i64 90, (res_one rfl rfl), ⟨?_, rfl⟩⟩
    · congr 1
      first
      | rw [chkT_size (by omega)]
      | (rw [chkT_bad (by first | assumption | exact nbt (by assumption))]; done)
      | (rw [ok_chkT (by omega) (by omega) (by first | assumption | exact nbf (by assumption))]; done)
  · refine lx_move (.bool false) rfl rfl <| lx_move (vp) rfl rfl <| lx_len rfl Try.underlying23 hr_vp rfl <| lx_gtrS rfl rfl rfl (fun c2 => ?_) (fun c2 => ?_)
    · refine lx_pick false (.bool true) rfl rfl rfl <| lx_move (.bool true) rfl rfl <| lx_skip rfl <| lx_skip rfl <| lx_skip rfl <| lx_pick true (.bool true) rfl rfl rfl <| lx_nil <| wi_true rfl <| wi_seq <| wi_reg rfl <| lx_assign (.int .i64 90) rfl rfl <| lx_nil <| ?_
      -- R2
      refine wi_ret ⟨.int .i64 90, (res_one rfl rfl), ⟨?_, rfl⟩⟩
      · congr 1
        first
        | rw [chkT_size (by omega)]
        | (rw [chkT_bad (by first | assumption | exact nbt (by assumption))]; done)
        | (rw [ok_chkT (by omega) (by omega) (by first | assumption | exact nbf (by assumption))]; done)
    · refine lx_pick false (.bool false) rfl rfl rfl <| lx_move (.bool false) rfl rfl <| lx_move (vp) rfl rfl <| lx_call [vp] rfl rfl Try.call112 rfl (risorder_spec h vp hs p hr_vp ht_vp (by omega) (by first | with_reducible assumption | omega)) (fun _ _ _ => trivial) ?_
      rintro _ h1 ⟨rfl, rfl⟩
      refine lx_not rfl rfl <| lx_pick false (.bool (!(isT p))) rfl rfl rfl <| lx_nil <| wi_condS (t := !(isT p)) rfl (fun c3 => ?_) (fun c3 => ?_)
      · refine wi_seq <| wi_reg rfl <| lx_assign (.int .i64 90) rfl rfl <| lx_nil <| ?_
        -- R3
        refine wi_ret ⟨.int .i64 90, (res_one rfl rfl), ⟨?_, rfl⟩⟩
        · congr 1
          first
          | rw [chkT_size (by omega)]
          | (rw [chkT_bad (by first | assumption | exact nbt (by assumption))]; done)
          | (rw [ok_chkT (by omega) (by omega) (by first | assumption | exact nbf (by assumption))]; done)
      · refine wi_skip <| wi_seq <| wi_reg rfl <| lx_assign (.int .i64 0) rfl rfl <| lx_nil <| ?_
        -- R4
        refine wi_ret ⟨.int .i64 0, (res_one rfl rfl), ⟨?_, rfl⟩⟩
        · congr 1
          first
          | rw [chkT_size (by omega)]
          | (rw [chkT_bad (by first | assumption | exact nbt (by assumption))]; done)
          | (rw [ok_chkT (by omega) (by omega) (by first | assumption | exact nbf (by assumption))]; done)

end Go.Proofs.Ytdokijbdnajhgaa
namespace Go.Proofs.Ytdokijbdnajhgaa
open Go Go.X

set_option maxRecDepth 10000 in
theorem rclosure_spec (h : Heap) (n : Nat) (vl : Value) (ls : List (Int × Int)) (hr_vl : RdE encP h vl ls) (hp1 : n ≤ 12) (hp2 : ls.length ≤ 4611686018427387904) (hp3 : ∀ j, j < ls.length → inR n (gt ls j) = true) : Fx Try.prog 64 [.int .i64 ((n : Nat) : Int), vl] h (fun v h' => ∃ (s : Value) (hs : List Hdr), v = .tuple #[s, .bool (ordB n (closW n ls))] ∧ OwE encHd h' h.size 70 s hs ∧ OT encB h' h.size 4 hs (tabF n (closW n ls)) ∧ Ext h.size h h') := by
  refine fx_intro (n := 96) [(0, .int .i64 ((n : Nat) : Int)), (1, vl)] Try.func64 rfl rfl (by simp) ⟨rfl, rfl, trivial⟩ fun g0 => ?_
  refine wi_seq <| wi_reg rfl <| lx_assign (.slice none 0 0) rfl rfl <| lx_assign (.bool false) rfl rfl <| lx_nil <| wi_seq <| wi_reg rfl <| lx_assign (.slice none 0 0) rfl rfl <| lx_nil <| wi_seq <| wi_seq <| wi_reg rfl <| lx_assign (.int .i64 0) rfl rfl <| lx_nil <| wi_block <| ?_
  refine wi_loop (σ := Nat × Value × (List Hdr) × (List (List Bool))) (rngB 13 27 [6, 7, 8]) (fun (ss : Nat × Value × (List Hdr) × (List (List Bool))) => [(7, .int .i64 ((ss.1 : Nat) : Int)), (6, ss.2.1)]) (fun (ss : Nat × Value × (List Hdr) × (List (List Bool))) (hh : Heap) => OwE encHd hh h.size 70 ss.2.1 ss.2.2.1 ∧ OT encB hh h.size 4 ss.2.2.1 ss.2.2.2 ∧ Ext h.size h hh ∧ (ss.1 ≤ n) ∧ (ss.2.2.2.length = ss.1) ∧ (∀ i, i < ss.1 → gt ss.2.2.2 i = rowF n fun j => decide (i = j))) (fun (ss : Nat × Value × (List Hdr) × (List (List Bool))) => n - ss.1) (0, .slice none 0 0, [], []) ⟨rfl, rfl, trivial⟩ ⟨?_, ?_, (Ext.refl _ _), ?_, ?_, ?_⟩ ?_
  · first | exact (owE_nil encHd _ h.size 70) | (simpa using (owE_nil encHd _ h.size 70))
  · first | exact (OT.nil encB _ h.size 4) | (simpa using (OT.nil encB _ h.size 4))
  · try dsimp only
    omega
  · try dsimp only
    first | done | rfl
  · try dsimp only
    intro i hi; omega
  rintro g1 ⟨x, v, hs, r⟩ hh1 ⟨ho1, hot1, hx0_1, hx, hrl, hrw⟩ IH1
  dsimp only at *
  have hl_hot1 := hot1.1
  refine wi_seq <| wi_seq <| wi_reg rfl <| lx_move (.int .i64 ((x : Nat) : Int)) rfl rfl <| lx_move (.int .i64 ((n : Nat) : Int)) rfl rfl <| lx_lssS rfl rfl rfl (fun c1 => ?_) (fun c1 => ?_)
  · refine lx_nil <| wi_true rfl <| wi_skip <| wi_seq <| wi_block <| wi_seq <| wi_reg rfl <| lx_move (.int .i64 ((n : Nat) : Int)) rfl rfl <| lx_make (E := encB) (n := n) (B := hh1.size) false rfl rfl Try.underlying70 (eZ70) rfl rfl (by omega) (by omega) (Nat.le_refl _) (fun _ _ => trivial) fun v1 h1 ho2 hx1 hvb1 => ?_
    have hx0_2 := hx0_1.trans2 hx1 hx0_1.size
    have ho3 := ho1.extS hx1
    have hot2 := hot1.extS hx1
    have ho4 := ho2.base hx0_1.size
    refine lx_assign (v1) rfl rfl <| lx_nil <| wi_seq <| wi_reg rfl <| lx_move (v1) rfl rfl <| lx_move (.int .i64 ((x : Nat) : Int)) rfl rfl <| lx_ix (i := x) rfl eT70 ho4.rd rfl rfl (by first | omega | (simp only [List.length_set, List.length_append, List.length_cons, List.length_nil, List.length_replicate, List.length_take, swp_length, exch_length]; omega)) <| lx_st (i := x) true rfl rfl Try.sizeOf4 ho4 (by first | omega | (simp only [List.length_set, List.length_append, List.length_cons, List.length_nil, List.length_replicate, List.length_take, swp_length, exch_length]; omega)) rfl rfl (fun _ _ _ _ _ => trivial) fun h2 ho5 hc1 hsz1 => ?_
    have hx0_3 := hx0_2.trans (ho4.ext hc1 hx0_2.size)
    have ho6 := ho3.chg hc1 (dj_new ho1 ho2)
    have hot3 := hot2.chg hc1 (djt_new hot1 ho2)
    have hot4 : OT encB h2 h.size 4 (hs ++ [hdrOf v1]) (r ++ [(List.replicate n false).set x true]) := OT.snoc hot3 ho5 (djt_new hot1 ho2)
    refine lx_nil <| wi_reg rfl <| lx_move (v) rfl rfl <| lx_move (v1) rfl rfl <| lx_appendL (E := encHd) (B := h.size) [hdrOf v1] [v1] rfl rfl (fun _ => rfl) rfl eT23 rfl rfl (hdr_cells1 ho5.rd) rfl ho6 (fun _ => rfl) (by show hs.length + 1 ≤ _; omega) (by show (hs.length + 1) * 24 ≤ _; omega) hx0_3.size (fun _ _ => trivial) fun u1 v2 h3 ho7 hc2 hg1 => ?_
    have hx0_4 := hx0_3.trans (ho6.ext hc2 hx0_3.size)
    have hot5 : OT encB h3 h.size 4 (hs ++ [hdrOf v1]) (r ++ [(List.replicate n false).set x true]) := hot4.chg hc2 (djt_ty hot4 ho6 (by decide))
    have hl_hot5 := hot5.1
    refine lx_assign (v2) rfl rfl <| lx_nil <| wi_inBlock <| wi_reg rfl <| lx_move (.int .i64 ((x : Nat) : Int)) rfl rfl <| lx_add (((x + 1 : Nat) : Int)) rfl rfl rfl (by omega) (by omega) (by omega) <| lx_assign (.int .i64 ((x + 1 : Nat) : Int)) rfl rfl <| lx_nil <| ?_
    -- L0.1
    refine IH1 _ _ (x + 1, v2, hs ++ [hdrOf v1], r ++ [(List.replicate n false).set x true]) (agree_ups rfl agree_self) ⟨rfl, rfl, trivial⟩ ⟨?_, ?_, hx0_4, ?_, ?_, ?_⟩ ?_
    · first | exact ho7 | (simpa using ho7)
    · first | exact hot5 | (simpa using hot5)
    · try dsimp only
      omega
    · try dsimp only
      simp [hrl]
    · try dsimp only
      intro i hi
      by_cases e : i < x
      · rw [gt_append_left (by omega)]; exact hrw i e
      · rw [show i = r.length from by omega, gt_append_right, show x = r.length from by omega]; exact id_row (by omega)
    · first | omega | (dsimp only; omega)
  · refine lx_nil <| wi_false rfl <| wi_exit rfl <| wi_seq <| wi_seq <| wi_reg rfl <| ?_
    have hrr : r = tabF n (fun x y => decide (x = y)) := tab_rows (by omega) (fun j hj => hrw j (by omega))
    have hq0 : Sq r n := by rw [hrr]; exact tabF_sq _ _
    refine lx_assign (.int .i64 0) rfl rfl <| lx_nil <| wi_block <| ?_
    refine wi_loop (σ := Nat × (List (List Bool))) (rngB 27 47 [9]) (fun (ss : Nat × (List (List Bool))) => [(9, .int .i64 ((ss.1 : Nat) : Int))]) (fun (ss : Nat × (List (List Bool))) (hh : Heap) => OwE encHd hh h.size 70 v hs ∧ OT encB hh h.size 4 hs ss.2 ∧ Ext h.size h hh ∧ (ss.1 ≤ ls.length) ∧ (Sq ss.2 n) ∧ (∀ x y, x < n → y < n → pb ss.2 x y = pairW ls ss.1 x y)) (fun (ss : Nat × (List (List Bool))) => ls.length - ss.1) (0, r) ⟨rfl, trivial⟩ ⟨?_, ?_, hx0_1, ?_, ?_, ?_⟩ ?_
    · first | exact ho1 | (simpa using ho1)
    · first | exact hot1 | (simpa using hot1)
    · try dsimp only
      omega
    · try dsimp only
      exact hq0
    · try dsimp only
      intro x y hx hy; rw [hrr, pb_tabF hx hy, pairW_zero]
    rintro g2 ⟨i, r⟩ hh2 ⟨ho8, hot6, hx0_5, hi, hq, hp⟩ IH2
    dsimp only at *
    have hq1 := hq.1
    have hl_hot6 := hot6.1
    refine wi_seq <| wi_seq <| wi_reg rfl <| lx_move (.int .i64 ((i : Nat) : Int)) rfl rfl <| lx_move (vl) rfl rfl <| lx_len rfl Try.underlying22 hr_vl rfl <| lx_lssS rfl rfl rfl (fun c2 => ?_) (fun c2 => ?_)
    · refine lx_nil <| wi_true rfl <| wi_skip <| wi_seq <| wi_block <| wi_draw mo rfl (by decide +kernel) <| ?_
      obtain ⟨h91, h92, h93, h94⟩ := inR_iff.1 (hp3 i (by omega))
      obtain ⟨a, b, hgc, ha, hb⟩ : ∃ a b : Nat, gt ls i = ((a : Int), (b : Int)) ∧ a < n ∧ b < n := ⟨(gt ls i).1.toNat, (gt ls i).2.toNat, Prod.ext (by show _ = ((_ : Nat) : Int); omega) (by show _ = ((_ : Nat) : Int); omega), by omega, by omega⟩
      refine lx_move (v) rfl rfl <| lx_move (vl) rfl rfl <| lx_move (.int .i64 ((i : Nat) : Int)) rfl rfl <| lx_ix (i := i) rfl eT22 hr_vl rfl rfl (by omega) <| lx_ixP (i := i) (c := 0) rfl Try.underlying85 Try.sizeOf3 hr_vl (by omega) rfl rfl (by decide) <| lx_ld (i := i) (j := 0) (.int .i64 ((a : Nat) : Int)) rfl rfl fl3 (hr_vl.extS hx0_5) (by omega) (by rw [hgc]; rfl) rfl <| lx_ix (i := a) rfl eT23 ho8.rd rfl rfl (by omega) <| lx_ld (i := a) (j := 0) ((gt hs a).v) rfl rfl fl70 ho8.rd (by omega) rfl rfl <| lx_move (vl) rfl rfl <| lx_move (.int .i64 ((i : Nat) : Int)) rfl rfl <| lx_ix (i := i) rfl eT22 hr_vl rfl rfl (by omega) <| lx_ixP (i := i) (c := 1) rfl Try.underlying85 Try.sizeOf3 hr_vl (by omega) rfl rfl (by decide) <| lx_ld (i := i) (j := 1) (.int .i64 ((b : Nat) : Int)) rfl rfl fl3 (hr_vl.extS hx0_5) (by omega) (by rw [hgc]; rfl) rfl <| lx_ix (i := b) rfl eT70 (hot6.2.1 a (by omega)).rd rfl rfl (by rw [hq.2 a (by omega)]; omega) <| lx_st (i := b) true rfl rfl Try.sizeOf4 (hot6.2.1 a (by omega)) (by rw [hq.2 a (by omega)]; omega) rfl rfl (fun _ _ _ _ _ => trivial) fun h4 ho9 hc3 hsz2 => ?_
      have hx0_6 := hx0_5.trans ((hot6.2.1 a (by omega)).ext hc3 hx0_5.size)
      have ho10 := ho8.chg hc3 (Dj.symm ((djt_ty hot6 ho8 (by decide)) a (by rw [hot6.1]; exact (by omega))))
      have hot7 := OT.cell hot6 (by omega) hc3 ho9
      have hl_hot7 := hot7.1
      refine lx_nil <| wi_inBlock <| wi_reg rfl <| lx_move (.int .i64 ((i : Nat) : Int)) rfl rfl <| lx_add (((i + 1 : Nat) : Int)) rfl rfl rfl (by omega) (by omega) (by omega) <| lx_assign (.int .i64 ((i + 1 : Nat) : Int)) rfl rfl <| lx_nil <| ?_
      -- L2.1
      refine IH2 _ _ (i + 1, r.set a ((gt r a).set b true)) (agree_ups rfl agree_self) ⟨rfl, trivial⟩ ⟨?_, ?_, hx0_6, ?_, ?_, ?_⟩ ?_
      · first | exact ho10 | (simpa using ho10)
      · first | exact hot7 | (simpa using hot7)
      · try dsimp only
        omega
      · try dsimp only
        exact sq_set hq (by omega)
      · try dsimp only
        exact pairW_step (by omega) hq ha hb hgc hp
      · first | omega | (dsimp only; omega)
    · refine lx_nil <| wi_false rfl <| wi_exit rfl <| wi_seq <| wi_seq <| wi_reg rfl <| lx_assign (.int .i64 0) rfl rfl <| lx_nil <| wi_block <| ?_
      refine wi_loop (σ := Nat × (List (List Bool))) (rngB 47 93 [10, 11, 12]) (fun (ss : Nat × (List (List Bool))) => [(10, .int .i64 ((ss.1 : Nat) : Int))]) (fun (ss : Nat × (List (List Bool))) (hh : Heap) => OwE encHd hh h.size 70 v hs ∧ OT encB hh h.size 4 hs ss.2 ∧ Ext h.size h hh ∧ (ss.1 ≤ n) ∧ (Sq ss.2 n) ∧ (∀ a c, a < n → c < n → pb ss.2 a c = warN (pairW ls ls.length) ss.1 a c)) (fun (ss : Nat × (List (List Bool))) => n - ss.1) (0, r) ⟨rfl, trivial⟩ ⟨?_, ?_, hx0_5, ?_, ?_, ?_⟩ ?_
      · first | exact ho8 | (simpa using ho8)
      · first | exact hot6 | (simpa using hot6)
      · try dsimp only
        omega
      · try dsimp only
        exact hq
      · try dsimp only
        rw [show ls.length = i from by omega]; exact hp
      rintro g3 ⟨y, r⟩ hh3 ⟨ho11, hot8, hx0_7, hy, hq, hr⟩ IH3
      dsimp only at *
      have hq1 := hq.1
      have hl_hot8 := hot8.1
      refine wi_seq <| wi_seq <| wi_reg rfl <| lx_move (.int .i64 ((y : Nat) : Int)) rfl rfl <| lx_move (.int .i64 ((n : Nat) : Int)) rfl rfl <| lx_lssS rfl rfl rfl (fun c3 => ?_) (fun c3 => ?_)
      · refine lx_nil <| wi_true rfl <| wi_skip <| wi_seq <| wi_block <| wi_seq <| wi_reg rfl <| lx_assign (.int .i64 0) rfl rfl <| lx_nil <| wi_block <| ?_
        refine wi_loop (σ := Nat × (List (List Bool))) (rngB 52 93 [11, 12]) (fun (ss : Nat × (List (List Bool))) => [(11, .int .i64 ((ss.1 : Nat) : Int))]) (fun (ss : Nat × (List (List Bool))) (hh : Heap) => OwE encHd hh h.size 70 v hs ∧ OT encB hh h.size 4 hs ss.2 ∧ Ext h.size h hh ∧ (ss.1 ≤ n) ∧ (Sq ss.2 n) ∧ (∀ a c, a < n → c < n → pb ss.2 a c = warS (warN (pairW ls ls.length) y) y ss.1 0 a c)) (fun (ss : Nat × (List (List Bool))) => n - ss.1) (0, r) ⟨rfl, trivial⟩ ⟨?_, ?_, hx0_7, ?_, ?_, ?_⟩ ?_
        · first | exact ho11 | (simpa using ho11)
        · first | exact hot8 | (simpa using hot8)
        · try dsimp only
          omega
        · try dsimp only
          exact hq
        · try dsimp only
          intro a c ha hc; rw [warS_zero]; exact hr a c ha hc
        rintro g4 ⟨x, r⟩ hh4 ⟨ho12, hot9, hx0_8, hx, hq, hr⟩ IH4
        dsimp only at *
        have hq1 := hq.1
        have hl_hot9 := hot9.1
        refine wi_seq <| wi_seq <| wi_reg rfl <| lx_move (.int .i64 ((x : Nat) : Int)) rfl rfl <| lx_move (.int .i64 ((n : Nat) : Int)) rfl rfl <| lx_lssS rfl rfl rfl (fun c4 => ?_) (fun c4 => ?_)
        · refine lx_nil <| wi_true rfl <| wi_skip <| wi_seq <| wi_block <| wi_seq <| wi_reg rfl <| lx_assign (.int .i64 0) rfl rfl <| lx_nil <| wi_block <| ?_
          refine wi_loop (σ := Nat × (List (List Bool))) (rngB 57 93 [12]) (fun (ss : Nat × (List (List Bool))) => [(12, .int .i64 ((ss.1 : Nat) : Int))]) (fun (ss : Nat × (List (List Bool))) (hh : Heap) => OwE encHd hh h.size 70 v hs ∧ OT encB hh h.size 4 hs ss.2 ∧ Ext h.size h hh ∧ (ss.1 ≤ n) ∧ (Sq ss.2 n) ∧ (∀ a c, a < n → c < n → pb ss.2 a c = warS (warN (pairW ls ls.length) y) y x ss.1 a c)) (fun (ss : Nat × (List (List Bool))) => n - ss.1) (0, r) ⟨rfl, trivial⟩ ⟨?_, ?_, hx0_8, ?_, ?_, ?_⟩ ?_
          · first | exact ho12 | (simpa using ho12)
          · first | exact hot9 | (simpa using hot9)
          · try dsimp only
            omega
          · try dsimp only
            exact hq
          · try dsimp only
            exact hr
          rintro g5 ⟨z, r⟩ hh5 ⟨ho13, hot10, hx0_9, hz, hq, hr⟩ IH5
          dsimp only at *
          have hq1 := hq.1
          have hl_hot10 := hot10.1
          refine wi_seq <| wi_seq <| wi_reg rfl <| lx_move (.int .i64 ((z : Nat) : Int)) rfl rfl <| lx_move (.int .i64 ((n : Nat) : Int)) rfl rfl <| lx_lssS rfl rfl rfl (fun c5 => ?_) (fun c5 => ?_)
          · refine lx_nil <| wi_true rfl <| wi_skip <| wi_seq <| wi_block <| wi_draw mo rfl (by decide +kernel) <| lx_move (v) rfl rfl <| lx_move (.int .i64 ((x : Nat) : Int)) rfl rfl <| lx_ix (i := x) rfl eT23 ho13.rd rfl rfl (by omega) <| lx_ld (i := x) (j := 0) ((gt hs x).v) rfl rfl fl70 ho13.rd (by omega) rfl rfl <| lx_move (.int .i64 ((z : Nat) : Int)) rfl rfl <| lx_move (v) rfl rfl <| lx_move (.int .i64 ((x : Nat) : Int)) rfl rfl <| lx_ix (i := x) rfl eT23 ho13.rd rfl rfl (by omega) <| lx_ld (i := x) (j := 0) ((gt hs x).v) rfl rfl fl70 ho13.rd (by omega) rfl rfl <| lx_move (.int .i64 ((z : Nat) : Int)) rfl rfl <| lx_ix (i := z) rfl eT70 (hot10.2.1 x (by omega)).rd rfl rfl (by rw [hq.2 x (by omega)]; omega) <| lx_ld (i := z) (j := 0) (.bool (gt (gt r x) z)) rfl rfl fl4 (hot10.2.1 x (by omega)).rd (by rw [hq.2 x (by omega)]; omega) rfl rfl <| lx_move (.bool (gt (gt r x) z)) rfl rfl <| ?_
            cases c6 : (gt (gt r x) z)
            · refine lx_move (v) rfl rfl <| lx_move (.int .i64 ((x : Nat) : Int)) rfl rfl <| lx_ix (i := x) rfl eT23 ho13.rd rfl rfl (by omega) <| lx_ld (i := x) (j := 0) ((gt hs x).v) rfl rfl fl70 ho13.rd (by omega) rfl rfl <| lx_move (.int .i64 ((y : Nat) : Int)) rfl rfl <| lx_ix (i := y) rfl eT70 (hot10.2.1 x (by omega)).rd rfl rfl (by rw [hq.2 x (by omega)]; omega) <| lx_ld (i := y) (j := 0) (.bool (gt (gt r x) y)) rfl rfl fl4 (hot10.2.1 x (by omega)).rd (by rw [hq.2 x (by omega)]; omega) rfl rfl <| lx_move (.bool (gt (gt r x) y)) rfl rfl <| ?_
              cases c7 : (gt (gt r x) y)
              · refine lx_skip rfl <| lx_skip rfl <| lx_skip rfl <| lx_skip rfl <| lx_skip rfl <| lx_skip rfl <| lx_skip rfl <| lx_pick false (.bool false) rfl rfl rfl <| lx_pick false (.bool false) rfl rfl rfl <| lx_ix (i := z) rfl eT70 (hot10.2.1 x (by omega)).rd rfl rfl (by rw [hq.2 x (by omega)]; omega) <| lx_st (i := z) false rfl rfl Try.sizeOf4 (hot10.2.1 x (by omega)) (by rw [hq.2 x (by omega)]; omega) rfl rfl (fun _ _ _ _ _ => trivial) fun h5 ho14 hc4 hsz3 => ?_
                have hx0_10 := hx0_9.trans ((hot10.2.1 x (by omega)).ext hc4 hx0_9.size)
                have ho15 := ho13.chg hc4 (Dj.symm ((djt_ty hot10 ho13 (by decide)) x (by rw [hot10.1]; exact (by omega))))
                have hot11 := OT.cell hot10 (by omega) hc4 ho14
                have hl_hot11 := hot11.1
                refine lx_nil <| wi_inBlock <| wi_reg rfl <| lx_move (.int .i64 ((z : Nat) : Int)) rfl rfl <| lx_add (((z + 1 : Nat) : Int)) rfl rfl rfl (by omega) (by omega) (by omega) <| lx_assign (.int .i64 ((z + 1 : Nat) : Int)) rfl rfl <| lx_nil <| ?_
                -- L8.1
                refine IH5 _ _ (z + 1, r.set x ((gt r x).set z false)) (agree_ups rfl agree_self) ⟨rfl, trivial⟩ ⟨?_, ?_, hx0_10, ?_, ?_, ?_⟩ ?_
                · first | exact ho15 | (simpa using ho15)
                · first | exact hot11 | (simpa using hot11)
                · try dsimp only
                  omega
                · try dsimp only
                  exact sq_set hq (by omega)
                · try dsimp only
                  exact warS_step hq (by omega) (by omega) hr (by rw [warS_val (r := r) (by omega) (by omega) (by omega) hr]; first | exact or_t (by with_reducible assumption) | exact or_f (by with_reducible assumption) (by with_reducible assumption) | exact or_v (by with_reducible assumption) (by with_reducible assumption))
                · first | omega | (dsimp only; omega)
              · refine lx_move (v) rfl rfl <| lx_move (.int .i64 ((y : Nat) : Int)) rfl rfl <| lx_ix (i := y) rfl eT23 ho13.rd rfl rfl (by omega) <| lx_ld (i := y) (j := 0) ((gt hs y).v) rfl rfl fl70 ho13.rd (by omega) rfl rfl <| lx_move (.int .i64 ((z : Nat) : Int)) rfl rfl <| lx_ix (i := z) rfl eT70 (hot10.2.1 y (by omega)).rd rfl rfl (by rw [hq.2 y (by omega)]; omega) <| lx_ld (i := z) (j := 0) (.bool (gt (gt r y) z)) rfl rfl fl4 (hot10.2.1 y (by omega)).rd (by rw [hq.2 y (by omega)]; omega) rfl rfl <| lx_pick true (.bool (gt (gt r y) z)) rfl rfl rfl <| lx_pick false (.bool (gt (gt r y) z)) rfl rfl rfl <| lx_ix (i := z) rfl eT70 (hot10.2.1 x (by omega)).rd rfl rfl (by rw [hq.2 x (by omega)]; omega) <| lx_st (i := z) (gt (gt r y) z) rfl rfl Try.sizeOf4 (hot10.2.1 x (by omega)) (by rw [hq.2 x (by omega)]; omega) rfl rfl (fun _ _ _ _ _ => trivial) fun h6 ho16 hc5 hsz4 => ?_
                have hx0_11 := hx0_9.trans ((hot10.2.1 x (by omega)).ext hc5 hx0_9.size)
                have ho17 := ho13.chg hc5 (Dj.symm ((djt_ty hot10 ho13 (by decide)) x (by rw [hot10.1]; exact (by omega))))
                have hot12 := OT.cell hot10 (by omega) hc5 ho16
                have hl_hot12 := hot12.1
                refine lx_nil <| wi_inBlock <| wi_reg rfl <| lx_move (.int .i64 ((z : Nat) : Int)) rfl rfl <| lx_add (((z + 1 : Nat) : Int)) rfl rfl rfl (by omega) (by omega) (by omega) <| lx_assign (.int .i64 ((z + 1 : Nat) : Int)) rfl rfl <| lx_nil <| ?_
                -- L8.2
                refine IH5 _ _ (z + 1, r.set x ((gt r x).set z (gt (gt r y) z))) (agree_ups rfl agree_self) ⟨rfl, trivial⟩ ⟨?_, ?_, hx0_11, ?_, ?_, ?_⟩ ?_
                · first | exact ho17 | (simpa using ho17)
                · first | exact hot12 | (simpa using hot12)
                · try dsimp only
                  omega
                · try dsimp only
                  exact sq_set hq (by omega)
                · try dsimp only
                  exact warS_step hq (by omega) (by omega) hr (by rw [warS_val (r := r) (by omega) (by omega) (by omega) hr]; first | exact or_t (by with_reducible assumption) | exact or_f (by with_reducible assumption) (by with_reducible assumption) | exact or_v (by with_reducible assumption) (by with_reducible assumption))
                · first | omega | (dsimp only; omega)
            · refine lx_skip rfl <| lx_skip rfl <| lx_skip rfl <| lx_skip rfl <| lx_skip rfl <| lx_skip rfl <| lx_skip rfl <| lx_skip rfl <| lx_skip rfl <| lx_skip rfl <| lx_skip rfl <| lx_skip rfl <| lx_skip rfl <| lx_skip rfl <| lx_skip rfl <| lx_skip rfl <| lx_pick true (.bool true) rfl rfl rfl <| lx_ix (i := z) rfl eT70 (hot10.2.1 x (by omega)).rd rfl rfl (by rw [hq.2 x (by omega)]; omega) <| lx_st (i := z) true rfl rfl Try.sizeOf4 (hot10.2.1 x (by omega)) (by rw [hq.2 x (by omega)]; omega) rfl rfl (fun _ _ _ _ _ => trivial) fun h7 ho18 hc6 hsz5 => ?_
              have hx0_12 := hx0_9.trans ((hot10.2.1 x (by omega)).ext hc6 hx0_9.size)
              have ho19 := ho13.chg hc6 (Dj.symm ((djt_ty hot10 ho13 (by decide)) x (by rw [hot10.1]; exact (by omega))))
              have hot13 := OT.cell hot10 (by omega) hc6 ho18
              have hl_hot13 := hot13.1
              refine lx_nil <| wi_inBlock <| wi_reg rfl <| lx_move (.int .i64 ((z : Nat) : Int)) rfl rfl <| lx_add (((z + 1 : Nat) : Int)) rfl rfl rfl (by omega) (by omega) (by omega) <| lx_assign (.int .i64 ((z + 1 : Nat) : Int)) rfl rfl <| lx_nil <| ?_
              -- L8.3
              refine IH5 _ _ (z + 1, r.set x ((gt r x).set z true)) (agree_ups rfl agree_self) ⟨rfl, trivial⟩ ⟨?_, ?_, hx0_12, ?_, ?_, ?_⟩ ?_
              · first | exact ho19 | (simpa using ho19)
              · first | exact hot13 | (simpa using hot13)
              · try dsimp only
                omega
              · try dsimp only
                exact sq_set hq (by omega)
              · try dsimp only
                exact warS_step hq (by omega) (by omega) hr (by rw [warS_val (r := r) (by omega) (by omega) (by omega) hr]; first | exact or_t (by with_reducible assumption) | exact or_f (by with_reducible assumption) (by with_reducible assumption) | exact or_v (by with_reducible assumption) (by with_reducible assumption))
              · first | omega | (dsimp only; omega)
          · refine lx_nil <| wi_false rfl <| wi_exit rfl <| wi_inBlock <| wi_reg rfl <| lx_move (.int .i64 ((x : Nat) : Int)) rfl rfl <| lx_add (((x + 1 : Nat) : Int)) rfl rfl rfl (by omega) (by omega) (by omega) <| lx_assign (.int .i64 ((x + 1 : Nat) : Int)) rfl rfl <| lx_nil <| ?_
            -- L6.1
            refine IH4 _ _ (x + 1, r) (agree_ups rfl (agree_mix (rngB_sub (by decide) (by decide) rfl) (agree_ups rfl agree_self))) ⟨rfl, trivial⟩ ⟨?_, ?_, hx0_9, ?_, ?_, ?_⟩ ?_
            · first | exact ho13 | (simpa using ho13)
            · first | exact hot10 | (simpa using hot10)
            · try dsimp only
              omega
            · try dsimp only
              exact hq
            · try dsimp only
              intro a c ha hc; rw [hr a c ha hc, show z = n from by omega]; exact warS_next _ hc
            · first | omega | (dsimp only; omega)
        · refine lx_nil <| wi_false rfl <| wi_exit rfl <| wi_inBlock <| wi_reg rfl <| lx_move (.int .i64 ((y : Nat) : Int)) rfl rfl <| lx_add (((y + 1 : Nat) : Int)) rfl rfl rfl (by omega) (by omega) (by omega) <| lx_assign (.int .i64 ((y + 1 : Nat) : Int)) rfl rfl <| lx_nil <| ?_
          -- L4.1
          refine IH3 _ _ (y + 1, r) (agree_ups rfl (agree_mix (rngB_sub (by decide) (by decide) rfl) (agree_ups rfl agree_self))) ⟨rfl, trivial⟩ ⟨?_, ?_, hx0_8, ?_, ?_, ?_⟩ ?_
          · first | exact ho12 | (simpa using ho12)
          · first | exact hot9 | (simpa using hot9)
          · try dsimp only
            omega
          · try dsimp only
            exact hq
          · try dsimp only
            intro a c ha hc; rw [hr a c ha hc, show x = n from by omega]; exact warS_end _ ha
          · first | omega | (dsimp only; omega)
      · refine lx_nil <| wi_false rfl <| wi_exit rfl <| wi_seq <| wi_reg rfl <| ?_
        have hrt : r = tabF n (closW n ls) := tab_ext hq (fun a c ha hc => by rw [hr a c ha hc, show y = n from by omega]; rfl)
        refine lx_move (v) rfl rfl <| lx_move (v) rfl rfl <| lx_call [v] rfl rfl Try.call112 rfl (risorder_spec hh3 v hs r ho11.rd hot8.rt (by omega) (fun i hi => by rw [hq.2 i (by rw [← hq.1]; exact hi)]; omega)) (fun _ _ _ => trivial) ?_
        rintro _ h8 ⟨rfl, rfl⟩
        have hit : isT r = ordB n (closW n ls) := isT_tab hrt
        rw [hit]
        refine lx_assign (v) rfl rfl <| lx_assign (.bool (ordB n (closW n ls))) rfl rfl <| lx_nil <| ?_
        -- R1
        refine wi_ret ⟨.tuple #[v, .bool (ordB n (closW n ls))], (res_two rfl rfl rfl), ⟨v, hs, rfl, ?_, ?_, hx0_7⟩⟩
        · exact ho11
        · rw [← hrt]; exact hot8

end Go.Proofs.Ytdokijbdnajhgaa
namespace Go.X
def isLo (n : Nat) (f : Nat → Nat → Bool) (m : Nat) : Prop := m < n ∧ ∀ q, q < n → f m q = true
theorem lo_uniq {n a b : Nat} {f : Nat → Nat → Bool} (ho : IsO n f) (ha : isLo n f a) (hb : isLo n f b) : a = b := ho.anti ha.1 hb.1 (ha.2 b hb.1) (hb.2 a ha.1)
theorem lo_ex {n : Nat} {f : Nat → Nat → Bool} (ho : IsO n f) (hg : noGap n f) (hn : 1 ≤ n) : ∃ m, isLo n f m := by
  have : ∀ k, k ≤ n → ∃ m, m < n ∧ ∀ q, q < k → f m q = true := by
    intro k
    induction k with
    | zero => intro _; exact ⟨0, by omega, fun q hq => by omega⟩
    | succ k ih =>
      intro hk
      obtain ⟨m, h1, h2⟩ := ih (by omega)
      obtain ⟨_, h3, h4, h5, _⟩ := mN_at ho hg h1 (show k < n by omega)
      refine ⟨mN n f m k, h3, fun q hq => ?_⟩
      by_cases e : q = k
      · subst e; exact h5
      · exact ho.trans h3 h1 (by omega) h4 (h2 q (by omega))
  obtain ⟨m, h1, h2⟩ := this n (Nat.le_refl n)
  exact ⟨m, h1, h2⟩
theorem flip_gap {n : Nat} {f : Nat → Nat → Bool} (hg : noGap n f) : noGap n (flipF f) := fun i j h1 h2 => by
  have := hg i j h1 h2
  unfold gapB at *
  rw [Bool.or_eq_false_iff] at *
  exact ⟨this.2, this.1⟩
/-- The bound of all elements. -/
theorem bnd_all {n : Nat} {F : Nat → Nat} {m : Nat} (hm : m < n) (h : ∀ q, q < n → (F m).testBit q = true) (hu : ∀ z, z < n → (∀ q, q < n → (F z).testBit q = true) → z = m) : firstF n (bndB F (2 ^ n - 1)) = (m : Int) := by
  have key : ∀ z, z < n → (bndB F (2 ^ n - 1) z = true ↔ z = m) := fun z hz => by
    unfold bndB
    rw [Bool.and_eq_true, Nat.testBit_two_pow_sub_one, decide_eq_true_iff, incl_iff]
    constructor
    · rintro ⟨_, h2⟩
      exact hu z hz fun q hq => h2 q (by rw [Nat.testBit_two_pow_sub_one]; exact decide_eq_true hq)
    · rintro rfl
      exact ⟨hz, fun q hq => h q (by rw [Nat.testBit_two_pow_sub_one, decide_eq_true_iff] at hq; exact hq)⟩
  refine firstF_some hm ((key m hm).2 rfl) fun i hi => ?_
  cases c : bndB F (2 ^ n - 1) i
  · rfl
  · have := (key i (by omega)).1 c; omega
def loN (n : Nat) (f : Nat → Nat → Bool) : Nat := (firstF n (bndB (upF n f) (2 ^ n - 1))).toNat
def hiN (n : Nat) (f : Nat → Nat → Bool) : Nat := loN n (flipF f)
theorem lo_at {n : Nat} {f : Nat → Nat → Bool} (ho : IsO n f) (hg : noGap n f) (hn : 1 ≤ n) : firstF n (bndB (upF n f) (2 ^ n - 1)) = (loN n f : Int) ∧ isLo n f (loN n f) := by
  obtain ⟨m, hm⟩ := lo_ex ho hg hn
  have : firstF n (bndB (upF n f) (2 ^ n - 1)) = (m : Int) := bnd_all hm.1 (fun q hq => by rw [upF_bit, decide_eq_true hq, hm.2 q hq]; rfl) fun z hz h => lo_uniq ho ⟨hz, fun q hq => by have := h q hq; rw [upF_bit, decide_eq_true hq] at this; simpa using this⟩ hm
  have e : loN n f = m := by unfold loN; rw [this]; rfl
  rw [e]
  exact ⟨this, hm⟩
theorem hi_at {n : Nat} {f : Nat → Nat → Bool} (ho : IsO n f) (hg : noGap n f) (hn : 1 ≤ n) : firstF n (bndB (dnF n f) (2 ^ n - 1)) = (hiN n f : Int) ∧ hiN n f < n ∧ ∀ q, q < n → f q (hiN n f) = true := by
  have := lo_at (flip_o ho) (flip_gap hg) hn
  exact this
def crJ (n : Nat) (f : Nat → Nat → Bool) (lo : Nat) (al : List Int) (s : Nat) : Nat → Nat
  | 0 => lo
  | k + 1 => if s.testBit k then jN n f (crJ n f lo al s k) (gt al k).toNat else crJ n f lo al s k
def crN (s : Nat) : Nat → Nat
  | 0 => 0
  | k + 1 => if s.testBit k then crN s k + 1 else crN s k
theorem crN_le (s : Nat) : ∀ k, crN s k ≤ k
  | 0 => Nat.le_refl 0
  | k + 1 => by
    have := crN_le s k
    unfold crN
    split <;> omega
theorem crJ_lt {n : Nat} {f : Nat → Nat → Bool} (ho : IsO n f) (hg : noGap n f) {lo : Nat} (hlo : lo < n) {al : List Int} (ha : ∀ i, i < al.length → (gt al i).toNat < n) (s : Nat) : ∀ k, k ≤ al.length → crJ n f lo al s k < n
  | 0, _ => hlo
  | k + 1, hk => by
    have ih := crJ_lt ho hg hlo ha s k (by omega)
    unfold crJ
    split
    · exact jN_lt ho hg ih (ha k (by omega))
    · exact ih
def crB (n : Nat) (f : Nat → Nat → Bool) (lo hi : Nat) (al : List Int) (c s : Nat) : Bool := decide (crJ n f lo al s al.length = hi) && decide (crN s al.length = c)
def crL (n : Nat) (f : Nat → Nat → Bool) (lo hi : Nat) (al : List Int) (t : Nat) : List Int := mapR (al.length + 1) fun c => (((List.range t).countP (crB n f lo hi al c) : Nat) : Int)
theorem crL_len (n : Nat) (f : Nat → Nat → Bool) (lo hi : Nat) (al : List Int) (t : Nat) : (crL n f lo hi al t).length = al.length + 1 := mapR_len _ _
theorem crL_zero (n : Nat) (f : Nat → Nat → Bool) (lo hi : Nat) (al : List Int) : List.replicate (al.length + 1) (0 : Int) = crL n f lo hi al 0 := rep_mapR _ _
theorem crL_at {n : Nat} {f : Nat → Nat → Bool} {lo hi : Nat} {al : List Int} {t c : Nat} (hc : c < al.length + 1) : 0 ≤ gt (crL n f lo hi al t) c ∧ gt (crL n f lo hi al t) c ≤ t := by
  unfold crL
  rw [gt_mapR hc]
  have := List.countP_le_length (p := crB n f lo hi al c) (l := List.range t)
  rw [List.length_range] at this
  omega
theorem range_countP (t : Nat) (P : Nat → Bool) : (List.range (t + 1)).countP P = (List.range t).countP P + if P t then 1 else 0 := by
  rw [List.range_succ, List.countP_append, List.countP_cons, List.countP_nil]; simp
theorem crL_yes {n : Nat} {f : Nat → Nat → Bool} {lo hi : Nat} {al : List Int} {t c : Nat} (hj : crJ n f lo al t al.length = hi) (hn : crN t al.length = c) : (crL n f lo hi al t).set c (gt (crL n f lo hi al t) c + 1) = crL n f lo hi al (t + 1) := by
  have hc : c < al.length + 1 := by have := crN_le t al.length; omega
  unfold crL
  rw [gt_mapR hc, mapR_set hc]
  refine mapR_congr fun j hj2 => ?_
  rw [range_countP]
  by_cases e : j = c
  · subst e
    have : crB n f lo hi al j t = true := by unfold crB; rw [decide_eq_true hj, decide_eq_true hn]; rfl
    rw [if_pos rfl, this, if_pos rfl]; omega
  · have : crB n f lo hi al j t = false := by unfold crB; rw [decide_eq_false (show ¬ crN t al.length = j by omega), Bool.and_false]
    rw [if_neg e, this, if_neg (by simp)]; omega
theorem crL_no {n : Nat} {f : Nat → Nat → Bool} {lo hi : Nat} {al : List Int} {t : Nat} (hj : crJ n f lo al t al.length ≠ hi) : crL n f lo hi al t = crL n f lo hi al (t + 1) := by
  unfold crL
  refine mapR_congr fun j _ => ?_
  have : crB n f lo hi al j t = false := by unfold crB; rw [decide_eq_false hj]; rfl
  rw [range_countP, this, if_neg (by simp)]; omega
end Go.X
namespace Go.X
open Go.ChangeShapes Go.WideShapes Go.WideMaps
section
variable {H : Type} {enc : TypeId × Value → H} {P : Program} {k e : TypeId} {q : IntKind} {W : World} {base : Nat} {sp : Nat → Bool} {held : Bool}
theorem okWide_five (A : ArrKey P k e 5) {r : Reach} {b0 : Nat} {v : Value} (h : Value.okWide P W r b0 k v) : ∃ c0 c1 c2 c3 c4, v = .agg #[c0, c1, c2, c3, c4] := by
  simp only [Value.okWide, A.hu] at h
  obtain ⟨cs, h1, h2, _⟩ := h
  rw [A.size] at h2
  obtain ⟨l⟩ := cs
  match l, h2 with
  | [c0, c1, c2, c3, c4], _ => exact ⟨c0, c1, c2, c3, c4, h1⟩
theorem open_five (A : ArrKey P k e 5) (he : P.underlying e = some (.int q)) {r : Reach} {b0 : Nat} {v : Value} {d : DataW H} {ps : List MemPlace} (hval : Value.okWide P W r b0 k v) (hd : DataW.Trod enc P W base sp held k v d ps) :
    ∃ a b c g h : Int, v = .agg #[.int q a, .int q b, .int q c, .int q g, .int q h] ∧ d = .agg [.lit (.int q a), .lit (.int q b), .lit (.int q c), .lit (.int q g), .lit (.int q h)] ∧ ps = [] ∧ ((Lit.int q a).wf = true ∧ (Lit.int q b).wf = true ∧ (Lit.int q c).wf = true ∧ (Lit.int q g).wf = true ∧ (Lit.int q h).wf = true) := by
  obtain ⟨c0, c1, c2, c3, c4, rfl⟩ := okWide_five A hval
  obtain ⟨fuel, hf⟩ := hd
  cases fuel with
  | zero => simp [DataW.trod] at hf
  | succ n =>
    rw [DataW.trod_step] at hf
    unfold DataW.trodStep at hf
    simp only [A.hu, Value.cells] at hf
    rw [if_pos (by rw [A.size]; rfl)] at hf
    simp only [Option.map_eq_some_iff] at hf
    obtain ⟨xs, hx, e1⟩ := hf
    rw [show List.range 5 = [0, 1, 2, 3, 4] from rfl, List.mapM_cons, List.mapM_cons, List.mapM_cons, List.mapM_cons, List.mapM_cons, List.mapM_nil] at hx
    simp only [bind, Option.bind_eq_some_iff, pure, Option.some.injEq, A.one] at hx
    obtain ⟨y0, h0, _, ⟨y1, h1, _, ⟨y2, h2, _, ⟨y3, h3, _, ⟨y4, h4, _, rfl, rfl⟩, rfl⟩, rfl⟩, rfl⟩, rfl⟩ := hx
    obtain ⟨a, ea, rfl, wa⟩ := DataW.trod_int he h0
    obtain ⟨b, eb, rfl, wb⟩ := DataW.trod_int he h1
    obtain ⟨c, ec, rfl, wc⟩ := DataW.trod_int he h2
    obtain ⟨g, eg, rfl, wg⟩ := DataW.trod_int he h3
    obtain ⟨i, ei, rfl, wi⟩ := DataW.trod_int he h4
    simp at ea eb ec eg ei
    subst ea; subst eb; subst ec; subst eg; subst ei
    simp only [Prod.mk.injEq] at e1
    exact ⟨a, b, c, g, i, rfl, by rw [← e1.1]; rfl, by rw [← e1.2]; rfl, wa, wb, wc, wg, wi⟩
theorem shut_five (A : ArrKey P k e 5) (he : P.underlying e = some (.int q)) {a b c g h : Int} (hw : (Lit.int q a).wf = true ∧ (Lit.int q b).wf = true ∧ (Lit.int q c).wf = true ∧ (Lit.int q g).wf = true ∧ (Lit.int q h).wf = true) :
    DataW.Trod enc P W base sp held k (.agg #[.int q a, .int q b, .int q c, .int q g, .int q h]) (.agg [.lit (.int q a), .lit (.int q b), .lit (.int q c), .lit (.int q g), .lit (.int q h)]) [] :=
  ⟨2, by
    obtain ⟨wa, wb, wc, wg, wh⟩ := hw
    show DataW.trod enc P W base sp held (1 + 1) k [.int q a, .int q b, .int q c, .int q g, .int q h] = _
    rw [DataW.trod_step]
    unfold DataW.trodStep
    simp only [A.hu]
    rw [if_pos (by rw [A.size]; rfl), show List.range 5 = [0, 1, 2, 3, 4] from rfl, List.mapM_cons, List.mapM_cons, List.mapM_cons, List.mapM_cons, List.mapM_cons, List.mapM_nil]
    simp [A.one, DataW.trod, he, wa, wb, wc, wg, wh]⟩
end
end Go.X
namespace Go.Proofs.Ytdokijbdnajhgaa
open Go.Shelf
def Try.lays189_ren : Go.Shelf.Ren := ⟨fun | 189 => 82 | 125 => 127 | 257 => 126 | 128 => 166 | 129 => 167 | 294 => 158 | 295 => 159 | 296 => 160 | 297 => 161 | 298 => 162 | 299 => 163 | 216 => 128 | 300 => 164 | 301 => 165 | 328 => 177 | 329 => 178 | 330 => 179 | 331 => 180 | 332 => 181 | 215 => 168 | 343 => 185 | n => n, fun | 28 => 25 | 3 => 3 | 46 => 45 | 0 => 0 | 51 => 163 | 53 => 149 | 4 => 4 | 183 => 184 | 182 => 183 | 131 => 113 | 5 => 5 | 9 => 9 | 218 => 194 | 222 => 198 | 228 => 203 | 229 => 77 | n => n, fun | n => n⟩
theorem Try.lays189 : Go.Proofs.Lays.n189 Try.prog Try.lays189_ren := {
  mixed := by kernel_rfl
  f125 := Try.func127.trans (congrArg some (by kernel_rfl))
  f128 := Try.func166.trans (congrArg some (by kernel_rfl))
  f129 := Try.func167.trans (congrArg some (by kernel_rfl))
  f189 := Try.func82.trans (congrArg some (by kernel_rfl))
  f215 := Try.func168.trans (congrArg some (by kernel_rfl))
  f216 := Try.func128.trans (congrArg some (by kernel_rfl))
  f257 := Try.func126.trans (congrArg some (by kernel_rfl))
  f294 := Try.func158.trans (congrArg some (by kernel_rfl))
  f295 := Try.func159.trans (congrArg some (by kernel_rfl))
  f296 := Try.func160.trans (congrArg some (by kernel_rfl))
  f297 := Try.func161.trans (congrArg some (by kernel_rfl))
  f298 := Try.func162.trans (congrArg some (by kernel_rfl))
  f299 := Try.func163.trans (congrArg some (by kernel_rfl))
  f300 := Try.func164.trans (congrArg some (by kernel_rfl))
  f301 := Try.func165.trans (congrArg some (by kernel_rfl))
  f328 := Try.func177.trans (congrArg some (by kernel_rfl))
  f329 := Try.func178.trans (congrArg some (by kernel_rfl))
  f330 := Try.func179.trans (congrArg some (by kernel_rfl))
  f331 := Try.func180.trans (congrArg some (by kernel_rfl))
  f332 := Try.func181.trans (congrArg some (by kernel_rfl))
  f343 := Try.func185.trans (congrArg some (by kernel_rfl))
  t0 := Try.underlying0
  a0 := Try.isAgg0
  z0 := Try.sizeOf0
  v0 := Try.zeroValue0
  t3 := Try.underlying3
  a3 := Try.isAgg3
  z3 := Try.sizeOf3
  v3 := Try.zeroValue3
  t4 := Try.underlying4
  a4 := Try.isAgg4
  z4 := Try.sizeOf4
  v4 := Try.zeroValue4
  t5 := Try.underlying5
  a5 := Try.isAgg5
  z5 := Try.sizeOf5
  v5 := Try.zeroValue5
  t9 := Try.underlying9
  a9 := Try.isAgg9
  z9 := Try.sizeOf9
  v9 := Try.zeroValue9
  t28 := Try.underlying25
  a28 := Try.isAgg25
  z28 := Try.sizeOf25
  v28 := Try.zeroValue25
  t46 := Try.underlying45
  a46 := Try.isAgg45
  z46 := Try.sizeOf45
  v46 := Try.zeroValue45
  t51 := Try.underlying163
  a51 := Try.isAgg163
  z51 := Try.sizeOf163
  v51 := Try.zeroValue163
  t53 := Try.underlying149
  a53 := Try.isAgg149
  z53 := Try.sizeOf149
  v53 := Try.zeroValue149
  t131 := Try.underlying113
  a131 := Try.isAgg113
  z131 := Try.sizeOf113
  v131 := Try.zeroValue113
  t182 := Try.underlying183
  a182 := Try.isAgg183
  z182 := Try.sizeOf183
  v182 := Try.zeroValue183
  t183 := Try.underlying184
  a183 := Try.isAgg184
  z183 := Try.sizeOf184
  v183 := Try.zeroValue184
  t218 := Try.underlying194
  a218 := Try.isAgg194
  z218 := Try.sizeOf194
  v218 := Try.zeroValue194
  t222 := Try.underlying198
  a222 := Try.isAgg198
  z222 := Try.sizeOf198
  v222 := Try.zeroValue198
  t228 := Try.underlying203
  a228 := Try.isAgg203
  z228 := Try.sizeOf203
  v228 := Try.zeroValue203
  t229 := Try.underlying77
  a229 := Try.isAgg77
  z229 := Try.sizeOf77
  v229 := Try.zeroValue77 }
open Go.Sort Go.RowKit in
theorem Try.slices_Sort_int (blk off cap : Nat) (zs : List Int) (w : World) (hH : Holds (Value.int .i64) w blk off zs.toArray) (hblk : blk < w.heap.size) (hsz : zs.length < 4611686018427387904) :
    Calls Try.prog 82 #[.slice (some ⟨blk, off, none⟩) zs.length cap] w fun e w' =>
      e = .returned (.tuple #[]) ∧ ∃ n os, w' = grow (putRow (Value.int .i64) (Sort.ahead w n) blk off (zs.mergeSort fun x y => decide (x ≤ y)).toArray) os := Any.slices_Sort_int Try.lays189 blk off cap zs w hH hblk hsz
def Try.laysNm220_ren : Go.Shelf.Ren := ⟨fun | 20 => 123 | n => n, fun | 22 => 25 | 3 => 3 | 4 => 4 | 0 => 0 | n => n, fun | n => n⟩
theorem Try.laysNm220 : Go.Proofs.Lays2.n20 Try.prog Try.laysNm220_ren := {
  mixed := by kernel_rfl
  f20 := Try.func123.trans (congrArg some (by kernel_rfl))
  t0 := Try.underlying0
  a0 := Try.isAgg0
  z0 := Try.sizeOf0
  v0 := Try.zeroValue0
  t3 := Try.underlying3
  a3 := Try.isAgg3
  z3 := Try.sizeOf3
  v3 := Try.zeroValue3
  t4 := Try.underlying4
  a4 := Try.isAgg4
  z4 := Try.sizeOf4
  v4 := Try.zeroValue4
  t22 := Try.underlying25
  a22 := Try.isAgg25
  z22 := Try.sizeOf25
  v22 := Try.zeroValue25
  i3 := by kernel_rfl }
open Go.RowKit Go.Lib Go.Sort in
theorem Try.slices_Compact_int (blk off cap : Nat) (zs : List Int) (w : World) (hH : Holds (Value.int .i64) w blk off zs.toArray) (hsz : zs.length ≤ 9223372036854775807) (hcap : zs.length ≤ cap) :
    Calls Try.prog 123 #[.slice (some ⟨blk, off, none⟩) zs.length cap] w fun e w' => e = .returned (.slice (some ⟨blk, off, none⟩) (Lib.compact zs).length cap) ∧ ∃ q, w' = putRow (Value.int .i64) (Sort.ahead w q) blk off (Lib.compact zs ++ List.replicate (zs.length - (Lib.compact zs).length) 0).toArray := Any.slices_Compact_int Try.laysNm220 blk off cap zs w hH hsz hcap
end Go.Proofs.Ytdokijbdnajhgaa
namespace Go.Proofs.Ytdokijbdnajhgaa
open Go Go.X Go.Sort
/-- The name, here. -/
abbrev encI : Enc Int := Go.X.encI
theorem flat_encI (xs : List Int) : xs.flatMap encI.f = xs.map (Value.int .i64) := by
  induction xs with
  | nil => rfl
  | cons x xs ih => rw [List.flatMap_cons, ih]; rfl
theorem put_take (d : List Int) (c : Array Value) (k : Nat) (hk : k ≤ d.length) (hc : d.length ≤ c.size) : (putCells (Value.int .i64) 0 d.toArray c).toList.take k = (d.take k).map (Value.int .i64) := by
  apply List.ext_getElem?
  intro i
  unfold putCells
  rw [List.getElem?_take]
  by_cases hi : i < k
  · rw [if_pos hi, Array.getElem?_toList, Array.getElem?_mapIdx, List.getElem?_map, List.getElem?_take, if_pos hi]
    rw [Array.getElem?_eq_getElem (by omega : i < c.size), List.getElem?_eq_getElem (by omega : i < d.length)]
    simp only [Option.map_some, Nat.sub_zero, Nat.zero_add, Nat.zero_le, true_and, List.size_toArray]
    rw [if_pos (by omega), getElem!_pos d.toArray i (by simpa using (by omega : i < d.length))]
    simp
  · rw [if_neg hi, List.getElem?_map, List.getElem?_take, if_neg hi]; rfl
/-- What the heap is when a row's cells have been written and blocks have come. -/
theorem put_own {h h' : Heap} {B : Nat} {e : TypeId} {g cap : Nat} {cur : Array Value} {d : List Int} {os : Array Obj} (hB : B ≤ g) (hg : h[g]? = some (.cells cur e (0, 0))) (hd : d.length ≤ cap) (hcap : cap ≤ maxLen) (hcur : cur.size = cap * 1)
    (hh : h' = (h.modify g (onCells (putCells (Value.int .i64) 0 d.toArray))) ++ os) (k : Nat) (hk : k ≤ d.length) :
    OwE encI h' B e (.slice (some ⟨g, 0, none⟩) k cap) (d.take k) ∧ Chg (.slice (some ⟨g, 0, none⟩) d.length cap) h h' := by
  have hgl : g < h.size := (Array.getElem?_eq_some_iff.1 hg).1
  have hsz : (h.modify g (onCells (putCells (Value.int .i64) 0 d.toArray))).size = h.size := by simp
  have e1 : h'[g]? = some (.cells (putCells (Value.int .i64) 0 d.toArray cur) e (0, 0)) := by
    rw [hh, Array.getElem?_append_left (by omega), Array.getElem?_modify, if_pos rfl, hg]; rfl
  refine ⟨⟨by rw [flat_encI, List.length_map]; exact (Nat.mul_one _).symm, .inr ⟨g, cap, putCells (Value.int .i64) 0 d.toArray cur, ?_, hB, e1, ?_, hcap, ?_, ?_⟩⟩, ⟨?_, fun i hi hne => ?_⟩⟩
  · rw [List.length_take, Nat.min_eq_left hk]
  · rw [List.length_take]; omega
  · unfold putCells; rw [Array.size_mapIdx]; exact hcur
  · rw [List.length_take, Nat.min_eq_left hk, flat_encI, show k * encI.k = k from Nat.mul_one k]
    exact put_take d cur k hk (by omega)
  · rw [hh, Array.size_append]; omega
  · have hig : g ≠ i := fun e' => hne (by rw [e']; rfl)
    rw [hh, Array.getElem?_append_left (by omega), Array.getElem?_modify, if_neg hig]
theorem own_parts {h : Heap} {B : Nat} {e : TypeId} {v : Value} {xs : List Int} (ho : OwE encI h B e v xs) (hne : xs ≠ []) :
    ∃ g cap cur, v = .slice (some ⟨g, 0, none⟩) xs.length cap ∧ B ≤ g ∧ h[g]? = some (.cells cur e (0, 0)) ∧ xs.length ≤ cap ∧ cap ≤ maxLen ∧ cur.size = cap * 1 ∧ cur.toList.take xs.length = xs.map (Value.int .i64) := by
  obtain ⟨_, h1 | ⟨g, cap, cur, hv, hB, hg, hn, hm, hs, ht⟩⟩ := ho
  · exact absurd (List.length_eq_zero_iff.1 h1.2) hne
  · rw [flat_encI, show xs.length * encI.k = xs.length from Nat.mul_one _] at ht
    exact ⟨g, cap, cur, hv, hB, hg, hn, hm, hs, ht⟩
theorem own_holds {w : World} {B : Nat} {e : TypeId} {xs : List Int} {g cap : Nat} {cur : Array Value} (hg : w.heap[g]? = some (.cells cur e (0, 0))) (ht : cur.toList.take xs.length = xs.map (Value.int .i64)) : Holds (Value.int .i64) w g 0 xs.toArray := by
  intro j hj
  have hj' : j < xs.length := by simpa using hj
  have hc : cur[j]? = some (Value.int .i64 xs[j]) := by
    have := congrArg (fun l => l[j]?) ht
    simp only [List.getElem?_take, List.getElem?_map] at this
    rw [if_pos hj', Array.getElem?_toList] at this
    rw [this, List.getElem?_eq_getElem hj']; rfl
  constructor
  · rw [cell_eq]
    unfold cellA
    rw [hg]
    simp only [Nat.zero_add, hc]
    rw [getElem!_pos xs.toArray j (by simpa using hj')]
    simp
  · unfold World.frozen?
    rw [hg]
    simp
theorem lsort_gen {t : TypeId} (h : Heap) (B : Nat) (v : Value) (xs : List Int) (ho : OwE encI h B t v xs) (_ : B ≤ h.size) (hne : xs ≠ []) (hl : xs.length ≤ 1000000) :
    Fx Try.prog 82 [v] h (fun r h' => r = .tuple #[] ∧ OwE encI h' B t v (xs.mergeSort fun x y => decide (x ≤ y)) ∧ Chg v h h') := by
  obtain ⟨g, cap, cur, rfl, hB, hg, hn, hm, hs, ht⟩ := own_parts ho hne
  intro w hw
  subst hw
  have hgl : g < w.heap.size := (Array.getElem?_eq_some_iff.1 hg).1
  refine (Try.slices_Sort_int g 0 cap xs w (own_holds (B := B) (cap := cap) hg ht) hgl (by omega)).mono ?_
  rintro e w' ⟨rfl, n, os, hw'⟩
  have hlen : (xs.mergeSort fun x y => decide (x ≤ y)).length = xs.length := List.length_mergeSort _
  have hh : w'.heap = (w.heap.modify g (onCells (putCells (Value.int .i64) 0 (xs.mergeSort fun x y => decide (x ≤ y)).toArray))) ++ os := by rw [hw']; rfl
  have := put_own (d := xs.mergeSort fun x y => decide (x ≤ y)) hB hg (by omega) hm hs hh xs.length (by omega)
  rw [List.take_of_length_le (by omega), hlen] at this
  exact ⟨_, rfl, by subst hw'; exact ⟨rfl, rfl, rfl⟩, rfl, this.1, this.2⟩
theorem lcompact_gen {t : TypeId} (h : Heap) (B : Nat) (v : Value) (xs : List Int) (ho : OwE encI h B t v xs) (_ : B ≤ h.size) (hne : xs ≠ []) (hl : xs.length ≤ 1000000) :
    Fx Try.prog 123 [v] h (fun r h' => ∃ s, r = s ∧ OwE encI h' B t s (Lib.compact xs) ∧ Chg v h h') := by
  obtain ⟨g, cap, cur, rfl, hB, hg, hn, hm, hs, ht⟩ := own_parts ho hne
  intro w hw
  subst hw
  have hgl : g < w.heap.size := (Array.getElem?_eq_some_iff.1 hg).1
  refine (Try.slices_Compact_int g 0 cap xs w (own_holds (B := B) (cap := cap) hg ht) (by omega) hn).mono ?_
  rintro e w' ⟨rfl, q, hw'⟩
  have hcl : (Lib.compact xs).length ≤ xs.length := by
    unfold Lib.compact Lib.compactUpTo
    rw [List.length_map]
    exact Nat.le_trans (List.length_filter_le ..) (by simp)
  have hdl : (Lib.compact xs ++ List.replicate (xs.length - (Lib.compact xs).length) 0).length = xs.length := by simp; omega
  have hh : w'.heap = (w.heap.modify g (onCells (putCells (Value.int .i64) 0 (Lib.compact xs ++ List.replicate (xs.length - (Lib.compact xs).length) 0).toArray))) ++ #[] := by rw [hw', Array.append_empty]; rfl
  have := put_own hB hg (by omega) hm hs hh (Lib.compact xs).length (by omega)
  rw [List.take_left', hdl] at this
  · exact ⟨_, rfl, by subst hw'; exact ⟨rfl, rfl, rfl⟩, _, rfl, this.1, this.2⟩
  · rfl
end Go.Proofs.Ytdokijbdnajhgaa
namespace Go.Proofs.Ytdokijbdnajhgaa
open Go.Shelf
def Try.lays113_ren : Go.Shelf.Ren := ⟨fun | 113 => 98 | n => n, fun | 28 => 25 | 3 => 3 | 4 => 4 | 9 => 9 | 20 => 20 | 0 => 0 | n => n, fun | n => n⟩
theorem Try.lays113 : Go.Proofs.Lays.n113 Try.prog Try.lays113_ren := {
  mixed := by kernel_rfl
  f113 := Try.func98.trans (congrArg some (by kernel_rfl))
  t0 := Try.underlying0
  a0 := Try.isAgg0
  z0 := Try.sizeOf0
  v0 := Try.zeroValue0
  t3 := Try.underlying3
  a3 := Try.isAgg3
  z3 := Try.sizeOf3
  v3 := Try.zeroValue3
  t4 := Try.underlying4
  a4 := Try.isAgg4
  z4 := Try.sizeOf4
  v4 := Try.zeroValue4
  t9 := Try.underlying9
  a9 := Try.isAgg9
  z9 := Try.sizeOf9
  v9 := Try.zeroValue9
  t20 := Try.underlying20
  a20 := Try.isAgg20
  z20 := Try.sizeOf20
  v20 := Try.zeroValue20
  t28 := Try.underlying25
  a28 := Try.isAgg25
  z28 := Try.sizeOf25
  v28 := Try.zeroValue25 }
open Go.Lib in
theorem Try.slices_Max_int (b off n c : Nat) (zs : List Int) (w : World) (hn : 0 < n) (hz : n ≤ zs.length) (hbig : n ≤ 9223372036854775807) (hc : ∀ j, j < zs.length → w.cell? ⟨b, off + j, none⟩ = some (.int .i64 (zs.getD j 0))) :
    Calls Try.prog 98 #[.slice (some ⟨b, off, none⟩) n c] w fun e w' => e = .returned (.int .i64 (Lib.maxOf (zs.take n))) ∧ w' = w := Any.slices_Max_int Try.lays113 b off n c zs w hn hz hbig hc
def Try.lays114_ren : Go.Shelf.Ren := ⟨fun | 114 => 97 | n => n, fun | 28 => 25 | 3 => 3 | 4 => 4 | 9 => 9 | 20 => 20 | 0 => 0 | n => n, fun | n => n⟩
theorem Try.lays114 : Go.Proofs.Lays.n114 Try.prog Try.lays114_ren := {
  mixed := by kernel_rfl
  f114 := Try.func97.trans (congrArg some (by kernel_rfl))
  t0 := Try.underlying0
  a0 := Try.isAgg0
  z0 := Try.sizeOf0
  v0 := Try.zeroValue0
  t3 := Try.underlying3
  a3 := Try.isAgg3
  z3 := Try.sizeOf3
  v3 := Try.zeroValue3
  t4 := Try.underlying4
  a4 := Try.isAgg4
  z4 := Try.sizeOf4
  v4 := Try.zeroValue4
  t9 := Try.underlying9
  a9 := Try.isAgg9
  z9 := Try.sizeOf9
  v9 := Try.zeroValue9
  t20 := Try.underlying20
  a20 := Try.isAgg20
  z20 := Try.sizeOf20
  v20 := Try.zeroValue20
  t28 := Try.underlying25
  a28 := Try.isAgg25
  z28 := Try.sizeOf25
  v28 := Try.zeroValue25 }
open Go.Lib in
theorem Try.slices_Min_int (b off n c : Nat) (zs : List Int) (w : World) (hn : 0 < n) (hz : n ≤ zs.length) (hbig : n ≤ 9223372036854775807) (hc : ∀ j, j < zs.length → w.cell? ⟨b, off + j, none⟩ = some (.int .i64 (zs.getD j 0))) :
    Calls Try.prog 97 #[.slice (some ⟨b, off, none⟩) n c] w fun e w' => e = .returned (.int .i64 (Lib.minOf (zs.take n))) ∧ w' = w := Any.slices_Min_int Try.lays114 b off n c zs w hn hz hbig hc
end Go.Proofs.Ytdokijbdnajhgaa
namespace Go.X
section
variable {P : Program} {S : Heap → Prop} {kd : Oper → Kd} {ops : Array Oper} {rest : List Oper} {K : Env → Heap → Prop} {L : List (Nat × Value)} {b : Env} {h : Heap}
variable {d : Nat} {t ty : TypeId} {p : String} {af : Array Edge} {g : Option (Nat × Bool)} {x : Operand}
theorem lx_sliceA {m k1 bn : Nat} {el : TypeId} (hw : Region.wanted ⟨some d, .slice t x none none none, ty, p, af, g⟩ (yieldE ops (ups L b)) = true) (hu : P.underlying t = some (.array m el)) (hs : ∀ w, (sizeOf el).run P w = .ok k1 w)
    (hx : ev (ups L b) x = .pointer (some ⟨bn, 0, none⟩))
    (hn : Lx P S kd ops rest K (ups ((d, .slice (some ⟨bn, 0, none⟩) m m) :: L) b) h) : Lx P S kd ops (⟨some d, .slice t x none none none, ty, p, af, g⟩ :: rest) K (ups L b) h :=
  lx_free _ hw (fun w _ => by
    have e0 : (if m = 0 then (⟨bn, 0, none⟩ : Addr) else (⟨bn, 0, none⟩ : Addr).add (0 * k1)) = ⟨bn, 0, none⟩ := by
      split
      · rfl
      · rw [Nat.zero_mul]; exact add_zero _
    simp [execOp, hx, Instr.sliceAt, Instr.sliceBounds, run_underlying hu, hs, Instr.sureAddr, add_zero]) hn
/-- A whole array variable that is known in every heap of the class is read. -/
theorem lx_ldBAF {bn n : Nat} {cs : Array Value} {te : TypeId} (hw : Region.wanted ⟨some d, .load t x, ty, p, af, g⟩ (yieldE ops (ups L b)) = true) (hf : Wide P t n) (hb : ∀ h', S h' → Blk h' bn cs te) (hl : cs.size = n) (hx : ev (ups L b) x = .pointer (some ⟨bn, 0, none⟩))
    (hn : Lx P S kd ops rest K (ups ((d, .agg cs) :: L) b) h) : Lx P S kd ops (⟨some d, .load t x, ty, p, af, g⟩ :: rest) K (ups L b) h :=
  lx_free _ hw (fun w hS => by
    have hb := hb _ hS
    have h2 := run_load_wide (P := P) hf (w := w) (a := ⟨bn, 0, none⟩) (us := cs.toList) (by simpa using hl) (fun j u hju => by
      rw [add_lit, hb.cell]; simpa using hju)
    simp [execOp, hx, Instr.loadAt, Instr.sureAddr, h2]) hn
end
theorem own_of_blk {h : Heap} {B bn : Nat} {t : TypeId} {xs : List Int} (hb : Blk h bn (ic xs) t) (hB : B ≤ bn) (hl : xs.length ≤ 1000000) : OwE encI h B t (.slice (some ⟨bn, 0, none⟩) xs.length xs.length) xs := by
  have hf : xs.flatMap encI.f = xs.map (Value.int .i64) := Go.Proofs.Ytdokijbdnajhgaa.flat_encI xs
  refine ⟨by rw [hf, List.length_map]; exact (Nat.mul_one _).symm, .inr ⟨bn, xs.length, ic xs, rfl, hB, hb, Nat.le_refl _, Nat.le_trans hl (by decide), by rw [ic_size]; exact (Nat.mul_one _).symm, ?_⟩⟩
  rw [hf, show xs.length * encI.k = xs.length from Nat.mul_one _]
  show (xs.map _).toArray.toList.take _ = _
  rw [List.take_of_length_le (by simp)]
end Go.X
namespace Go.Proofs.Ytdokijbdnajhgaa
open Go Go.X
theorem rd_parts {h : Heap} {v : Value} {xs : List Int} (hr : RdE encI h v xs) (hne : xs ≠ []) : ∃ b off c, v = .slice (some ⟨b, off, none⟩) xs.length c ∧ ∀ j, j < xs.length → cellA h ⟨b, off + j, none⟩ = some (.int .i64 (xs.getD j 0)) := by
  obtain ⟨a, cap, rfl, h1, h2, h3⟩ := hr
  have hpos : 0 < xs.length := List.length_pos_iff.2 hne
  have hget : ∀ j, j < xs.length → (xs.flatMap Go.X.encI.f)[j]? = some (Value.int .i64 (xs.getD j 0)) := fun j hj => by
    rw [flat_encI, List.getElem?_map, List.getElem?_eq_getElem hj]
    simp [List.getD, List.getElem?_eq_getElem hj]
  obtain ⟨ad, rfl, hc0⟩ := h3 0 _ (hget 0 hpos)
  obtain ⟨b, off, sp⟩ := ad
  have hsp : sp = none := by
    rw [add_zero] at hc0
    unfold cellA at hc0
    split at hc0
    · split at hc0
      · cases hc0
      · rename_i hs
        cases sp with
        | none => rfl
        | some q => exact absurd rfl hs
    · cases hc0
  subst hsp
  refine ⟨b, off, cap, rfl, fun j hj => ?_⟩
  obtain ⟨ad', he, hc⟩ := h3 j _ (hget j hj)
  cases he
  rw [add_lit] at hc
  exact hc
theorem lmin_spec (h : Heap) (v : Value) (xs : List Int) (hr : RdE encI h v xs) (hne : xs ≠ []) (hl : xs.length ≤ 1000000) : Fx Try.prog 97 [v] h (fun r h' => r = .int .i64 (Lib.minOf xs) ∧ h = h') := by
  obtain ⟨b, off, c, rfl, hc⟩ := rd_parts hr hne
  intro w hw
  subst hw
  refine (Try.slices_Min_int b off xs.length c xs w (List.length_pos_iff.2 hne) (Nat.le_refl _) (by omega) hc).mono ?_
  rintro e w' ⟨rfl, rfl⟩
  rw [List.take_length]
  exact ⟨_, rfl, ⟨rfl, rfl, rfl⟩, rfl, rfl⟩
theorem lmax_spec (h : Heap) (v : Value) (xs : List Int) (hr : RdE encI h v xs) (hne : xs ≠ []) (hl : xs.length ≤ 1000000) : Fx Try.prog 98 [v] h (fun r h' => r = .int .i64 (Lib.maxOf xs) ∧ h = h') := by
  obtain ⟨b, off, c, rfl, hc⟩ := rd_parts hr hne
  intro w hw
  subst hw
  refine (Try.slices_Max_int b off xs.length c xs w (List.length_pos_iff.2 hne) (Nat.le_refl _) (by omega) hc).mono ?_
  rintro e w' ⟨rfl, rfl⟩
  rw [List.take_length]
  exact ⟨_, rfl, ⟨rfl, rfl, rfl⟩, rfl, rfl⟩
end Go.Proofs.Ytdokijbdnajhgaa
namespace Go.X
section
variable {P : Program}
theorem bld5 {tx el : TypeId} (hu : P.underlying tx = some (.array 5 el)) (hz : ∀ w, (zeroValue tx).run P w = .ok (.agg #[.int .i64 0, .int .i64 0, .int .i64 0, .int .i64 0, .int .i64 0]) w) (hs : ∀ w, (sizeOf el).run P w = .ok 1 w) (a b c d e : Int) (w : World) :
    (Instr.build tx #[(0, .int .i64 a), (1, .int .i64 b), (2, .int .i64 c), (3, .int .i64 d), (4, .int .i64 e)]).run P w = .ok (.agg #[.int .i64 a, .int .i64 b, .int .i64 c, .int .i64 d, .int .i64 e]) w := by
  have hc : (Value.agg #[Value.int .i64 0, Value.int .i64 0, Value.int .i64 0, Value.int .i64 0, Value.int .i64 0]).cells = #[Value.int .i64 0, Value.int .i64 0, Value.int .i64 0, Value.int .i64 0, Value.int .i64 0] := rfl
  simp [Instr.build, hz, run_underlying hu, hs, Instr.fill, hc, Value.cells]
theorem bld5z {tx el : TypeId} (hu : P.underlying tx = some (.array 5 el)) (hz : ∀ w, (zeroValue tx).run P w = .ok (.agg #[.int .i64 0, .int .i64 0, .int .i64 0, .int .i64 0, .int .i64 0]) w) (hs : ∀ w, (sizeOf el).run P w = .ok 1 w) (w : World) :
    (Instr.build tx #[]).run P w = .ok (.agg #[.int .i64 0, .int .i64 0, .int .i64 0, .int .i64 0, .int .i64 0]) w := by
  have hc : (Value.agg #[Value.int .i64 0, Value.int .i64 0, Value.int .i64 0, Value.int .i64 0, Value.int .i64 0]).cells = #[Value.int .i64 0, Value.int .i64 0, Value.int .i64 0, Value.int .i64 0, Value.int .i64 0] := rfl
  simp [Instr.build, hz, run_underlying hu, hs, Instr.fill, hc]
end
end Go.X
namespace Go.X
theorem adj_lt : ∀ {zs : List Int}, zs.Pairwise (· ≤ ·) → (∀ (j : Nat) (h : j + 1 < zs.length), zs[j] ≠ zs[j + 1]) → zs.Pairwise (· < ·)
  | [], _, _ => List.Pairwise.nil
  | [a], _, _ => List.pairwise_singleton _ _
  | a :: b :: zs, hp, hn => by
    rw [List.pairwise_cons] at hp ⊢
    have ih := adj_lt hp.2 fun j h => hn (j + 1) (by simpa using h)
    have hab : a < b := by
      have h1 := hp.1 b (by simp)
      have h2 := hn 0 (by simp)
      simp at h2
      omega
    refine ⟨fun z hz => ?_, ih⟩
    rcases List.mem_cons.1 hz with rfl | hz
    · exact hab
    · have := (List.pairwise_cons.1 ih).1 z hz
      omega
theorem compact_less {zs : List Int} (hp : zs.Pairwise (· ≤ ·)) : (Lib.compact zs).length < zs.length ↔ ¬ zs.Nodup := by
  have hlen : (Lib.compact zs).length = ((List.range zs.length).filter (Lib.keeps zs.toArray)).length := by unfold Lib.compact Lib.compactUpTo; rw [List.length_map]
  have hle : ((List.range zs.length).filter (Lib.keeps zs.toArray)).length ≤ zs.length := by
    have := List.length_filter_le (Lib.keeps zs.toArray) (List.range zs.length)
    rwa [List.length_range] at this
  have key : ((List.range zs.length).filter (Lib.keeps zs.toArray)).length = zs.length ↔ zs.Nodup := by
    constructor
    · intro h
      have h1 : ∀ j ∈ List.range zs.length, Lib.keeps zs.toArray j = true := by
        rw [← List.length_filter_eq_length_iff, h, List.length_range]
      refine (adj_lt hp fun j hj e => ?_).imp fun h => by omega
      have := h1 (j + 1) (List.mem_range.2 hj)
      unfold Lib.keeps at this
      simp [hj, Nat.lt_of_succ_lt hj] at this
      exact this e.symm
    · intro h
      have h1 : ∀ j ∈ List.range zs.length, Lib.keeps zs.toArray j = true := by
        intro j hj
        rw [List.mem_range] at hj
        unfold Lib.keeps
        rw [decide_eq_true_iff]
        by_cases h0 : j = 0
        · exact .inl h0
        · right
          have hj1 : j - 1 < zs.length := by omega
          simp [hj, hj1]
          intro e
          exact List.pairwise_iff_getElem.1 h (j - 1) j hj1 hj (by omega) e.symm
      rw [List.length_filter_eq_length_iff.2 h1, List.length_range]
  rw [hlen]
  constructor
  · intro h hn; rw [key.2 hn] at h; omega
  · intro h
    rcases Nat.lt_or_ge ((List.range zs.length).filter (Lib.keeps zs.toArray)).length zs.length with h1 | h1
    · exact h1
    · exact absurd (key.1 (by omega)) h
theorem sort_asc5 (xs : List Int) : (xs.mergeSort fun x y => decide (x ≤ y)).Pairwise (· ≤ ·) := by
  have := List.pairwise_mergeSort (le := fun x y : Int => decide (x ≤ y)) (by intro a b c h1 h2; simp at *; omega) (by intro a b; simp; omega) xs
  exact this.imp fun h => by simpa using h
theorem compact_sorted (xs : List Int) : (Lib.compact (xs.mergeSort fun x y => decide (x ≤ y))).length < xs.length ↔ ¬ xs.Nodup := by
  have h1 := compact_less (sort_asc5 xs)
  rw [List.length_mergeSort, List.Perm.nodup_iff (List.mergeSort_perm xs _)] at h1
  exact h1
end Go.X
