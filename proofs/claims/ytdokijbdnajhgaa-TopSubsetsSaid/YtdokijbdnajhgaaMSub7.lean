/-
  Of any integer: the law TopSubsets returns true (the sets of few elements, as an order, have as many join elements as there are elements, no bad five, and the numbers of Moebius 1 and -1 by turns; what lies above a set is its closure), and nothing that was there turns.
  Conditions: none beyond the given statement's.
-/
import Derived.Test.YtdokijbdnajhgaaMSub6
import Derived.Test.YtdokijbdnajhgaaRows
set_option linter.unusedSimpArgs false
set_option linter.unusedVariables false
namespace Go.Proofs.Ytdokijbdnajhgaa
open Go Go.X

set_option maxRecDepth 10000 in
theorem number_spec (h : Heap) (b : Bool) : Fx Try.prog 184 [.bool b] h (fun v h' => v = .int .i64 (bI b) ∧ h = h') := by
  refine fx_intro (n := 4) [(0, .bool b)] Try.func184 rfl rfl (by simp) ⟨rfl, trivial⟩ fun g0 => ?_
  refine wi_seq <| wi_reg rfl <| lx_assign (.int .i64 0) rfl rfl <| lx_nil <| wi_seq <| wi_seq <| wi_reg rfl <| lx_move (.bool b) rfl rfl <| lx_nil <| wi_condS (t := b) rfl (fun c1 => ?_) (fun c1 => ?_)
  · refine wi_seq <| wi_reg rfl <| lx_assign (.int .i64 1) rfl rfl <| lx_nil <| ?_
    -- R1
    refine wi_ret ⟨.int .i64 1, (res_one rfl rfl), ⟨?_, rfl⟩⟩
    · congr 1
      first | (rw [show b = true from by assumption]; rfl) | (rw [show b = false from by assumption]; rfl)
  · refine wi_skip <| wi_seq <| wi_reg rfl <| lx_assign (.int .i64 0) rfl rfl <| lx_nil <| ?_
    -- R2
    refine wi_ret ⟨.int .i64 0, (res_one rfl rfl), ⟨?_, rfl⟩⟩
    · congr 1
      first | (rw [show b = true from by assumption]; rfl) | (rw [show b = false from by assumption]; rfl)

set_option maxRecDepth 10000 in
theorem numbers_spec (h : Heap) (vf : Value) (fs : List Bool) (hr_vf : RdE encB h vf fs) (hp1 : fs.length ≤ 100) : Fx Try.prog 174 [vf] h (fun v h' => ∃ (s : Value), v = s ∧ OwE encI h' h.size 3 s (fs.map bI) ∧ Ext h.size h h') := by
  refine fx_intro (n := 19) [(0, vf)] Try.func174 rfl rfl (by simp) ⟨rfl, trivial⟩ fun g0 => ?_
  refine wi_seq <| wi_reg rfl <| lx_assign (.slice none 0 0) rfl rfl <| lx_nil <| wi_seq <| wi_reg rfl <| lx_assign (.slice none 0 0) rfl rfl <| lx_nil <| wi_seq <| wi_seq <| wi_reg rfl <| lx_move (vf) rfl rfl <| lx_len rfl Try.underlying70 hr_vf rfl <| lx_move (.int .i64 0) rfl rfl <| lx_nil <| wi_block <| ?_
  refine wi_loop (σ := Nat × Value × (List Int)) (rngB 8 18 [3, 5]) (fun (ss : Nat × Value × (List Int)) => [(8, .int .i64 ((ss.1 : Nat) : Int)), (3, ss.2.1)]) (fun (ss : Nat × Value × (List Int)) (hh : Heap) => OwE encI hh h.size 3 ss.2.1 ss.2.2 ∧ Ext h.size h hh ∧ (ss.1 ≤ fs.length) ∧ (ss.2.2 = (fs.take ss.1).map bI)) (fun (ss : Nat × Value × (List Int)) => fs.length - ss.1) (0, .slice none 0 0, []) ⟨rfl, rfl, trivial⟩ ⟨?_, (Ext.refl _ _), ?_, ?_⟩ ?_
  · first | exact (owE_nil encI _ h.size 3) | (simpa using (owE_nil encI _ h.size 3))
  · try dsimp only
    omega
  · try dsimp only
    first | done | rfl
  rintro g1 ⟨k, v, xs⟩ hh1 ⟨ho1, hx0_1, hk, hxs⟩ IH1
  dsimp only at *
  have hxl : xs.length = k := by rw [hxs]; simp; omega
  refine wi_seq <| wi_reg rfl <| lx_lssS rfl rfl rfl (fun c1 => ?_) (fun c1 => ?_)
  · refine lx_nil <| wi_seq <| wi_true rfl <| wi_skip <| wi_seq <| wi_block <| wi_seq <| wi_reg rfl <| lx_ix (i := k) rfl eT70 hr_vf rfl rfl (by omega) <| lx_ld (i := k) (j := 0) (.bool (gt fs k)) rfl rfl fl4 (hr_vf.extS hx0_1) (by omega) rfl rfl <| lx_assign (.bool (gt fs k)) rfl rfl <| lx_nil <| wi_reg rfl <| lx_move (v) rfl rfl <| lx_move (.bool (gt fs k)) rfl rfl <| lx_call [.bool (gt fs k)] rfl rfl Try.call184 rfl (number_spec hh1 (gt fs k) ) (fun _ _ _ => trivial) ?_
    rintro _ h1 ⟨rfl, rfl⟩
    refine lx_appendL (E := encI) (B := h.size) [bI (gt fs k)] [.int .i64 (bI (gt fs k))] rfl rfl (fun _ => rfl) rfl eT25 rfl rfl rfl rfl ho1 (fun _ => rfl) (by show xs.length + 1 ≤ _; omega) (by show (xs.length + 1) * 8 ≤ _; omega) hx0_1.size (fun _ _ => trivial) fun u1 v1 h2 ho2 hc1 hg1 => ?_
    have hx0_2 := hx0_1.trans (ho1.ext hc1 hx0_1.size)
    refine lx_assign (v1) rfl rfl <| lx_nil <| wi_inBlock <| wi_reg rfl <| lx_add (((k + 1 : Nat) : Int)) rfl rfl rfl (by omega) (by omega) (by omega) <| lx_move (.int .i64 ((k + 1 : Nat) : Int)) rfl rfl <| lx_nil <| ?_
    -- L0.1
    refine IH1 _ _ (k + 1, v1, xs ++ [bI (gt fs k)]) (agree_ups rfl agree_self) ⟨rfl, rfl, trivial⟩ ⟨?_, hx0_2, ?_, ?_⟩ ?_
    · first | exact ho2 | (simpa using ho2)
    · try dsimp only
      omega
    · try dsimp only
      rw [hxs, List.take_add_one, gt_some (by omega)]; simp
    · first | omega | (dsimp only; omega)
  · refine lx_nil <| wi_seq <| wi_false rfl <| wi_exit rfl <| wi_seq <| wi_reg rfl <| lx_move (v) rfl rfl <| lx_assign (v) rfl rfl <| lx_nil <| ?_
    -- R1
    refine wi_ret ⟨v, (res_one rfl rfl), ⟨v, rfl, ?_, hx0_1⟩⟩
    · rw [show fs.map bI = xs from by rw [hxs, show k = fs.length from by omega, List.take_length]]; exact ho1

set_option maxRecDepth 10000 in
theorem reals1_spec (h : Heap) (a : Int) (b : Int) (hp1 : -100 ≤ a) (hp2 : a ≤ 100) (hp3 : -100 ≤ b) (hp4 : b ≤ 100) : Fx Try.prog 176 [.int .i64 a, .int .i64 b] h (fun v h' => v = .tuple #[.int .i64 a, .int .i64 (b - a)] ∧ h = h') := by
  refine fx_intro (n := 10) [(0, .int .i64 a), (1, .int .i64 b)] Try.func176 rfl rfl (by simp) ⟨rfl, rfl, trivial⟩ fun g0 => ?_
  refine wi_seq <| wi_reg rfl <| lx_assign (.int .i64 0) rfl rfl <| lx_assign (.int .i64 0) rfl rfl <| lx_nil <| wi_seq <| wi_reg rfl <| lx_move (.int .i64 a) rfl rfl <| lx_move (.int .i64 b) rfl rfl <| lx_move (.int .i64 a) rfl rfl <| lx_sub (b - a) rfl rfl rfl (by omega) (by omega) (by omega) <| lx_assign (.int .i64 a) rfl rfl <| lx_assign (.int .i64 (b - a)) rfl rfl <| lx_nil <| ?_
  -- R1
  refine wi_ret ⟨.tuple #[.int .i64 a, .int .i64 (b - a)], (res_two rfl rfl rfl), ⟨rfl, rfl⟩⟩

set_option maxRecDepth 10000 in
theorem turn_spec (h : Heap) (B : Nat) (vl : Value) (xs : List Int) (ho_vl : OwE encI h B 3 vl xs) (hB : B ≤ h.size) (hp1 : xs = tr0) : Fx Try.prog 175 [vl, .func (.func 176) #[] #[]] h (fun v h' => v = .tuple #[] ∧ OwE encI h' B 3 vl (trT 2 0) ∧ Ext B h h') := by
  refine fx_intro (n := 45) [(0, vl), (1, .func (.func 176) #[] #[])] Try.func175 rfl rfl (by simp) ⟨rfl, rfl, trivial⟩ fun g0 => ?_
  refine wi_seq <| wi_reg rfl <| lx_assign (.int .i64 1) rfl rfl <| lx_nil <| wi_block <| ?_
  refine wi_loop (σ := Nat × (List Int)) (rngB 4 45 []) (fun (ss : Nat × (List Int)) => [(4, .int .i64 ((2 ^ ss.1 : Nat) : Int))]) (fun (ss : Nat × (List Int)) (hh : Heap) => OwE encI hh B 3 vl ss.2 ∧ Ext B h hh ∧ (ss.1 ≤ 2) ∧ (ss.2 = trT ss.1 0)) (fun (ss : Nat × (List Int)) => 2 - ss.1) (0, xs) ⟨rfl, trivial⟩ ⟨?_, (Ext.refl _ _), ?_, ?_⟩ ?_
  · first | exact ho_vl | (simpa using ho_vl)
  · try dsimp only
    omega
  · try dsimp only
    rw [hp1]; rfl
  rintro g1 ⟨e, ys⟩ hh1 ⟨ho1, hx0_1, he, hys⟩ IH1
  dsimp only at *
  have hyl := (trT_ok (e := e) (x := 0) (j := 0) (by omega) (by omega) (by omega)).1
  rw [← hys] at hyl
  have hpe : e = 0 ∧ 2 ^ e = 1 ∨ e = 1 ∧ 2 ^ e = 2 ∨ e = 2 ∧ 2 ^ e = 4 := by
    rcases Nat.lt_or_ge e 1 with h9 | h9
    · obtain rfl : e = 0 := by omega
      exact .inl ⟨rfl, rfl⟩
    · rcases Nat.lt_or_ge e 2 with h8 | h8
      · obtain rfl : e = 1 := by omega
        exact .inr (.inl ⟨rfl, rfl⟩)
      · obtain rfl : e = 2 := by omega
        exact .inr (.inr ⟨rfl, rfl⟩)
  refine wi_seq <| wi_seq <| wi_reg rfl <| lx_move (.int .i64 ((2 ^ e : Nat) : Int)) rfl rfl <| lx_move (vl) rfl rfl <| lx_len rfl Try.underlying25 ho1.rd rfl <| lx_lssS rfl rfl rfl (fun c1 => ?_) (fun c1 => ?_)
  · refine lx_nil <| wi_true rfl <| wi_skip <| wi_seq <| wi_block <| wi_seq <| wi_reg rfl <| lx_move (vl) rfl rfl <| lx_len rfl Try.underlying25 ho1.rd rfl <| lx_move (.int .i64 0) rfl rfl <| lx_nil <| wi_block <| ?_
    refine wi_loop (σ := Nat × (List Int)) (rngB 14 45 [5]) (fun (ss : Nat × (List Int)) => [(14, .int .i64 ((ss.1 : Nat) : Int))]) (fun (ss : Nat × (List Int)) (hh : Heap) => OwE encI hh B 3 vl ss.2 ∧ Ext B h hh ∧ (ss.1 ≤ 4) ∧ (ss.2 = trT e ss.1)) (fun (ss : Nat × (List Int)) => 4 - ss.1) (0, ys) ⟨rfl, trivial⟩ ⟨?_, hx0_1, ?_, ?_⟩ ?_
    · first | exact ho1 | (simpa using ho1)
    · try dsimp only
      omega
    · try dsimp only
      exact hys
    rintro g2 ⟨x, ys⟩ hh2 ⟨ho2, hx0_2, hx, hys2⟩ IH2
    dsimp only at *
    have hyl2 := (trT_ok (e := e) (x := x) (j := 0) (by omega) (by omega) (by omega)).1
    rw [← hys2] at hyl2
    have hal : x &&& 2 ^ e ≤ x := Nat.and_le_left
    refine wi_seq <| wi_reg rfl <| lx_lssS rfl rfl rfl (fun c2 => ?_) (fun c2 => ?_)
    · refine lx_nil <| wi_seq <| wi_true rfl <| wi_skip <| wi_seq <| wi_block <| wi_seq <| wi_reg rfl <| lx_move (.int .i64 ((x : Nat) : Int)) rfl rfl <| lx_assign (.int .i64 ((x : Nat) : Int)) rfl rfl <| lx_nil <| wi_seq <| wi_reg rfl <| lx_move (.int .i64 ((x : Nat) : Int)) rfl rfl <| lx_move (.int .i64 ((2 ^ e : Nat) : Int)) rfl rfl <| lx_and (m := x) (n := 2 ^ e) rfl rfl rfl (by show _ < 2 ^ 64; omega) (by show _ < 2 ^ 64; omega) (wrap_i64 (by omega) (by omega)) <| lx_eqlS rfl rfl rfl (fun c3 => ?_) (fun c3 => ?_)
      · refine lx_nil <| wi_true rfl <| wi_draw mo rfl (by decide +kernel) <| ?_
        have hor := or_ok (e := e) (x := x) (by omega) (by omega) (by omega)
        have hb1 := trT_ok (e := e) (x := x) (j := x) (by omega) (by omega) (by omega)
        have hb2 := trT_ok (e := e) (x := x) (j := x ||| 2 ^ e) (by omega) (by omega) hor
        rw [← hys2] at hb1 hb2
        refine lx_move (vl) rfl rfl <| lx_move (.int .i64 ((x : Nat) : Int)) rfl rfl <| lx_move (vl) rfl rfl <| lx_move (.int .i64 ((x : Nat) : Int)) rfl rfl <| lx_move (.int .i64 ((2 ^ e : Nat) : Int)) rfl rfl <| lx_or (m := x) (n := 2 ^ e) rfl rfl rfl (by show _ < 2 ^ 64; omega) (by show _ < 2 ^ 64; omega) (wrap_i64 (by omega) (by omega)) <| lx_move (.func (.func 176) #[] #[]) rfl rfl <| lx_move (vl) rfl rfl <| lx_move (.int .i64 ((x : Nat) : Int)) rfl rfl <| lx_ix (i := x) rfl eT25 ho2.rd rfl rfl (by omega) <| lx_ld (i := x) (j := 0) (.int .i64 (gt ys x)) rfl rfl fl3 ho2.rd (by omega) rfl rfl <| lx_move (vl) rfl rfl <| lx_move (.int .i64 ((x : Nat) : Int)) rfl rfl <| lx_move (.int .i64 ((2 ^ e : Nat) : Int)) rfl rfl <| lx_or (m := x) (n := 2 ^ e) rfl rfl rfl (by show _ < 2 ^ 64; omega) (by show _ < 2 ^ 64; omega) (wrap_i64 (by omega) (by omega)) <| lx_ix (i := x ||| (2 ^ e)) rfl eT25 ho2.rd rfl rfl (by omega) <| lx_ld (i := x ||| (2 ^ e)) (j := 0) (.int .i64 (gt ys (x ||| (2 ^ e)))) rfl rfl fl3 ho2.rd (by omega) rfl rfl <| lx_callV [] [] [.int .i64 (gt ys x), .int .i64 (gt ys (x ||| (2 ^ e)))] rfl rfl Try.call176 rfl rfl (reals1_spec hh2 (gt ys x) (gt ys (x ||| (2 ^ e))) (by omega) (by omega) (by omega) (by omega)) (fun _ _ _ => trivial) ?_
        rintro _ h1 ⟨rfl, rfl⟩
        refine lx_move (.tuple #[.int .i64 ((gt ys x)), .int .i64 ((gt ys (x ||| (2 ^ e))) - (gt ys x))]) rfl rfl <| lx_extract (.int .i64 ((gt ys x))) rfl rfl rfl <| lx_extract (.int .i64 ((gt ys (x ||| (2 ^ e))) - (gt ys x))) rfl rfl rfl <| lx_ix (i := x) rfl eT25 ho2.rd rfl rfl (by omega) <| lx_st (i := x) ((gt ys x)) rfl rfl Try.sizeOf3 ho2 (by omega) rfl rfl (fun _ _ _ _ _ => trivial) fun h2 ho3 hc1 hsz1 => ?_
        have hx0_3 := hx0_2.trans (ho2.ext hc1 (Nat.le_trans hB hx0_2.size))
        have hcc1 := hc1
        refine lx_ix (i := x ||| (2 ^ e)) rfl eT25 ho3.rd rfl rfl (by first | omega | (simp only [List.length_set, List.length_append, List.length_cons, List.length_nil, List.length_replicate, List.length_take, swp_length, exch_length]; omega)) <| lx_st (i := x ||| (2 ^ e)) ((gt ys (x ||| (2 ^ e))) - (gt ys x)) rfl rfl Try.sizeOf3 ho3 (by first | omega | (simp only [List.length_set, List.length_append, List.length_cons, List.length_nil, List.length_replicate, List.length_take, swp_length, exch_length]; omega)) rfl rfl (fun _ _ _ _ _ => trivial) fun h3 ho4 hc2 hsz2 => ?_
        have hx0_4 := hx0_3.trans (ho3.ext hc2 (Nat.le_trans hB hx0_3.size))
        have hcc2 := hcc1.trans hc2
        refine lx_nil <| wi_inBlock <| wi_reg rfl <| lx_add (((x + 1 : Nat) : Int)) rfl rfl rfl (by omega) (by omega) (by omega) <| lx_move (.int .i64 ((x + 1 : Nat) : Int)) rfl rfl <| lx_nil <| ?_
        -- L2.1
        refine IH2 _ _ (x + 1, (ys.set x ((gt ys x))).set (x ||| (2 ^ e)) ((gt ys (x ||| (2 ^ e))) - (gt ys x))) (agree_ups rfl agree_self) ⟨rfl, trivial⟩ ⟨?_, hx0_4, ?_, ?_⟩ ?_
        · first | exact ho4 | (simpa using ho4)
        · try dsimp only
          omega
        · try dsimp only
          rw [trT_succ, trS]
          first
          | rw [if_pos (by omega), ← hys2]
          | rw [if_neg (by omega), ← hys2]
        · first | omega | (dsimp only; omega)
      · refine lx_nil <| wi_false rfl <| wi_skip <| wi_inBlock <| wi_reg rfl <| lx_add (((x + 1 : Nat) : Int)) rfl rfl rfl (by omega) (by omega) (by omega) <| lx_move (.int .i64 ((x + 1 : Nat) : Int)) rfl rfl <| lx_nil <| ?_
        -- L2.2
        refine IH2 _ _ (x + 1, ys) (agree_ups rfl agree_self) ⟨rfl, trivial⟩ ⟨?_, hx0_2, ?_, ?_⟩ ?_
        · first | exact ho2 | (simpa using ho2)
        · try dsimp only
          omega
        · try dsimp only
          rw [trT_succ, trS]
          first
          | rw [if_pos (by omega), ← hys2]
          | rw [if_neg (by omega), ← hys2]
        · first | omega | (dsimp only; omega)
    · refine lx_nil <| wi_seq <| wi_false rfl <| wi_exit rfl <| wi_inBlock <| wi_reg rfl <| lx_move (.int .i64 ((2 ^ e : Nat) : Int)) rfl rfl <| lx_mul ((((2 ^ e) * 2 : Nat) : Int)) rfl rfl rfl (by omega) (by omega) (by omega) <| lx_assign (.int .i64 (((2 ^ e) * 2 : Nat) : Int)) rfl rfl <| lx_nil <| ?_
      -- L0.1
      refine IH1 _ _ (e + 1, ys) (agree_ups rfl (agree_mix (rngB_sub (by decide) (by decide) rfl) (agree_ups rfl agree_self))) ⟨rfl, trivial⟩ ⟨?_, hx0_2, ?_, ?_⟩ ?_
      · first | exact ho2 | (simpa using ho2)
      · try dsimp only
        omega
      · try dsimp only
        rw [hys2, show x = 4 from by omega]; exact (trT_next e).symm
      · first | omega | (dsimp only; omega)
  · refine lx_nil <| wi_false rfl <| wi_exit rfl <| ?_
    -- R1
    refine wi_end ⟨.tuple #[], (res_none rfl), ⟨rfl, ?_, hx0_1⟩⟩
    · obtain rfl : e = 2 := by omega
      rw [← hys]; exact ho1

set_option maxRecDepth 10000 in
theorem reals_spec (h : Heap) (vf : Value) (fs : List Bool) (hr_vf : RdE encB h vf fs) (hp1 : fs = [false, true, true, false]) : Fx Try.prog 152 [vf] h (fun v h' => ∃ (s : Value), v = s ∧ OwE encI h' h.size 3 s (trT 2 0) ∧ Ext h.size h h') := by
  refine fx_intro (n := 9) [(0, vf)] Try.func152 rfl rfl (by simp) ⟨rfl, trivial⟩ fun g0 => ?_
  refine wi_seq <| wi_reg rfl <| lx_assign (.slice none 0 0) rfl rfl <| lx_nil <| wi_seq <| wi_reg rfl <| lx_move (vf) rfl rfl <| lx_call [vf] rfl rfl Try.call174 rfl (numbers_spec h vf fs hr_vf (by rw [hp1]; decide)) (fun _ _ _ => trivial) ?_
  rintro v1 h1 ⟨_, rfl, ho1, hx1⟩
  have ho2 := ho1.base (Nat.le_refl h.size)
  refine lx_assign (v1) rfl rfl <| lx_nil <| wi_seq <| wi_reg rfl <| lx_move (v1) rfl rfl <| lx_call [v1, .func (.func 176) #[] #[]] rfl rfl Try.call175 rfl (turn_spec h1 h.size v1 (fs.map bI) ho2 hx1.size (by rw [hp1]; rfl)) (fun _ _ _ => trivial) ?_
  rintro _ h2 ⟨rfl, ho3, hx2⟩
  have hx0_1 := hx1.trans hx2
  refine lx_nil <| wi_seq <| wi_reg rfl <| lx_move (v1) rfl rfl <| lx_assign (v1) rfl rfl <| lx_nil <| ?_
  -- R1
  refine wi_ret ⟨v1, (res_one rfl rfl), ⟨v1, rfl, ho3, hx0_1⟩⟩

set_option maxRecDepth 10000 in
theorem count_spec (h : Heap) (x : Nat) (hp1 : x < 4096) : Fx Try.prog 153 [.int .i64 ((x : Nat) : Int)] h (fun v h' => v = .int .i64 ((popN x : Nat) : Int) ∧ h = h') := by
  refine fx_intro (n := 6) [(0, .int .i64 ((x : Nat) : Int))] Try.func153 rfl rfl (by simp) ⟨rfl, trivial⟩ fun g0 => ?_
  refine wi_seq <| wi_reg rfl <| lx_assign (.int .i64 0) rfl rfl <| lx_nil <| wi_seq <| wi_reg rfl <| lx_move (.int .i64 ((x : Nat) : Int)) rfl rfl <| lx_conv ((x : Nat) : Int) rfl Try.underlying3 Try.underlying45 rfl (wrap_u64 (by omega) (by omega)) <| lx_call [.int .u64 ((x : Nat) : Int)] rfl rfl Try.call104 rfl (ones_spec h x (by omega)) (fun _ _ _ => trivial) ?_
  rintro _ h1 ⟨rfl, rfl⟩
  refine lx_assign (.int .i64 ((popN x : Nat) : Int)) rfl rfl <| lx_nil <| ?_
  -- R1
  refine wi_ret ⟨.int .i64 ((popN x : Nat) : Int), (res_one rfl rfl), ⟨rfl, rfl⟩⟩

set_option maxRecDepth 10000 in
theorem size_spec (h : Heap) (n : Nat) (hp1 : n = 4) : Fx Try.prog 173 [.int .i64 ((n : Nat) : Int)] h (fun v h' => v = .tuple #[.int .i64 ((2 : Nat) : Int), .bool true] ∧ h = h') := by
  refine fx_intro (n := 23) [(0, .int .i64 ((n : Nat) : Int))] Try.func173 rfl rfl (by simp) ⟨rfl, trivial⟩ fun g0 => ?_
  refine wi_seq <| wi_reg rfl <| lx_assign (.int .i64 0) rfl rfl <| lx_assign (.bool false) rfl rfl <| lx_nil <| wi_seq <| wi_reg rfl <| lx_move (.int .i64 ((n : Nat) : Int)) rfl rfl <| lx_conv ((n : Nat) : Int) rfl Try.underlying3 Try.underlying45 rfl (wrap_u64 (by omega) (by omega)) <| lx_call [.int .u64 ((n : Nat) : Int)] rfl rfl Try.call127 rfl (blen_spec h n (by omega)) (fun _ _ _ => trivial) ?_
  rintro _ h1 ⟨rfl, rfl⟩
  rw [show Lib.bitLen n = 3 from by rw [hp1]; exact len4]
  refine lx_sub (((2 : Nat) : Int)) rfl rfl rfl (by omega) (by omega) (by omega) <| lx_assign (.int .i64 ((2 : Nat) : Int)) rfl rfl <| lx_nil <| wi_seq <| wi_reg rfl <| lx_move (.int .i64 ((2 : Nat) : Int)) rfl rfl <| lx_move (.int .i64 ((n : Nat) : Int)) rfl rfl <| lx_geqS rfl rfl rfl (fun c1 => ?_) (fun c1 => ?_)
  · refine lx_move (.bool true) rfl rfl <| lx_move (.int .i64 ((n : Nat) : Int)) rfl rfl <| lx_leqS rfl rfl rfl (fun c2 => ?_) (fun c2 => ?_)
    · refine lx_pick true (.bool true) rfl rfl rfl <| lx_move (.bool true) rfl rfl <| lx_move (.int .i64 ((n : Nat) : Int)) rfl rfl <| lx_move (.int .i64 ((2 : Nat) : Int)) rfl rfl <| lx_conv ((2 : Nat) : Int) rfl Try.underlying3 Try.underlying45 rfl (wrap_u64 (by omega) (by omega)) <| lx_shl (m := 1) (n := 2) rfl rfl rfl (by show _ ≤ 64; omega) (wrap_i64 (by omega) (by omega)) <| lx_eqlS rfl rfl rfl (fun c3 => ?_) (fun c3 => ?_)
      · refine lx_pick true (.bool true) rfl rfl rfl <| lx_assign (.int .i64 ((2 : Nat) : Int)) rfl rfl <| lx_assign (.bool true) rfl rfl <| lx_nil <| ?_
        -- R1
        refine wi_ret ⟨.tuple #[.int .i64 ((2 : Nat) : Int), .bool true], (res_two rfl rfl rfl), ⟨rfl, rfl⟩⟩
      · refine lx_pick true (.bool false) rfl rfl rfl <| lx_assign (.int .i64 ((2 : Nat) : Int)) rfl rfl <| lx_assign (.bool false) rfl rfl <| lx_nil <| ?_
        -- R2
        refine wi_ret ⟨.tuple #[.int .i64 ((2 : Nat) : Int), .bool false], (res_two rfl rfl rfl), ⟨?_, rfl⟩⟩
        · first | rfl | (simp; done) | (simp; omega)
    · refine lx_pick true (.bool false) rfl rfl rfl <| lx_move (.bool false) rfl rfl <| lx_skip rfl <| lx_skip rfl <| lx_skip rfl <| lx_skip rfl <| lx_skip rfl <| lx_pick false (.bool false) rfl rfl rfl <| lx_assign (.int .i64 ((2 : Nat) : Int)) rfl rfl <| lx_assign (.bool false) rfl rfl <| lx_nil <| ?_
      -- R3
      refine wi_ret ⟨.tuple #[.int .i64 ((2 : Nat) : Int), .bool false], (res_two rfl rfl rfl), ⟨?_, rfl⟩⟩
      · first | rfl | (simp; done) | (simp; omega)
  · refine lx_move (.bool false) rfl rfl <| lx_skip rfl <| lx_skip rfl <| lx_pick false (.bool false) rfl rfl rfl <| lx_move (.bool false) rfl rfl <| lx_skip rfl <| lx_skip rfl <| lx_skip rfl <| lx_skip rfl <| lx_skip rfl <| lx_pick false (.bool false) rfl rfl rfl <| lx_assign (.int .i64 ((2 : Nat) : Int)) rfl rfl <| lx_assign (.bool false) rfl rfl <| lx_nil <| ?_
    -- R4
    refine wi_ret ⟨.tuple #[.int .i64 ((2 : Nat) : Int), .bool false], (res_two rfl rfl rfl), ⟨?_, rfl⟩⟩
    · first | rfl | (simp; done) | (simp; omega)

set_option maxRecDepth 10000 in
theorem ccheck_spec (h : Heap) (vf : Value) (fs : List Bool) (hr_vf : RdE encB h vf fs) (hp1 : fs.length = 4) : Fx Try.prog 151 [vf] h (fun v h' => v = .int .i64 0 ∧ h = h') := by
  refine fx_intro (n := 13) [(0, vf)] Try.func151 rfl rfl (by simp) ⟨rfl, trivial⟩ fun g0 => ?_
  refine wi_seq <| wi_reg rfl <| lx_assign (.int .i64 0) rfl rfl <| lx_nil <| wi_seq <| wi_seq <| wi_reg rfl <| lx_move (vf) rfl rfl <| lx_len rfl Try.underlying70 hr_vf rfl <| lx_call [.int .i64 ((fs.length : Nat) : Int)] rfl rfl Try.call173 rfl (size_spec h fs.length (by omega)) (fun _ _ _ => trivial) ?_
  rintro _ h1 ⟨rfl, rfl⟩
  refine lx_move (.tuple #[.int .i64 ((2 : Nat) : Int), .bool true]) rfl rfl <| lx_extract (.int .i64 ((2 : Nat) : Int)) rfl rfl rfl <| lx_extract (.bool true) rfl rfl rfl <| lx_assign (.int .i64 ((2 : Nat) : Int)) rfl rfl <| lx_assign (.bool true) rfl rfl <| lx_nil <| wi_seq <| wi_reg rfl <| lx_move (.bool true) rfl rfl <| lx_notB false rfl rfl rfl <| lx_nil <| wi_false rfl <| wi_skip <| wi_seq <| wi_reg rfl <| lx_assign (.int .i64 0) rfl rfl <| lx_nil <| ?_
  -- R1
  refine wi_ret ⟨.int .i64 0, (res_one rfl rfl), ⟨rfl, rfl⟩⟩

set_option maxRecDepth 10000 in
theorem degree_spec (h : Heap) (vf : Value) (fs : List Bool) (hr_vf : RdE encB h vf fs) (hp1 : fs = [false, true, true, false]) : Fx Try.prog 119 [vf] h (fun v h' => v = .tuple #[.int .i64 ((2 : Nat) : Int), .int .i64 0] ∧ Ext h.size h h') := by
  refine fx_intro (n := 29) [(0, vf)] Try.func119 rfl rfl (by simp) ⟨rfl, trivial⟩ fun g0 => ?_
  refine wi_seq <| wi_reg rfl <| lx_assign (.int .i64 0) rfl rfl <| lx_assign (.int .i64 0) rfl rfl <| lx_nil <| wi_seq <| wi_seq <| wi_reg rfl <| ?_
  have hfl : fs.length = 4 := by rw [hp1]; rfl
  refine lx_move (vf) rfl rfl <| lx_call [vf] rfl rfl Try.call151 rfl (ccheck_spec h vf fs hr_vf (by omega)) (fun _ _ _ => trivial) ?_
  rintro _ h1 ⟨rfl, rfl⟩
  refine lx_assign (.int .i64 0) rfl rfl <| lx_nil <| wi_seq <| wi_reg rfl <| lx_move (.int .i64 0) rfl rfl <| lx_neqS rfl rfl rfl (fun c1 => ?_) (fun c1 => ?_)
  · refine lx_nil <| wi_true rfl <| wi_seq <| wi_reg rfl <| lx_move (.int .i64 0) rfl rfl <| lx_assign (.int .i64 0) rfl rfl <| lx_assign (.int .i64 0) rfl rfl <| lx_nil <| ?_
    -- R1
    refine wi_ret ⟨.tuple #[.int .i64 0, .int .i64 0], (res_two rfl rfl rfl), ⟨?_, (Ext.refl _ _)⟩⟩
    · first | rfl | (simp; done) | (simp; omega)
  · refine lx_nil <| wi_false rfl <| wi_skip <| wi_seq <| wi_reg rfl <| lx_assign (.int .i64 0) rfl rfl <| lx_nil <| wi_seq <| wi_seq <| wi_reg rfl <| lx_move (vf) rfl rfl <| lx_call [vf] rfl rfl Try.call152 rfl (reals_spec h vf fs hr_vf (by omega)) (fun _ _ _ => trivial) ?_
    rintro v1 h2 ⟨_, rfl, ho1, hx1⟩
    have ho2 := ho1.base (Nat.le_refl h.size)
    refine lx_len rfl Try.underlying25 ho2.rd rfl <| lx_move (.int .i64 0) rfl rfl <| lx_nil <| wi_block <| ?_
    refine wi_loop (σ := Nat × Nat) (rngB 16 28 [5, 6, 7]) (fun (ss : Nat × Nat) => [(16, .int .i64 ((ss.1 : Nat) : Int)), (5, .int .i64 ((ss.2 : Nat) : Int))]) (fun (ss : Nat × Nat) (hh : Heap) => OwE encI hh h.size 3 v1 (trT 2 0) ∧ Ext h.size h hh ∧ (ss.1 ≤ 4) ∧ (ss.2 = dgF ss.1)) (fun (ss : Nat × Nat) => 4 - ss.1) (0, 0) ⟨rfl, rfl, trivial⟩ ⟨?_, hx1, ?_, ?_⟩ ?_
    · first | exact ho2 | (simpa using ho2)
    · try dsimp only
      omega
    · try dsimp only
      first | done | rfl
    rintro g1 ⟨k, n⟩ hh1 ⟨ho3, hx0_1, hk, hn⟩ IH1
    dsimp only at *
    have htl := (trT_ok (e := 2) (x := 0) (j := 0) (by omega) (by omega) (by omega)).1
    have hdl := dgF_le (k := k) (by omega)
    have hpl := popN_le4 (k := k) (by omega)
    refine wi_seq <| wi_reg rfl <| lx_lssS rfl rfl rfl (fun c2 => ?_) (fun c2 => ?_)
    · refine lx_nil <| wi_seq <| wi_true rfl <| wi_skip <| wi_seq <| wi_block <| wi_seq <| wi_reg rfl <| lx_move (.int .i64 ((k : Nat) : Int)) rfl rfl <| lx_ix (i := k) rfl eT25 ho3.rd rfl rfl (by omega) <| lx_ld (i := k) (j := 0) (.int .i64 (gt (trT 2 0) k)) rfl rfl fl3 ho3.rd (by omega) rfl rfl <| lx_assign (.int .i64 ((k : Nat) : Int)) rfl rfl <| lx_assign (.int .i64 (gt (trT 2 0) k)) rfl rfl <| lx_nil <| wi_seq <| wi_reg rfl <| lx_move (.int .i64 (gt (trT 2 0) k)) rfl rfl <| lx_neqS rfl rfl rfl (fun c3 => ?_) (fun c3 => ?_)
      · refine lx_nil <| wi_true rfl <| wi_reg rfl <| lx_move (.int .i64 ((n : Nat) : Int)) rfl rfl <| lx_move (.int .i64 ((k : Nat) : Int)) rfl rfl <| lx_call [.int .i64 ((k : Nat) : Int)] rfl rfl Try.call153 rfl (count_spec hh1 k (by omega)) (fun _ _ _ => trivial) ?_
        rintro _ h3 ⟨rfl, rfl⟩
        refine lx_max (((max n (popN k) : Nat) : Int)) rfl rfl rfl (by omega) <| lx_assign (.int .i64 ((max n (popN k) : Nat) : Int)) rfl rfl <| lx_nil <| wi_inBlock <| wi_reg rfl <| lx_add (((k + 1 : Nat) : Int)) rfl rfl rfl (by omega) (by omega) (by omega) <| lx_move (.int .i64 ((k + 1 : Nat) : Int)) rfl rfl <| lx_nil <| ?_
        -- L0.1
        refine IH1 _ _ (k + 1, max n (popN k)) (agree_ups rfl agree_self) ⟨rfl, rfl, trivial⟩ ⟨?_, hx0_1, ?_, ?_⟩ ?_
        · first | exact ho3 | (simpa using ho3)
        · try dsimp only
          omega
        · try dsimp only
          rw [dgF_succ]
          first
          | rw [if_pos (by omega), hn]
          | rw [if_neg (by omega), hn]
        · first | omega | (dsimp only; omega)
      · refine lx_nil <| wi_false rfl <| wi_skip <| wi_inBlock <| wi_reg rfl <| lx_add (((k + 1 : Nat) : Int)) rfl rfl rfl (by omega) (by omega) (by omega) <| lx_move (.int .i64 ((k + 1 : Nat) : Int)) rfl rfl <| lx_nil <| ?_
        -- L0.2
        refine IH1 _ _ (k + 1, n) (agree_ups rfl agree_self) ⟨rfl, rfl, trivial⟩ ⟨?_, hx0_1, ?_, ?_⟩ ?_
        · first | exact ho3 | (simpa using ho3)
        · try dsimp only
          omega
        · try dsimp only
          rw [dgF_succ]
          first
          | rw [if_pos (by omega), hn]
          | rw [if_neg (by omega), hn]
        · first | omega | (dsimp only; omega)
    · refine lx_nil <| wi_seq <| wi_false rfl <| wi_exit rfl <| wi_seq <| wi_reg rfl <| lx_move (.int .i64 ((n : Nat) : Int)) rfl rfl <| lx_assign (.int .i64 ((n : Nat) : Int)) rfl rfl <| lx_assign (.int .i64 0) rfl rfl <| lx_nil <| ?_
      -- R2
      refine wi_ret ⟨.tuple #[.int .i64 ((n : Nat) : Int), .int .i64 0], (res_two rfl rfl rfl), ⟨?_, hx0_1⟩⟩
      · rw [hn, show k = 4 from by omega, dg_all.1]

end Go.Proofs.Ytdokijbdnajhgaa
namespace Go.Proofs.Ytdokijbdnajhgaa
open Go Go.X

theorem good_ {a : Int} {A B : Prop} (h : (a ≠ 0 ∧ A) ∨ (a = 0 ∧ B)) (h0 : a = 0) : B := h.elim (fun x => absurd h0 x.1) (fun x => x.2)
abbrev tenP : List (List Bool) := [[true, true], [false, true]]
theorem tenP_chk : chkT tenP = 0 := by decide +kernel
theorem tenP_ideals : (idealsF tenP.length (pb tenP)).length = 3 := by decide +kernel
theorem tenS_chk : chkS 2 [0, 1, 3] = 0 := by decide +kernel
theorem tenS_len : (filtF (2 ^ 2) (shB [0, 1, 3])).length = 3 := by decide +kernel
theorem tenO_chk : chkNet validC 2 [(0, 1)] = 0 := by decide +kernel
theorem tenO_len : (outsF 2 [(0, 1)]).length = 3 := by decide +kernel

set_option maxRecDepth 10000 in
theorem ten_spec (h : Heap) : Fx Try.prog 69 [] h (fun v h' => v = .bool true ∧ Ext h.size h h') := by
  refine fx_intro (n := 65) [] Try.func69 rfl rfl (by simp) trivial fun g0 => ?_
  refine wi_seq <| wi_reg rfl <| lx_assign (.bool false) rfl rfl <| lx_nil <| wi_seq <| wi_reg rfl <| lx_buildSlice (E := encB) h.size [true, true] [.bool true, .bool true] rfl rfl eT70 rfl rfl rfl rfl (Nat.le_refl _) (fun _ _ _ => trivial) fun v1 h1 ho1 hx1 hvb1 hsz1 => ?_
  have ho2 := ho1.base (Nat.le_refl h.size)
  refine lx_buildSlice (E := encB) h1.size [false, true] [.bool false, .bool true] rfl rfl eT70 rfl rfl rfl rfl (Nat.le_refl _) (fun _ _ _ => trivial) fun v2 h2 ho3 hx2 hvb2 hsz2 => ?_
  have hx0_1 := hx1.trans2 hx2 hx1.size
  have ho4 := ho2.extS hx2
  have ho5 := ho3.base hx1.size
  refine lx_buildSlice (E := encHd) h2.size [hdrOf v1, hdrOf v2] [v1, v2] rfl rfl eT29 rfl rfl (cells_cons (hdr_cells ho4.rd) (cells_cons (hdr_cells ho5.rd) rfl)) rfl (Nat.le_refl _) (fun _ _ _ => trivial) fun v3 h3 ho6 hx3 hvb3 hsz3 => ?_
  have hx0_2 := hx0_1.trans2 hx3 hx0_1.size
  have ho7 := ho4.extS hx3
  have ho8 := ho5.extS hx3
  have ho9 := ho6.base hx0_1.size
  have hrt1 : RT encB h3 ([hdrOf v1, hdrOf v2]) ([[true, true], [false, true]]) := (rt_cons ho7.rd (rt_cons ho8.rd (rt_nil encB _)))
  refine lx_call [v3] rfl rfl Try.call16 rfl (oideals_spec h3 v3 ([hdrOf v1, hdrOf v2]) ([[true, true], [false, true]]) ho9.rd hrt1 (by decide) (by intro i hi; have h9 : i = 0 ∨ i = 1 := (by simp at hi; omega); rcases h9 with rfl | rfl <;> decide)) (fun _ _ _ => trivial) ?_
  rintro _ h4 ⟨v4, xi, rfl, ho10, hid, hx4⟩
  have hx0_3 := hx0_2.trans2 hx4 hx0_2.size
  have ho11 := ho7.extS hx4
  have ho12 := ho8.extS hx4
  have ho13 := ho9.extS hx4
  have hxr1 := (Ext.refl h3.size h3).trans2 hx4 (Ext.refl h3.size h3).size
  have ho14 := ho10.base hx0_2.size
  have hl1 : xi.length = 3 := by rw [good_ hid tenP_chk]; exact tenP_ideals
  refine lx_move (.tuple #[v4, .int .i64 (chkT ([[true, true], [false, true]]))]) rfl rfl <| lx_extract (v4) rfl rfl rfl <| lx_extract (.int .i64 (chkT ([[true, true], [false, true]]))) rfl rfl rfl <| lx_assign (v4) rfl rfl <| lx_assign (.int .i64 (chkT ([[true, true], [false, true]]))) rfl rfl <| lx_nil <| wi_seq <| wi_reg rfl <| lx_buildSlice (E := encI) h4.size [(0 : Int), (1 : Int), (3 : Int)] [.int .i64 0, .int .i64 1, .int .i64 3] rfl rfl eT25 rfl rfl rfl rfl (Nat.le_refl _) (fun _ _ _ => trivial) fun v5 h5 ho15 hx5 hvb4 hsz4 => ?_
  have hx0_4 := hx0_3.trans2 hx5 hx0_3.size
  have ho16 := ho11.extS hx5
  have ho17 := ho12.extS hx5
  have ho18 := ho13.extS hx5
  have ho19 := ho14.extS hx5
  have hxr2 := hxr1.trans2 hx5 hxr1.size
  have ho20 := ho15.base hx0_3.size
  refine lx_call [.int .i64 2, v5] rfl rfl Try.call67 rfl (shattered_all_spec h5 2 v5 ([(0 : Int), (1 : Int), (3 : Int)]) ho20.rd (by decide) (by decide)) (fun _ _ _ => trivial) ?_
  rintro _ h6 ⟨v6, ysh, rfl, ho21, hsh, hx6⟩
  have hx0_5 := hx0_4.trans2 hx6 hx0_4.size
  have ho22 := ho16.extS hx6
  have ho23 := ho17.extS hx6
  have ho24 := ho18.extS hx6
  have ho25 := ho19.extS hx6
  have ho26 := ho20.extS hx6
  have hxr3 := hxr2.trans2 hx6 hxr2.size
  have ho27 := ho21.base hx0_4.size
  have hl2 : ysh.length = 3 := by rw [good_ hsh tenS_chk]; exact tenS_len
  refine lx_move (.tuple #[v6, .int .i64 (chkS 2 ([(0 : Int), (1 : Int), (3 : Int)]))]) rfl rfl <| lx_extract (v6) rfl rfl rfl <| lx_extract (.int .i64 (chkS 2 ([(0 : Int), (1 : Int), (3 : Int)]))) rfl rfl rfl <| lx_assign (v6) rfl rfl <| lx_assign (.int .i64 (chkS 2 ([(0 : Int), (1 : Int), (3 : Int)]))) rfl rfl <| lx_nil <| wi_seq <| wi_reg rfl <| lx_build (.agg #[.int .i64 0, .int .i64 1]) [(0, .int .i64 0), (1, .int .i64 1)] rfl rfl (fun w => bld85_2 _ _ w) <| lx_buildSlice (E := encP) h6.size [((0 : Int), (1 : Int))] [.agg #[.int .i64 0, .int .i64 1]] rfl rfl eT22 rfl rfl rfl rfl (Nat.le_refl _) (fun _ _ _ => trivial) fun v7 h7 ho28 hx7 hvb5 hsz5 => ?_
  have hx0_6 := hx0_5.trans2 hx7 hx0_5.size
  have ho29 := ho22.extS hx7
  have ho30 := ho23.extS hx7
  have ho31 := ho24.extS hx7
  have ho32 := ho25.extS hx7
  have ho33 := ho26.extS hx7
  have ho34 := ho27.extS hx7
  have hxr4 := hxr3.trans2 hx7 hxr3.size
  have ho35 := ho28.base hx0_5.size
  refine lx_call [.int .i64 2, v7] rfl rfl Try.call70 rfl (outputs_spec h7 ((2 : Int)) v7 ([((0 : Int), (1 : Int))]) ho35.rd (by decide)) (fun _ _ _ => trivial) ?_
  rintro _ h8 ⟨v8, yo, rfl, ho36, hou, hx8⟩
  have hx0_7 := hx0_6.trans2 hx8 hx0_6.size
  have ho37 := ho29.extS hx8
  have ho38 := ho30.extS hx8
  have ho39 := ho31.extS hx8
  have ho40 := ho32.extS hx8
  have ho41 := ho33.extS hx8
  have ho42 := ho34.extS hx8
  have ho43 := ho35.extS hx8
  have hxr5 := hxr4.trans2 hx8 hxr4.size
  have ho44 := ho36.base hx0_6.size
  have hl3 : yo.length = 3 := by rw [good_ hou tenO_chk]; exact tenO_len
  refine lx_move (.tuple #[v8, .int .i64 (chkNet validC ((2 : Int)) ([((0 : Int), (1 : Int))]))]) rfl rfl <| lx_extract (v8) rfl rfl rfl <| lx_extract (.int .i64 (chkNet validC ((2 : Int)) ([((0 : Int), (1 : Int))]))) rfl rfl rfl <| lx_assign (v8) rfl rfl <| lx_assign (.int .i64 (chkNet validC ((2 : Int)) ([((0 : Int), (1 : Int))]))) rfl rfl <| lx_nil <| wi_seq <| wi_reg rfl <| lx_buildSlice (E := encB) h8.size [false, true, true, false] [.bool false, .bool true, .bool true, .bool false] rfl rfl eT70 rfl rfl rfl rfl (Nat.le_refl _) (fun _ _ _ => trivial) fun v9 h9 ho45 hx9 hvb6 hsz6 => ?_
  have hx0_8 := hx0_7.trans2 hx9 hx0_7.size
  have ho46 := ho37.extS hx9
  have ho47 := ho38.extS hx9
  have ho48 := ho39.extS hx9
  have ho49 := ho40.extS hx9
  have ho50 := ho41.extS hx9
  have ho51 := ho42.extS hx9
  have ho52 := ho43.extS hx9
  have ho53 := ho44.extS hx9
  have hxr6 := hxr5.trans2 hx9 hxr5.size
  have ho54 := ho45.base hx0_7.size
  refine lx_call [v9] rfl rfl Try.call119 rfl (degree_spec h9 v9 ([false, true, true, false]) ho54.rd rfl) (fun _ _ _ => trivial) ?_
  rintro _ h10 ⟨rfl, hx10⟩
  have hx0_9 := hx0_8.trans2 hx10 hx0_8.size
  have ho55 := ho46.extS hx10
  have ho56 := ho47.extS hx10
  have ho57 := ho48.extS hx10
  have ho58 := ho49.extS hx10
  have ho59 := ho50.extS hx10
  have ho60 := ho51.extS hx10
  have ho61 := ho52.extS hx10
  have ho62 := ho53.extS hx10
  have ho63 := ho54.extS hx10
  have hxr7 := hxr6.trans2 hx10 hxr6.size
  refine lx_move (.tuple #[.int .i64 ((2 : Nat) : Int), .int .i64 0]) rfl rfl <| lx_extract (.int .i64 ((2 : Nat) : Int)) rfl rfl rfl <| lx_extract (.int .i64 0) rfl rfl rfl <| lx_assign (.int .i64 ((2 : Nat) : Int)) rfl rfl <| lx_assign (.int .i64 0) rfl rfl <| lx_nil <| wi_seq <| wi_reg rfl <| lx_move (.int .i64 (chkT ([[true, true], [false, true]]))) rfl rfl <| lx_eqlT rfl rfl rfl tenP_chk <| lx_move (.bool true) rfl rfl <| lx_move (.int .i64 (chkS 2 ([(0 : Int), (1 : Int), (3 : Int)]))) rfl rfl <| lx_eqlT rfl rfl rfl tenS_chk <| lx_pick true (.bool true) rfl rfl rfl <| lx_move (.bool true) rfl rfl <| lx_move (.int .i64 (chkNet validC ((2 : Int)) ([((0 : Int), (1 : Int))]))) rfl rfl <| lx_eqlT rfl rfl rfl tenO_chk <| lx_pick true (.bool true) rfl rfl rfl <| lx_move (.bool true) rfl rfl <| lx_move (.int .i64 0) rfl rfl <| lx_eqlT rfl rfl rfl rfl <| lx_pick true (.bool true) rfl rfl rfl <| lx_move (.bool true) rfl rfl <| lx_move (v4) rfl rfl <| lx_len rfl Try.underlying25 ho58.rd rfl <| lx_eqlT rfl rfl rfl (by omega) <| lx_pick true (.bool true) rfl rfl rfl <| lx_move (.bool true) rfl rfl <| lx_move (v6) rfl rfl <| lx_len rfl Try.underlying25 ho60.rd rfl <| lx_eqlT rfl rfl rfl (by omega) <| lx_pick true (.bool true) rfl rfl rfl <| lx_move (.bool true) rfl rfl <| lx_move (v8) rfl rfl <| lx_len rfl Try.underlying25 ho62.rd rfl <| lx_eqlT rfl rfl rfl (by omega) <| lx_pick true (.bool true) rfl rfl rfl <| lx_move (.bool true) rfl rfl <| lx_move (.int .i64 ((2 : Nat) : Int)) rfl rfl <| lx_eqlT rfl rfl rfl rfl <| lx_pick true (.bool true) rfl rfl rfl <| lx_assign (.bool true) rfl rfl <| lx_nil <| ?_
  -- R1
  refine wi_ret ⟨.bool true, (res_one rfl rfl), ⟨rfl, hx0_9⟩⟩

end Go.Proofs.Ytdokijbdnajhgaa
namespace Go.Proofs.Ytdokijbdnajhgaa
open Go Go.X

set_option maxRecDepth 10000 in
theorem topSubsets_spec (h : Heap) (n : Int) : Fx Try.prog 14 [.int .i64 n] h (fun v h' => v = .bool true ∧ Ext h.size h h') := by
  refine fx_intro (n := 156) [(0, .int .i64 n)] Try.func14 rfl rfl (by simp) ⟨rfl, trivial⟩ fun g0 => ?_
  refine wi_seq <| wi_reg rfl <| lx_assign (.bool false) rfl rfl <| lx_nil <| wi_seq <| wi_reg rfl <| lx_move (.int .i64 n) rfl rfl <| lx_call [.int .i64 n, .int .i64 3] rfl rfl Try.call65 rfl (small_spec h n 3 (by omega)) (fun _ _ _ => trivial) ?_
  rintro _ h1 ⟨rfl, rfl⟩
  refine lx_assign (.int .i64 ((ur n % (3 + 1) : Nat) : Int)) rfl rfl <| lx_nil <| wi_seq <| wi_reg rfl <| ?_
  have hmd := Nat.mod_lt (ur n) (show 0 < 3 + 1 by omega)
  generalize hk : ur n % (3 + 1) = k
  have hk3 : k ≤ 3 := by omega
  have hpw : 2 ^ k ≤ 8 := Nat.pow_le_pow_right (by omega : 0 < 2) hk3
  have hpp : 0 < 2 ^ k := Nat.pow_pos (by omega)
  refine lx_move (.int .i64 ((k : Nat) : Int)) rfl rfl <| lx_conv ((k : Nat) : Int) rfl Try.underlying3 Try.underlying45 rfl (wrap_u64 (by omega) (by omega)) <| lx_shl (m := 1) (n := k) rfl rfl rfl (by show _ ≤ 64; omega) (wrap_i64 (by omega) (by omega)) <| lx_assign (.int .i64 ((1 * 2 ^ k : Nat) : Int)) rfl rfl <| lx_nil <| wi_seq <| wi_reg rfl <| lx_assign (.slice none 0 0) rfl rfl <| lx_nil <| wi_seq <| wi_seq <| wi_reg rfl <| lx_assign (.int .i64 0) rfl rfl <| lx_nil <| wi_block <| ?_
  refine wi_loop (σ := Nat × Value × (List (Int × Int))) (rngB 30 52 [5, 6, 7]) (fun (ss : Nat × Value × (List (Int × Int))) => [(6, .int .i64 ((ss.1 : Nat) : Int)), (5, ss.2.1)]) (fun (ss : Nat × Value × (List (Int × Int))) (hh : Heap) => OwE encP hh h.size 85 ss.2.1 ss.2.2 ∧ Ext h.size h hh ∧ (ss.1 ≤ 2 ^ k) ∧ (ss.2.2 = subP k ss.1)) (fun (ss : Nat × Value × (List (Int × Int))) => 2 ^ k - ss.1) (0, .slice none 0 0, []) ⟨rfl, rfl, trivial⟩ ⟨?_, (Ext.refl _ _), ?_, ?_⟩ ?_
  · first | exact (owE_nil encP _ h.size 85) | (simpa using (owE_nil encP _ h.size 85))
  · try dsimp only
    exact Nat.zero_le _
  · try dsimp only
    first | done | rfl
  rintro g1 ⟨x, v, ls⟩ hh1 ⟨ho1, hx0_1, hx, hls⟩ IH1
  dsimp only at *
  have hll : ls.length ≤ 24 := by
    have h1 := subP_len k x
    have h2 : x * k ≤ 8 * 3 := Nat.mul_le_mul (by omega) hk3
    rw [hls]; omega
  refine wi_seq <| wi_seq <| wi_reg rfl <| lx_move (.int .i64 ((x : Nat) : Int)) rfl rfl <| lx_move (.int .i64 ((1 * 2 ^ k : Nat) : Int)) rfl rfl <| lx_lssS rfl rfl rfl (fun c1 => ?_) (fun c1 => ?_)
  · refine lx_nil <| wi_true rfl <| wi_skip <| wi_seq <| wi_block <| wi_seq <| wi_reg rfl <| lx_assign (.int .i64 1) rfl rfl <| lx_nil <| wi_block <| ?_
    refine wi_loop (σ := Nat × Value × (List (Int × Int))) (rngB 35 52 [5, 7]) (fun (ss : Nat × Value × (List (Int × Int))) => [(7, .int .i64 ((2 ^ ss.1 : Nat) : Int)), (5, ss.2.1)]) (fun (ss : Nat × Value × (List (Int × Int))) (hh : Heap) => OwE encP hh h.size 85 ss.2.1 ss.2.2 ∧ Ext h.size h hh ∧ (ss.1 ≤ k) ∧ (ss.2.2 = subP k x ++ subE x ss.1)) (fun (ss : Nat × Value × (List (Int × Int))) => k - ss.1) (0, v, ls) ⟨rfl, rfl, trivial⟩ ⟨?_, hx0_1, ?_, ?_⟩ ?_
    · first | exact ho1 | (simpa using ho1)
    · try dsimp only
      exact Nat.zero_le _
    · try dsimp only
      rw [hls]; simp [subE]
    rintro g2 ⟨e, v2, ls2⟩ hh2 ⟨ho2, hx0_2, he, hls2⟩ IH2
    dsimp only at *
    have hll2 : ls2.length ≤ 30 := by
      have h1 := subE_len x e
      rw [hls2, List.length_append, ← hls]; omega
    have hps : 2 ^ (e + 1) = 2 ^ e * 2 := Nat.pow_succ 2 e
    have hpe : e < k ∧ 2 ^ e * 2 ≤ 2 ^ k ∨ e = k ∧ 2 ^ e = 2 ^ k := by
      rcases Nat.lt_or_ge e k with h9 | h9
      · exact .inl ⟨h9, by rw [← hps]; exact Nat.pow_le_pow_right (by omega) (by omega)⟩
      · exact .inr ⟨by omega, by rw [show e = k from by omega]⟩
    refine wi_seq <| wi_seq <| wi_reg rfl <| lx_move (.int .i64 ((2 ^ e : Nat) : Int)) rfl rfl <| lx_move (.int .i64 ((1 * 2 ^ k : Nat) : Int)) rfl rfl <| lx_lssS rfl rfl rfl (fun c2 => ?_) (fun c2 => ?_)
    · refine lx_nil <| wi_true rfl <| wi_skip <| wi_seq <| wi_block <| wi_seq <| wi_reg rfl <| ?_
      have hek : e < k := by omega
      have hwl : x &&& 2 ^ e ≤ x := Nat.and_le_left
      refine lx_move (.int .i64 ((x : Nat) : Int)) rfl rfl <| lx_move (.int .i64 ((2 ^ e : Nat) : Int)) rfl rfl <| lx_and (m := x) (n := 2 ^ e) rfl rfl rfl (by show _ < 2 ^ 64; omega) (by show _ < 2 ^ 64; omega) (wrap_i64 (by omega) (by omega)) <| lx_eqlS rfl rfl rfl (fun c3 => ?_) (fun c3 => ?_)
      · refine lx_nil <| wi_true rfl <| wi_reg rfl <| ?_
        have hor : x ||| 2 ^ e < 2 ^ k := Nat.or_lt_two_pow (by omega) (by omega)
        refine lx_move (v2) rfl rfl <| lx_move (.int .i64 ((x : Nat) : Int)) rfl rfl <| lx_move (.int .i64 ((x : Nat) : Int)) rfl rfl <| lx_move (.int .i64 ((2 ^ e : Nat) : Int)) rfl rfl <| lx_or (m := x) (n := 2 ^ e) rfl rfl rfl (by show _ < 2 ^ 64; omega) (by show _ < 2 ^ 64; omega) (wrap_i64 (by omega) (by omega)) <| lx_build (.agg #[.int .i64 ((x : Nat) : Int), .int .i64 ((x ||| (2 ^ e) : Nat) : Int)]) [(0, .int .i64 ((x : Nat) : Int)), (1, .int .i64 ((x ||| (2 ^ e) : Nat) : Int))] rfl rfl (fun w => bld85_2 _ _ w) <| lx_appendL (E := encP) (B := h.size) [(((x : Nat) : Int), ((x ||| (2 ^ e) : Nat) : Int))] [.agg #[.int .i64 ((x : Nat) : Int), .int .i64 ((x ||| (2 ^ e) : Nat) : Int)]] rfl rfl (fun _ => rfl) rfl eT22 rfl rfl rfl rfl ho2 (fun _ => rfl) (by show ls2.length + 1 ≤ _; omega) (by show (ls2.length + 1) * 16 ≤ _; omega) hx0_2.size (fun _ _ => trivial) fun u1 v1 h2 ho3 hc1 hg1 => ?_
        have hx0_3 := hx0_2.trans (ho2.ext hc1 hx0_2.size)
        refine lx_assign (v1) rfl rfl <| lx_nil <| wi_inBlock <| wi_reg rfl <| lx_move (.int .i64 ((2 ^ e : Nat) : Int)) rfl rfl <| lx_mul (((2 ^ (e + 1) : Nat) : Int)) rfl rfl rfl (by omega) (by omega) (by omega) <| lx_assign (.int .i64 ((2 ^ (e + 1) : Nat) : Int)) rfl rfl <| lx_nil <| ?_
        -- L2.1
        refine IH2 _ _ (e + 1, v1, ls2 ++ [(((x : Nat) : Int), ((x ||| (2 ^ e) : Nat) : Int))]) (agree_ups rfl agree_self) ⟨rfl, rfl, trivial⟩ ⟨?_, hx0_3, ?_, ?_⟩ ?_
        · first | exact ho3 | (simpa using ho3)
        · try dsimp only
          omega
        · try dsimp only
          rw [hls2, List.append_assoc, subE_yes (by omega)]
        · first | omega | (dsimp only; omega)
      · refine lx_nil <| wi_false rfl <| wi_skip <| wi_inBlock <| wi_reg rfl <| lx_move (.int .i64 ((2 ^ e : Nat) : Int)) rfl rfl <| lx_mul (((2 ^ (e + 1) : Nat) : Int)) rfl rfl rfl (by omega) (by omega) (by omega) <| lx_assign (.int .i64 ((2 ^ (e + 1) : Nat) : Int)) rfl rfl <| lx_nil <| ?_
        -- L2.2
        refine IH2 _ _ (e + 1, v2, ls2) (agree_ups rfl agree_self) ⟨rfl, rfl, trivial⟩ ⟨?_, hx0_2, ?_, ?_⟩ ?_
        · first | exact ho2 | (simpa using ho2)
        · try dsimp only
          omega
        · try dsimp only
          rw [hls2, subE_no (by omega)]
        · first | omega | (dsimp only; omega)
    · refine lx_nil <| wi_false rfl <| wi_exit rfl <| wi_inBlock <| wi_reg rfl <| lx_move (.int .i64 ((x : Nat) : Int)) rfl rfl <| lx_add (((x + 1 : Nat) : Int)) rfl rfl rfl (by omega) (by omega) (by omega) <| lx_assign (.int .i64 ((x + 1 : Nat) : Int)) rfl rfl <| lx_nil <| ?_
      -- L0.1
      refine IH1 _ _ (x + 1, v2, ls2) (agree_ups rfl (agree_mix (rngB_sub (by decide) (by decide) rfl) (agree_ups rfl agree_self))) ⟨rfl, rfl, trivial⟩ ⟨?_, hx0_2, ?_, ?_⟩ ?_
      · first | exact ho2 | (simpa using ho2)
      · try dsimp only
        omega
      · try dsimp only
        rw [subP_succ, hls2, show e = k from by omega]
      · first | omega | (dsimp only; omega)
  · refine lx_nil <| wi_false rfl <| wi_exit rfl <| wi_seq <| wi_reg rfl <| ?_
    have hls9 : ls = subP k (2 ^ k) := by rw [hls, show x = 2 ^ k from by omega]
    have hce : closE ((1 * 2 ^ k : Nat) : Int) ls = 0 := by rw [hls9, Nat.one_mul]; exact sub_ok hk3
    refine lx_move (.int .i64 ((1 * 2 ^ k : Nat) : Int)) rfl rfl <| lx_move (v) rfl rfl <| lx_call [.int .i64 ((1 * 2 ^ k : Nat) : Int), v] rfl rfl Try.call63 rfl (oclosure_spec hh1 (((1 * 2 ^ k : Nat) : Int)) v ls ho1.rd (by omega)) (fun _ _ _ => trivial) ?_
    rintro _ h3 ⟨vp, hsp, p, rfl, ho4, hot1, hcl, hx1⟩
    have hx0_4 := hx0_1.trans2 hx1 hx0_1.size
    have ho5 := ho1.extS hx1
    have ho6 := ho4.base hx0_1.size
    have hot2 := hot1.base hx0_1.size
    have hl_hot2 := hot2.1
    refine lx_move (.tuple #[vp, .int .i64 (closE (((1 * 2 ^ k : Nat) : Int)) ls)]) rfl rfl <| lx_extract (vp) rfl rfl rfl <| lx_extract (.int .i64 (closE (((1 * 2 ^ k : Nat) : Int)) ls)) rfl rfl rfl <| lx_assign (vp) rfl rfl <| lx_assign (.int .i64 (closE (((1 * 2 ^ k : Nat) : Int)) ls)) rfl rfl <| lx_nil <| wi_seq <| wi_reg rfl <| ?_
    have hp9 := goodA hcl hce
    rw [Int.toNat_natCast, Nat.one_mul, hls9, sub_tab] at hp9
    obtain ⟨hT, hjl, hng, hdi⟩ := lawK_at hk3
    rw [← hp9] at hT hjl hng hdi
    have hpl : p.length = 2 ^ k := by rw [hp9, tabF_length]
    have hpq : Sq p p.length := isT_sq hT
    have hio := isT_o hT
    have hck : chkT p = 0 := chkT_zero (by omega) (by omega) hT
    have hle : ∀ i, i < p.length → (gt p i).length ≤ 1000000 := fun i hi => by rw [hpq.2 i hi]; omega
    have hop9 : opnC p = 0 := by rw [show opnC p = if ngB p.length (pb p) then 0 else 91 from if_pos hck, hng]; rfl
    refine lx_move (vp) rfl rfl <| lx_call [vp] rfl rfl Try.call49 rfl (omoebius_spec h3 vp hsp p ho6.rd hot2.rt (by omega) hle) (fun _ _ _ => trivial) ?_
    rintro _ h4 ⟨vm, hm9, rm, rfl, ho7, hot3, hmo, hx2⟩
    have hx0_5 := hx0_4.trans2 hx2 hx0_4.size
    have ho8 := ho5.extS hx2
    have ho9 := ho6.extS hx2
    have hot4 := hot2.extS hx2
    have ho10 := ho7.base hx0_4.size
    have hot5 := hot3.base hx0_4.size
    have hl_hot5 := hot5.1
    refine lx_move (.tuple #[vm, .int .i64 (chkT p)]) rfl rfl <| lx_extract (vm) rfl rfl rfl <| lx_extract (.int .i64 (chkT p)) rfl rfl rfl <| lx_assign (vm) rfl rfl <| lx_assign (.int .i64 (chkT p)) rfl rfl <| lx_nil <| wi_seq <| wi_reg rfl <| lx_move (vp) rfl rfl <| lx_call [vp] rfl rfl Try.call32 rfl (joinEls_spec h4 vp hsp p ho9.rd hot4.rt (by omega) hle) (fun _ _ _ => trivial) ?_
    rintro _ h5 ⟨vj, xj, rfl, ho11, hje, hx3⟩
    have hx0_6 := hx0_5.trans2 hx3 hx0_5.size
    have ho12 := ho8.extS hx3
    have ho13 := ho9.extS hx3
    have hot6 := hot4.extS hx3
    have ho14 := ho10.extS hx3
    have hot7 := hot5.extS hx3
    have ho15 := ho11.base hx0_5.size
    refine lx_move (.tuple #[vj, .int .i64 (opnC p)]) rfl rfl <| lx_extract (vj) rfl rfl rfl <| lx_extract (.int .i64 (opnC p)) rfl rfl rfl <| lx_assign (vj) rfl rfl <| lx_assign (.int .i64 (opnC p)) rfl rfl <| lx_nil <| wi_seq <| wi_reg rfl <| lx_move (vp) rfl rfl <| lx_call [vp] rfl rfl Try.call33 rfl (obad_spec h5 vp hsp p ho13.rd hot6.rt (by omega) hle) (fun _ _ _ => trivial) ?_
    rintro _ h6 ⟨xo, xa, xb, xc, xi, xbb, rfl, hxb, hx4⟩
    have hx0_7 := hx0_6.trans2 hx4 hx0_6.size
    have ho16 := ho12.extS hx4
    have ho17 := ho13.extS hx4
    have hot8 := hot6.extS hx4
    have ho18 := ho14.extS hx4
    have hot9 := hot7.extS hx4
    have ho19 := ho15.extS hx4
    refine lx_move (.tuple #[.agg #[.int .i64 ((xo : Nat) : Int), .int .i64 ((xa : Nat) : Int), .int .i64 ((xb : Nat) : Int), .int .i64 ((xc : Nat) : Int), .int .i64 ((xi : Nat) : Int)], .bool xbb, .int .i64 (opnC p)]) rfl rfl <| lx_extract (.agg #[.int .i64 ((xo : Nat) : Int), .int .i64 ((xa : Nat) : Int), .int .i64 ((xb : Nat) : Int), .int .i64 ((xc : Nat) : Int), .int .i64 ((xi : Nat) : Int)]) rfl rfl rfl <| lx_extract (.bool xbb) rfl rfl rfl <| lx_extract (.int .i64 (opnC p)) rfl rfl rfl <| lx_alloc rfl rfl Try.zeroValue48 (fun _ _ _ => trivial) fun bn1 h7 hbn1 hbk1 hx5 hsz1 => ?_
    have hbb1 : h.size ≤ bn1 := by have := hx0_7.size; omega
    have hdj1 : Value.ownBlock v ≠ some bn1 := by intro e; have := (ho16.lt e).2; omega
    have hdj2 : Value.ownBlock vp ≠ some bn1 := by intro e; have := (ho17.lt e).2; omega
    have hnb1 : Nbt hsp bn1 := nbt_new hot8 (by omega)
    have hdj3 : Value.ownBlock vm ≠ some bn1 := by intro e; have := (ho18.lt e).2; omega
    have hnb2 : Nbt hm9 bn1 := nbt_new hot9 (by omega)
    have hdj4 : Value.ownBlock vj ≠ some bn1 := by intro e; have := (ho19.lt e).2; omega
    have hx0_8 := hx0_7.trans2 hx5 hx0_7.size
    have ho20 := ho16.extS hx5
    have ho21 := ho17.extS hx5
    have hot10 := hot8.extS hx5
    have ho22 := ho18.extS hx5
    have hot11 := hot9.extS hx5
    have ho23 := ho19.extS hx5
    have hbk1 : Blk h7 bn1 #[.int .i64 0, .int .i64 0, .int .i64 0, .int .i64 0, .int .i64 0] 48 := hbk1
    refine lx_stBA (#[.int .i64 ((xo : Nat) : Int), .int .i64 ((xa : Nat) : Int), .int .i64 ((xb : Nat) : Int), .int .i64 ((xc : Nat) : Int), .int .i64 ((xi : Nat) : Int)]) rfl rfl Try.sizeOf48 hbk1 rfl rfl rfl rfl (by simp [Value.oneCell']) (fun _ _ _ _ => trivial) fun h8 hbk2 hc2 => ?_
    have hx0_9 := hx0_8.trans (hc2.ext hbb1)
    have ho24 := hc2.owE ho20 hdj1
    have ho25 := hc2.owE ho21 hdj2
    have hot12 := hot10.chgB hc2 hnb1
    have ho26 := hc2.owE ho22 hdj3
    have hot13 := hot11.chgB hc2 hnb2
    have ho27 := hc2.owE ho23 hdj4
    refine lx_assign (.bool xbb) rfl rfl <| lx_assign (.int .i64 (opnC p)) rfl rfl <| lx_nil <| wi_seq <| wi_seq <| wi_reg rfl <| ?_
    have hxr := hxb.elim (fun h => absurd hop9 h.1) fun h => h.2
    have hxd := badR_dist hio (ngB_iff.1 hng) hxr
    rw [hdi] at hxd
    have hxf : xbb = false := hxd
    subst hxf
    have hrm := goodA hmo hck
    have hxj : xj.length = k := by rw [hje, if_pos hop9]; exact hjl
    have hrl : rm.length = p.length := by rw [hrm]; exact muT_len _ _
    refine lx_move (.int .i64 (closE (((1 * 2 ^ k : Nat) : Int)) ls)) rfl rfl <| lx_neqF rfl rfl rfl (fun h9 => h9 hce) <| lx_move (.bool false) rfl rfl <| lx_move (.int .i64 (chkT p)) rfl rfl <| lx_neqF rfl rfl rfl (fun h9 => h9 hck) <| lx_pick false (.bool false) rfl rfl rfl <| lx_move (.bool false) rfl rfl <| lx_move (.int .i64 (opnC p)) rfl rfl <| lx_neqF rfl rfl rfl (fun h9 => h9 hop9) <| lx_pick false (.bool false) rfl rfl rfl <| lx_move (.bool false) rfl rfl <| lx_move (.int .i64 (opnC p)) rfl rfl <| lx_neqF rfl rfl rfl (fun h9 => h9 hop9) <| lx_pick false (.bool false) rfl rfl rfl <| lx_move (.bool false) rfl rfl <| lx_move (.bool false) rfl rfl <| lx_pick false (.bool false) rfl rfl rfl <| lx_move (.bool false) rfl rfl <| lx_move (vj) rfl rfl <| lx_len rfl Try.underlying25 ho27.rd rfl <| lx_move (.int .i64 ((k : Nat) : Int)) rfl rfl <| lx_neqF rfl rfl rfl (by omega) <| lx_pick false (.bool false) rfl rfl rfl <| lx_nil <| wi_false rfl <| wi_skip <| wi_seq <| wi_seq <| wi_reg rfl <| lx_assign (.int .i64 0) rfl rfl <| lx_nil <| wi_block <| ?_
    refine wi_loop (σ := Nat) (rngB 97 155 [2, 17, 18, 19, 20, 21, 22, 23, 24]) (fun (x : Nat) => [(17, .int .i64 ((x : Nat) : Int))]) (fun (x : Nat) (hh : Heap) => OwE encHd hh h.size 70 vp hsp ∧ OT encB hh h.size 4 hsp p ∧ OwE encHd hh h.size 25 vm hm9 ∧ OT encI hh h.size 3 hm9 rm ∧ Ext h.size h hh ∧ (x ≤ 2 ^ k)) (fun (x : Nat) => 2 ^ k - x) 0 ⟨rfl, trivial⟩ ⟨?_, ?_, ?_, ?_, hx0_9, ?_⟩ ?_
    · first | exact ho25 | (simpa using ho25)
    · first | exact hot12 | (simpa using hot12)
    · first | exact ho26 | (simpa using ho26)
    · first | exact hot13 | (simpa using hot13)
    · try dsimp only
      exact Nat.zero_le _
    rintro g3 x hh3 ⟨ho28, hot14, ho29, hot15, hx0_10, hx⟩ IH3
    have hl_hot14 := hot14.1
    have hl_hot15 := hot15.1
    refine wi_seq <| wi_seq <| wi_reg rfl <| lx_move (.int .i64 ((x : Nat) : Int)) rfl rfl <| lx_move (.int .i64 ((1 * 2 ^ k : Nat) : Int)) rfl rfl <| lx_lssS rfl rfl rfl (fun c4 => ?_) (fun c4 => ?_)
    · refine lx_nil <| wi_true rfl <| wi_skip <| wi_seq <| wi_block <| wi_seq <| wi_reg rfl <| lx_move (.int .i64 ((k : Nat) : Int)) rfl rfl <| lx_move (.int .i64 ((x : Nat) : Int)) rfl rfl <| lx_buildSlice (E := encI) hh3.size [((x : Nat) : Int)] [.int .i64 ((x : Nat) : Int)] rfl rfl eT25 rfl rfl rfl rfl (Nat.le_refl _) (fun _ _ _ => trivial) fun v2 h9 ho30 hx6 hvb1 hsz2 => ?_
      have hx0_11 := hx0_10.trans2 hx6 hx0_10.size
      have ho31 := ho28.extS hx6
      have hot16 := hot14.extS hx6
      have ho32 := ho29.extS hx6
      have hot17 := hot15.extS hx6
      have ho33 := ho30.base hx0_10.size
      refine lx_call [.int .i64 ((k : Nat) : Int), v2, .bool true] rfl rfl Try.call74 rfl (shclosure_spec h9 k v2 ([((x : Nat) : Int)]) ho33.rd (by omega) (by simp) (chkS_one (by omega) (by omega))) (fun _ _ _ => trivial) ?_
      rintro _ h10 ⟨vu, rfl, ho34, hx7⟩
      have hx0_12 := hx0_11.trans2 hx7 hx0_11.size
      have ho35 := ho31.extS hx7
      have hot18 := hot16.extS hx7
      have ho36 := ho32.extS hx7
      have hot19 := hot17.extS hx7
      have ho37 := ho33.extS hx7
      have ho38 := ho34.base hx0_11.size
      refine lx_move (.tuple #[vu, .int .i64 0]) rfl rfl <| lx_extract (vu) rfl rfl rfl <| lx_extract (.int .i64 0) rfl rfl rfl <| lx_assign (vu) rfl rfl <| lx_assign (.int .i64 0) rfl rfl <| lx_nil <| wi_seq <| wi_seq <| wi_reg rfl <| lx_move (.int .i64 0) rfl rfl <| lx_neqS rfl rfl rfl (fun c5 => ?_) (fun c5 => ?_)
      · refine lx_nil <| wi_true rfl <| wi_seq <| wi_reg rfl <| lx_assign (.bool false) rfl rfl <| lx_nil <| ?_
        -- R1
        refine wi_ret ⟨.bool false, (res_one rfl rfl), ⟨?_, hx0_12⟩⟩
        · first | rfl | (simp; done) | (simp; omega)
      · refine lx_nil <| wi_false rfl <| wi_skip <| wi_seq <| wi_reg rfl <| lx_assign (.int .i64 0) rfl rfl <| lx_nil <| wi_block <| ?_
        refine wi_loop (σ := Nat) (rngB 111 155 [2, 20, 21, 22, 23, 24]) (fun (y : Nat) => [(20, .int .i64 ((y : Nat) : Int))]) (fun (y : Nat) (hh : Heap) => h10 = hh ∧ (y ≤ 2 ^ k)) (fun (y : Nat) => 2 ^ k - y) 0 ⟨rfl, trivial⟩ ⟨rfl, ?_⟩ ?_
        · try dsimp only
          exact Nat.zero_le _
        rintro g4 y hh4 ⟨rfl, hy⟩ IH4
        refine wi_seq <| wi_seq <| wi_reg rfl <| lx_move (.int .i64 ((y : Nat) : Int)) rfl rfl <| lx_move (.int .i64 ((1 * 2 ^ k : Nat) : Int)) rfl rfl <| lx_lssS rfl rfl rfl (fun c6 => ?_) (fun c6 => ?_)
        · refine lx_nil <| wi_true rfl <| wi_skip <| wi_seq <| wi_block <| wi_seq <| wi_reg rfl <| ?_
          obtain ⟨hw1, hw2⟩ := lawS_at hk3 (show x < 2 ^ k by omega) (show y < 2 ^ k by omega)
          rw [← hp9] at hw1 hw2
          rw [← hrm] at hw2
          have hxo : x ^^^ y < 2 ^ 3 := Nat.xor_lt_two_pow (by omega) (by omega)
          refine lx_move (vu) rfl rfl <| lx_move (.int .i64 ((y : Nat) : Int)) rfl rfl <| lx_call [vu, .int .i64 ((y : Nat) : Int)] rfl rfl Try.call73 rfl (has_spec h10 vu (upX k ([((x : Nat) : Int)])) (((y : Nat) : Int)) ho38.rd (by have := upX_len k [((x : Nat) : Int)]; omega)) (fun _ _ _ => trivial) ?_
          rintro _ h11 ⟨rfl, rfl⟩
          refine lx_assign (.bool (decide ((((y : Nat) : Int)) ∈ (upX k ([((x : Nat) : Int)]))))) rfl rfl <| lx_nil <| wi_seq <| wi_reg rfl <| lx_assign (.int .i64 0) rfl rfl <| lx_nil <| wi_seq <| wi_seq <| wi_reg rfl <| lx_move (.int .i64 ((x : Nat) : Int)) rfl rfl <| lx_move (.int .i64 ((y : Nat) : Int)) rfl rfl <| lx_xor (m := x) (n := y) rfl rfl rfl (by show _ < 2 ^ 64; omega) (by show _ < 2 ^ 64; omega) (wrap_i64 (by omega) (by omega)) <| lx_assign (.int .i64 ((x ^^^ y : Nat) : Int)) rfl rfl <| lx_nil <| wi_block <| ?_
          refine wi_loop (σ := Nat × Nat) (rngB 122 130 [22, 23]) (fun (ss : Nat × Nat) => [(23, .int .i64 ((ss.1 : Nat) : Int)), (22, .int .i64 ((ss.2 : Nat) : Int))]) (fun (ss : Nat × Nat) (hh : Heap) => h10 = hh ∧ (ss.1 < 8) ∧ (ss.2 + popN ss.1 = popN (x ^^^ y)) ∧ (ss.2 ≤ 12)) (fun (ss : Nat × Nat) => ss.1) (x ^^^ y, 0) ⟨rfl, rfl, trivial⟩ ⟨rfl, ?_, ?_, ?_⟩ ?_
          · try dsimp only
            omega
          · try dsimp only
            exact Nat.zero_add _
          · try dsimp only
            have := popN_le (x ^^^ y); omega
          rintro g5 ⟨z, o⟩ hh5 ⟨rfl, hz8, hoz, ho12⟩ IH5
          dsimp only at *
          refine wi_seq <| wi_seq <| wi_reg rfl <| lx_move (.int .i64 ((z : Nat) : Int)) rfl rfl <| lx_gtrS rfl rfl rfl (fun c7 => ?_) (fun c7 => ?_)
          · refine lx_nil <| wi_true rfl <| wi_skip <| wi_seq <| wi_block <| wi_reg rfl <| ?_
            have hp8 := pop8 (show z < 8 by omega)
            refine lx_move (.int .i64 ((o : Nat) : Int)) rfl rfl <| lx_move (.int .i64 ((z : Nat) : Int)) rfl rfl <| lx_rem (m := z) (n := 2) rfl rfl rfl (by omega) <| lx_add (((o + (z % 2) : Nat) : Int)) rfl rfl rfl (by omega) (by omega) (by omega) <| lx_assign (.int .i64 ((o + (z % 2) : Nat) : Int)) rfl rfl <| lx_nil <| wi_inBlock <| wi_reg rfl <| lx_move (.int .i64 ((z : Nat) : Int)) rfl rfl <| lx_quo (m := z) (n := 2) rfl rfl rfl (by omega) (wrap_quo_i64 (by omega)) <| lx_assign (.int .i64 ((z / 2 : Nat) : Int)) rfl rfl <| lx_nil <| ?_
            -- L8.1
            refine IH5 _ _ (z / 2, o + (z % 2)) (agree_ups rfl agree_self) ⟨rfl, rfl, trivial⟩ ⟨rfl, ?_, ?_, ?_⟩ ?_
            · try dsimp only
              omega
            · try dsimp only
              omega
            · try dsimp only
              have := popN_le (x ^^^ y); omega
            · first | omega | (dsimp only; omega)
          · refine lx_nil <| wi_false rfl <| wi_exit rfl <| wi_seq <| wi_reg rfl <| ?_
            have hz0 : z = 0 := by omega
            have ho9 : o = popN (x ^^^ y) := by rw [hz0, pop0] at hoz; omega
            have hpl8 : popN (x ^^^ y) ≤ 12 := popN_le _
            refine lx_assign (.int .i64 0) rfl rfl <| lx_nil <| wi_seq <| wi_seq <| wi_reg rfl <| lx_move (.bool (decide ((((y : Nat) : Int)) ∈ (upX k ([((x : Nat) : Int)]))))) rfl rfl <| lx_nil <| wi_condS (t := decide ((((y : Nat) : Int)) ∈ (upX k ([((x : Nat) : Int)])))) rfl (fun c8 => ?_) (fun c8 => ?_)
            · refine wi_reg rfl <| lx_move (.int .i64 ((o : Nat) : Int)) rfl rfl <| lx_rem (m := o) (n := 2) rfl rfl rfl (by omega) <| lx_mul (((2 * (o % 2) : Nat) : Int)) rfl rfl rfl (by omega) (by omega) (by omega) <| lx_sub (((1 : Int)) - (((2 * (o % 2) : Nat) : Int))) rfl rfl rfl (by omega) (by omega) (by omega) <| lx_assign (.int .i64 (((1 : Int)) - (((2 * (o % 2) : Nat) : Int)))) rfl rfl <| lx_nil <| wi_seq <| wi_reg rfl <| ?_
              have hgl : (gt rm x).length = p.length := by rw [hrm, gt_muT (by omega)]; exact mapR_len _ _
              refine lx_move (vp) rfl rfl <| lx_move (.int .i64 ((x : Nat) : Int)) rfl rfl <| lx_ix (i := x) rfl eT29 ho35.rd rfl rfl (by omega) <| lx_ld (i := x) (j := 0) ((gt hsp x).v) rfl rfl fl70 ho35.rd (by omega) rfl rfl <| lx_move (.int .i64 ((y : Nat) : Int)) rfl rfl <| lx_ix (i := y) rfl eT70 (hot18.2.1 x (by omega)).rd rfl rfl (by rw [hpq.2 x (by omega)]; omega) <| lx_ld (i := y) (j := 0) (.bool (gt (gt p x) y)) rfl rfl fl4 (hot18.2.1 x (by omega)).rd (by rw [hpq.2 x (by omega)]; omega) rfl rfl <| lx_move (.bool (decide ((((y : Nat) : Int)) ∈ (upX k ([((x : Nat) : Int)]))))) rfl rfl <| lx_neqBool false rfl Try.underlying4 rfl rfl (by show (_ != _) = false; rw [show gt (gt p x) y = _ from hw1]; exact bne_self_eq_false _) <| lx_move (.bool false) rfl rfl <| lx_move (vm) rfl rfl <| lx_move (.int .i64 ((x : Nat) : Int)) rfl rfl <| lx_ix (i := x) rfl eT49 ho36.rd rfl rfl (by omega) <| lx_ld (i := x) (j := 0) ((gt hm9 x).v) rfl rfl fl25 ho36.rd (by omega) rfl rfl <| lx_move (.int .i64 ((y : Nat) : Int)) rfl rfl <| lx_ix (i := y) rfl eT25 (hot19.2.1 x (by omega)).rd rfl rfl (by omega) <| lx_ld (i := y) (j := 0) (.int .i64 (gt (gt rm x) y)) rfl rfl fl3 (hot19.2.1 x (by omega)).rd (by omega) rfl rfl <| lx_move (.int .i64 (((1 : Int)) - (((2 * (o % 2) : Nat) : Int)))) rfl rfl <| lx_neqF rfl rfl rfl (fun h9 => h9 (by rw [show gt (gt rm x) y = wantS k x y from hw2]; unfold wantS; first | (rw [if_pos (of_decide_eq_true (by assumption)), ← ho9] <;> omega) | (rw [if_neg (of_decide_eq_false (by assumption))] <;> omega))) <| lx_pick false (.bool false) rfl rfl rfl <| lx_nil <| wi_false rfl <| wi_skip <| wi_inBlock <| wi_reg rfl <| lx_move (.int .i64 ((y : Nat) : Int)) rfl rfl <| lx_add (((y + 1 : Nat) : Int)) rfl rfl rfl (by omega) (by omega) (by omega) <| lx_assign (.int .i64 ((y + 1 : Nat) : Int)) rfl rfl <| lx_nil <| ?_
              -- L6.1
              refine IH4 _ _ (y + 1) (agree_ups rfl (agree_mix (rngB_sub (by decide) (by decide) rfl) (agree_ups rfl agree_self))) ⟨rfl, trivial⟩ ⟨rfl, ?_⟩ ?_
              · try dsimp only
                omega
              · first | omega | (dsimp only; omega)
            · refine wi_skip <| wi_seq <| wi_reg rfl <| ?_
              have hgl : (gt rm x).length = p.length := by rw [hrm, gt_muT (by omega)]; exact mapR_len _ _
              refine lx_move (vp) rfl rfl <| lx_move (.int .i64 ((x : Nat) : Int)) rfl rfl <| lx_ix (i := x) rfl eT29 ho35.rd rfl rfl (by omega) <| lx_ld (i := x) (j := 0) ((gt hsp x).v) rfl rfl fl70 ho35.rd (by omega) rfl rfl <| lx_move (.int .i64 ((y : Nat) : Int)) rfl rfl <| lx_ix (i := y) rfl eT70 (hot18.2.1 x (by omega)).rd rfl rfl (by rw [hpq.2 x (by omega)]; omega) <| lx_ld (i := y) (j := 0) (.bool (gt (gt p x) y)) rfl rfl fl4 (hot18.2.1 x (by omega)).rd (by rw [hpq.2 x (by omega)]; omega) rfl rfl <| lx_move (.bool (decide ((((y : Nat) : Int)) ∈ (upX k ([((x : Nat) : Int)]))))) rfl rfl <| lx_neqBool false rfl Try.underlying4 rfl rfl (by show (_ != _) = false; rw [show gt (gt p x) y = _ from hw1]; exact bne_self_eq_false _) <| lx_move (.bool false) rfl rfl <| lx_move (vm) rfl rfl <| lx_move (.int .i64 ((x : Nat) : Int)) rfl rfl <| lx_ix (i := x) rfl eT49 ho36.rd rfl rfl (by omega) <| lx_ld (i := x) (j := 0) ((gt hm9 x).v) rfl rfl fl25 ho36.rd (by omega) rfl rfl <| lx_move (.int .i64 ((y : Nat) : Int)) rfl rfl <| lx_ix (i := y) rfl eT25 (hot19.2.1 x (by omega)).rd rfl rfl (by omega) <| lx_ld (i := y) (j := 0) (.int .i64 (gt (gt rm x) y)) rfl rfl fl3 (hot19.2.1 x (by omega)).rd (by omega) rfl rfl <| lx_move (.int .i64 0) rfl rfl <| lx_neqF rfl rfl rfl (fun h9 => h9 (by rw [show gt (gt rm x) y = wantS k x y from hw2]; unfold wantS; first | (rw [if_pos (of_decide_eq_true (by assumption)), ← ho9] <;> omega) | (rw [if_neg (of_decide_eq_false (by assumption))] <;> omega))) <| lx_pick false (.bool false) rfl rfl rfl <| lx_nil <| wi_false rfl <| wi_skip <| wi_inBlock <| wi_reg rfl <| lx_move (.int .i64 ((y : Nat) : Int)) rfl rfl <| lx_add (((y + 1 : Nat) : Int)) rfl rfl rfl (by omega) (by omega) (by omega) <| lx_assign (.int .i64 ((y + 1 : Nat) : Int)) rfl rfl <| lx_nil <| ?_
              -- L6.2
              refine IH4 _ _ (y + 1) (agree_ups rfl (agree_mix (rngB_sub (by decide) (by decide) rfl) (agree_ups rfl agree_self))) ⟨rfl, trivial⟩ ⟨rfl, ?_⟩ ?_
              · try dsimp only
                omega
              · first | omega | (dsimp only; omega)
        · refine lx_nil <| wi_false rfl <| wi_exit rfl <| wi_inBlock <| wi_reg rfl <| lx_move (.int .i64 ((x : Nat) : Int)) rfl rfl <| lx_add (((x + 1 : Nat) : Int)) rfl rfl rfl (by omega) (by omega) (by omega) <| lx_assign (.int .i64 ((x + 1 : Nat) : Int)) rfl rfl <| lx_nil <| ?_
          -- L4.1
          refine IH3 _ _ (x + 1) (agree_ups rfl (agree_mix (rngB_sub (by decide) (by decide) rfl) (agree_ups rfl agree_self))) ⟨rfl, trivial⟩ ⟨?_, ?_, ?_, ?_, hx0_12, ?_⟩ ?_
          · first | exact ho35 | (simpa using ho35)
          · first | exact hot18 | (simpa using hot18)
          · first | exact ho36 | (simpa using ho36)
          · first | exact hot19 | (simpa using hot19)
          · try dsimp only
            omega
          · first | omega | (dsimp only; omega)
    · refine lx_nil <| wi_false rfl <| wi_exit rfl <| wi_seq <| wi_reg rfl <| lx_call [] rfl rfl Try.call69 rfl (ten_spec hh3 ) (fun _ _ _ => trivial) ?_
      rintro _ h12 ⟨rfl, hx8⟩
      have hx0_13 := hx0_10.trans2 hx8 hx0_10.size
      have ho39 := ho28.extS hx8
      have hot20 := hot14.extS hx8
      have ho40 := ho29.extS hx8
      have hot21 := hot15.extS hx8
      refine lx_assign (.bool true) rfl rfl <| lx_nil <| ?_
      -- R2
      refine wi_ret ⟨.bool true, (res_one rfl rfl), ⟨rfl, hx0_13⟩⟩

end Go.Proofs.Ytdokijbdnajhgaa
namespace Go.Proofs.Ytdokijbdnajhgaa
open Go Go.X Go.ChangeShapes Go.WideShapes Go.ChangeAt Go.RowKit

theorem topSubsets_own : ownKnob Try.prog.godebug = none := by kernel_rfl
theorem topSubsets_laidOut : laidOutB Try.prog = true := by kernel_rfl

set_option maxRecDepth 100000 in
theorem topSubsets_lifted (os : Os) (started : os.Started) (H : Type) (enc : TypeId × Value → H) :
    ReturnsInHanded {} Try.checked os 14 .any (Rows.topSubsetsSpec.pre6 enc Try.prog Try.f14 Rows.topSubsetsRow.domain false) (Rows.topSubsetsSpec.post enc Try.prog Try.f14 false true false false) := by
  refine returnsInHanded_of_change (C := Try.checked) topSubsets_own started (by kernel_rfl) Try.func14
    (ChangeSpec.witness6 (enc := enc) (C := Try.checked) false ⟨#[], #[.int .i64 0], []⟩ 8 (by kernel_rfl) (by kernel_rfl) (by kernel_rfl) (by kernel_rfl)) ?_
  intro W base args ds gs before hval0 hW hcnd _
  have hval : ∀ (j : Nat) t v, Try.f14.params[j]? = some t → args[j]? = some v → Value.okWide Try.prog W .any base t v := hval0
  have hW' := hW
  obtain ⟨p, q, hA0, hV, rfl, hfz, hnd⟩ := hW
  have hA : DataW.TrodAll enc Try.prog W 0 (fun _ => true) true Try.f14.params.toList args.toList ds p := hA0
  rw [Try.params14] at hA hval
  obtain ⟨v0, vs0, d0, ds0, p0, q0, hargs, rfl, rfl, h0, r0⟩ := trodAll_cons hA
  obtain ⟨rfl, rfl, rfl⟩ := trodAll_nil r0
  obtain rfl : args = #[v0] := by cases args; simp_all
  obtain ⟨rfl, rfl⟩ := trodVars_none hV
  obtain ⟨n, rfl, rfl, rfl, w0⟩ := open_int Try.underlying3 (hval 0 3 v0 rfl rfl) h0
  have hb_n := bounds_i64 w0
  clear hA0 hval0
  refine (lift_walk (args := [.int .i64 n]) (topSubsets_spec W.heap n)).mono fun e W' ⟨he, bel⟩ => ?_
  subst he
  exact ⟨_, rfl, _, _, _, [], _, [], hW', trodAll_mk1 (shut_bool Try.underlying4 _), (trodAll_cons_mk (shut_int Try.underlying3 w0) trodAll_mk0), rfl, bel.frame _, fun h => by cases h⟩

theorem topSubsets_holds : Rows.TopSubsetsSaid :=
  OpenClaim.holds_of_wide 14 Try.f14 rfl rfl rfl rfl rfl rfl rfl ⟨rfl, rfl, rfl, rfl, rfl⟩ rfl rfl rfl rfl rfl (by kernel_rfl) Try.func14 (by kernel_rfl)
    (of_decide_eq_true (by kernel_rfl)) (by unfold Func.isWrapper; first | (rw [if_pos (by decide +kernel)]; kernel_rfl) | (rw [if_neg (by decide +kernel)]; exact ⟨rfl, rfl⟩))
    (fun os started H enc _ => topSubsets_lifted os started H enc)
#print axioms topSubsets_holds
end Go.Proofs.Ytdokijbdnajhgaa
