/-
  Walks: a degree.
-/
import Derived.Test.YtdokijbdnajhgaaOK
import Derived.Test.YtdokijbdnajhgaaXDeg
import Derived.Test.YtdokijbdnajhgaaXOLen
set_option linter.unusedSimpArgs false
set_option linter.unusedVariables false
namespace Go.Proofs.Ytdokijbdnajhgaa
open Go Go.X

set_option maxRecDepth 10000 in
theorem number_spec (h : Heap) (b : Bool) : Fx Try.prog 184 [.bool b] h (fun v h' => v = .int .i64 (bI b) ∧ h = h') := by
  refine fx_intro (n := 4) [(0, .bool b)] Try.func184 rfl rfl (by simp) ⟨rfl, trivial⟩ fun g0 => ?_
  refine wi_seq <| wi_reg rfl <| lx_assign (.int .i64 0) rfl rfl <| lx_nil <| wi_seq <| wi_seq <| wi_reg rfl <| lx_move (.bool b) rfl rfl <| lx_nil <| wi_condS (t := b) rfl (fun c1 => ?_) (fun c1 => ?_)
  · refine wi_seq <| wi_reg rfl <| lx_assign (.int .i64 1) rfl rfl <| lx_nil <| ?_
    -- R1
    refine wi_ret ⟨.int .i64 1, (res_one rfl rfl), ⟨?_, rfl⟩⟩
    · congr 1
      first | (rw [show b = true from by assumption]; rfl) | (rw [show b = false from by assumption]; rfl)
  · refine wi_skip <| wi_seq <| wi_reg rfl <| lx_assign (.int .i64 0) rfl rfl <| lx_nil <| ?_
    -- R2
    refine wi_ret ⟨.int .i64 0, (res_one rfl rfl), ⟨?_, rfl⟩⟩
    · congr 1
      first | (rw [show b = true from by assumption]; rfl) | (rw [show b = false from by assumption]; rfl)

set_option maxRecDepth 10000 in
theorem numbers_spec (h : Heap) (vf : Value) (fs : List Bool) (hr_vf : RdE encB h vf fs) (hp1 : fs.length ≤ 100) : Fx Try.prog 174 [vf] h (fun v h' => ∃ (s : Value), v = s ∧ OwE encI h' h.size 3 s (fs.map bI) ∧ Ext h.size h h') := by
  refine fx_intro (n := 19) [(0, vf)] Try.func174 rfl rfl (by simp) ⟨rfl, trivial⟩ fun g0 => ?_
  refine wi_seq <| wi_reg rfl <| lx_assign (.slice none 0 0) rfl rfl <| lx_nil <| wi_seq <| wi_reg rfl <| lx_assign (.slice none 0 0) rfl rfl <| lx_nil <| wi_seq <| wi_seq <| wi_reg rfl <| lx_move (vf) rfl rfl <| lx_len rfl Try.underlying70 hr_vf rfl <| lx_move (.int .i64 0) rfl rfl <| lx_nil <| wi_block <| ?_
  refine wi_loop (σ := Nat × Value × (List Int)) (rngB 8 18 [3, 5]) (fun (ss : Nat × Value × (List Int)) => [(8, .int .i64 ((ss.1 : Nat) : Int)), (3, ss.2.1)]) (fun (ss : Nat × Value × (List Int)) (hh : Heap) => OwE encI hh h.size 3 ss.2.1 ss.2.2 ∧ Ext h.size h hh ∧ (ss.1 ≤ fs.length) ∧ (ss.2.2 = (fs.take ss.1).map bI)) (fun (ss : Nat × Value × (List Int)) => fs.length - ss.1) (0, .slice none 0 0, []) ⟨rfl, rfl, trivial⟩ ⟨?_, (Ext.refl _ _), ?_, ?_⟩ ?_
  · first | exact (owE_nil encI _ h.size 3) | (simpa using (owE_nil encI _ h.size 3))
  · try dsimp only
    omega
  · try dsimp only
    first | done | rfl
  rintro g1 ⟨k, v, xs⟩ hh1 ⟨ho1, hx0_1, hk, hxs⟩ IH1
  dsimp only at *
  have hxl : xs.length = k := by rw [hxs]; simp; omega
  refine wi_seq <| wi_reg rfl <| lx_lssS rfl rfl rfl (fun c1 => ?_) (fun c1 => ?_)
  · refine lx_nil <| wi_seq <| wi_true rfl <| wi_skip <| wi_seq <| wi_block <| wi_seq <| wi_reg rfl <| lx_ix (i := k) rfl eT70 hr_vf rfl rfl (by first | omega | (simp only [List.length_set, List.length_append, List.length_cons, List.length_nil, List.length_replicate, List.length_take, swp_length, exch_length]; omega)) <| lx_ld (i := k) (j := 0) (.bool (gt fs k)) rfl rfl fl4 (hr_vf.extS hx0_1) (by first | omega | (simp only [List.length_set, List.length_append, List.length_cons, List.length_nil, List.length_replicate, List.length_take, swp_length, exch_length]; omega)) rfl rfl <| lx_assign (.bool (gt fs k)) rfl rfl <| lx_nil <| wi_reg rfl <| lx_move (v) rfl rfl <| lx_move (.bool (gt fs k)) rfl rfl <| lx_call [.bool (gt fs k)] rfl rfl Try.call184 rfl (number_spec hh1 (gt fs k) ) (fun _ _ _ => trivial) ?_
    rintro _ h1 ⟨rfl, rfl⟩
    refine lx_appendL (E := encI) (B := h.size) [bI (gt fs k)] [.int .i64 (bI (gt fs k))] rfl rfl (fun _ => rfl) rfl eT25 rfl rfl rfl rfl ho1 (fun _ => rfl) (by show xs.length + 1 ≤ _; omega) (by show (xs.length + 1) * 8 ≤ _; omega) hx0_1.size (fun _ _ => trivial) fun u1 v1 h2 ho2 hc1 hg1 => ?_
    have hx0_2 := hx0_1.trans (ho1.ext hc1 hx0_1.size)
    refine lx_assign (v1) rfl rfl <| lx_nil <| wi_inBlock <| wi_reg rfl <| lx_add (((k + 1 : Nat) : Int)) rfl rfl rfl (by omega) (by omega) (by omega) <| lx_move (.int .i64 ((k + 1 : Nat) : Int)) rfl rfl <| lx_nil <| ?_
    -- L0.1
    refine IH1 _ _ (k + 1, v1, xs ++ [bI (gt fs k)]) (agree_ups rfl agree_self) ⟨rfl, rfl, trivial⟩ ⟨?_, hx0_2, ?_, ?_⟩ ?_
    · first | exact ho2 | (simpa using ho2)
    · try dsimp only
      omega
    · try dsimp only
      rw [hxs, List.take_add_one, gt_some (by omega)]; simp
    · first | omega | (dsimp only; omega)
  · refine lx_nil <| wi_seq <| wi_false rfl <| wi_exit rfl <| wi_seq <| wi_reg rfl <| lx_move (v) rfl rfl <| lx_assign (v) rfl rfl <| lx_nil <| ?_
    -- R1
    refine wi_ret ⟨v, (res_one rfl rfl), ⟨v, rfl, ?_, hx0_1⟩⟩
    · rw [show fs.map bI = xs from by rw [hxs, show k = fs.length from by omega, List.take_length]]; exact ho1

set_option maxRecDepth 10000 in
theorem reals1_spec (h : Heap) (a : Int) (b : Int) (hp1 : -100 ≤ a) (hp2 : a ≤ 100) (hp3 : -100 ≤ b) (hp4 : b ≤ 100) : Fx Try.prog 176 [.int .i64 a, .int .i64 b] h (fun v h' => v = .tuple #[.int .i64 a, .int .i64 (b - a)] ∧ h = h') := by
  refine fx_intro (n := 10) [(0, .int .i64 a), (1, .int .i64 b)] Try.func176 rfl rfl (by simp) ⟨rfl, rfl, trivial⟩ fun g0 => ?_
  refine wi_seq <| wi_reg rfl <| lx_assign (.int .i64 0) rfl rfl <| lx_assign (.int .i64 0) rfl rfl <| lx_nil <| wi_seq <| wi_reg rfl <| lx_move (.int .i64 a) rfl rfl <| lx_move (.int .i64 b) rfl rfl <| lx_move (.int .i64 a) rfl rfl <| lx_sub (b - a) rfl rfl rfl (by omega) (by omega) (by omega) <| lx_assign (.int .i64 a) rfl rfl <| lx_assign (.int .i64 (b - a)) rfl rfl <| lx_nil <| ?_
  -- R1
  refine wi_ret ⟨.tuple #[.int .i64 a, .int .i64 (b - a)], (res_two rfl rfl rfl), ⟨rfl, rfl⟩⟩

set_option maxRecDepth 10000 in
theorem turn_spec (h : Heap) (B : Nat) (vl : Value) (xs : List Int) (ho_vl : OwE encI h B 3 vl xs) (hB : B ≤ h.size) (hp1 : xs = tr0) : Fx Try.prog 175 [vl, .func (.func 176) #[] #[]] h (fun v h' => v = .tuple #[] ∧ OwE encI h' B 3 vl (trT 2 0) ∧ Ext B h h') := by
  refine fx_intro (n := 45) [(0, vl), (1, .func (.func 176) #[] #[])] Try.func175 rfl rfl (by simp) ⟨rfl, rfl, trivial⟩ fun g0 => ?_
  refine wi_seq <| wi_reg rfl <| lx_assign (.int .i64 1) rfl rfl <| lx_nil <| wi_block <| ?_
  refine wi_loop (σ := Nat × (List Int)) (rngB 4 45 []) (fun (ss : Nat × (List Int)) => [(4, .int .i64 ((2 ^ ss.1 : Nat) : Int))]) (fun (ss : Nat × (List Int)) (hh : Heap) => OwE encI hh B 3 vl ss.2 ∧ Ext B h hh ∧ (ss.1 ≤ 2) ∧ (ss.2 = trT ss.1 0)) (fun (ss : Nat × (List Int)) => 2 - ss.1) (0, xs) ⟨rfl, trivial⟩ ⟨?_, (Ext.refl _ _), ?_, ?_⟩ ?_
  · first | exact ho_vl | (simpa using ho_vl)
  · try dsimp only
    omega
  · try dsimp only
    rw [hp1]; rfl
  rintro g1 ⟨e, ys⟩ hh1 ⟨ho1, hx0_1, he, hys⟩ IH1
  dsimp only at *
  have hyl := (trT_ok (e := e) (x := 0) (j := 0) (by omega) (by omega) (by omega)).1
  rw [← hys] at hyl
  have hpe : e = 0 ∧ 2 ^ e = 1 ∨ e = 1 ∧ 2 ^ e = 2 ∨ e = 2 ∧ 2 ^ e = 4 := by
    rcases Nat.lt_or_ge e 1 with h9 | h9
    · obtain rfl : e = 0 := by omega
      exact .inl ⟨rfl, rfl⟩
    · rcases Nat.lt_or_ge e 2 with h8 | h8
      · obtain rfl : e = 1 := by omega
        exact .inr (.inl ⟨rfl, rfl⟩)
      · obtain rfl : e = 2 := by omega
        exact .inr (.inr ⟨rfl, rfl⟩)
  refine wi_seq <| wi_seq <| wi_reg rfl <| lx_move (.int .i64 ((2 ^ e : Nat) : Int)) rfl rfl <| lx_move (vl) rfl rfl <| lx_len rfl Try.underlying25 ho1.rd rfl <| lx_lssS rfl rfl rfl (fun c1 => ?_) (fun c1 => ?_)
  · refine lx_nil <| wi_true rfl <| wi_skip <| wi_seq <| wi_block <| wi_seq <| wi_reg rfl <| lx_move (vl) rfl rfl <| lx_len rfl Try.underlying25 ho1.rd rfl <| lx_move (.int .i64 0) rfl rfl <| lx_nil <| wi_block <| ?_
    refine wi_loop (σ := Nat × (List Int)) (rngB 14 45 [5]) (fun (ss : Nat × (List Int)) => [(14, .int .i64 ((ss.1 : Nat) : Int))]) (fun (ss : Nat × (List Int)) (hh : Heap) => OwE encI hh B 3 vl ss.2 ∧ Ext B h hh ∧ (ss.1 ≤ 4) ∧ (ss.2 = trT e ss.1)) (fun (ss : Nat × (List Int)) => 4 - ss.1) (0, ys) ⟨rfl, trivial⟩ ⟨?_, hx0_1, ?_, ?_⟩ ?_
    · first | exact ho1 | (simpa using ho1)
    · try dsimp only
      omega
    · try dsimp only
      exact hys
    rintro g2 ⟨x, ys⟩ hh2 ⟨ho2, hx0_2, hx, hys2⟩ IH2
    dsimp only at *
    have hyl2 := (trT_ok (e := e) (x := x) (j := 0) (by omega) (by omega) (by omega)).1
    rw [← hys2] at hyl2
    have hal : x &&& 2 ^ e ≤ x := Nat.and_le_left
    refine wi_seq <| wi_reg rfl <| lx_lssS rfl rfl rfl (fun c2 => ?_) (fun c2 => ?_)
    · refine lx_nil <| wi_seq <| wi_true rfl <| wi_skip <| wi_seq <| wi_block <| wi_seq <| wi_reg rfl <| lx_move (.int .i64 ((x : Nat) : Int)) rfl rfl <| lx_assign (.int .i64 ((x : Nat) : Int)) rfl rfl <| lx_nil <| wi_seq <| wi_reg rfl <| lx_move (.int .i64 ((x : Nat) : Int)) rfl rfl <| lx_move (.int .i64 ((2 ^ e : Nat) : Int)) rfl rfl <| lx_and (m := x) (n := 2 ^ e) rfl rfl rfl (by show _ < 2 ^ 64; omega) (by show _ < 2 ^ 64; omega) (wrap_i64 (by omega) (by omega)) <| lx_eqlS rfl rfl rfl (fun c3 => ?_) (fun c3 => ?_)
      · refine lx_nil <| wi_true rfl <| wi_draw mo rfl (by decide +kernel) <| ?_
        have hor := or_ok (e := e) (x := x) (by omega) (by omega) (by omega)
        have hb1 := trT_ok (e := e) (x := x) (j := x) (by omega) (by omega) (by omega)
        have hb2 := trT_ok (e := e) (x := x) (j := x ||| 2 ^ e) (by omega) (by omega) hor
        rw [← hys2] at hb1 hb2
        refine lx_move (vl) rfl rfl <| lx_move (.int .i64 ((x : Nat) : Int)) rfl rfl <| lx_move (vl) rfl rfl <| lx_move (.int .i64 ((x : Nat) : Int)) rfl rfl <| lx_move (.int .i64 ((2 ^ e : Nat) : Int)) rfl rfl <| lx_or (m := x) (n := 2 ^ e) rfl rfl rfl (by show _ < 2 ^ 64; omega) (by show _ < 2 ^ 64; omega) (wrap_i64 (by omega) (by omega)) <| lx_move (.func (.func 176) #[] #[]) rfl rfl <| lx_move (vl) rfl rfl <| lx_move (.int .i64 ((x : Nat) : Int)) rfl rfl <| lx_ix (i := x) rfl eT25 ho2.rd rfl rfl (by first | omega | (simp only [List.length_set, List.length_append, List.length_cons, List.length_nil, List.length_replicate, List.length_take, swp_length, exch_length]; omega)) <| lx_ld (i := x) (j := 0) (.int .i64 (gt ys x)) rfl rfl fl3 ho2.rd (by first | omega | (simp only [List.length_set, List.length_append, List.length_cons, List.length_nil, List.length_replicate, List.length_take, swp_length, exch_length]; omega)) rfl rfl <| lx_move (vl) rfl rfl <| lx_move (.int .i64 ((x : Nat) : Int)) rfl rfl <| lx_move (.int .i64 ((2 ^ e : Nat) : Int)) rfl rfl <| lx_or (m := x) (n := 2 ^ e) rfl rfl rfl (by show _ < 2 ^ 64; omega) (by show _ < 2 ^ 64; omega) (wrap_i64 (by omega) (by omega)) <| lx_ix (i := x ||| (2 ^ e)) rfl eT25 ho2.rd rfl rfl (by first | omega | (simp only [List.length_set, List.length_append, List.length_cons, List.length_nil, List.length_replicate, List.length_take, swp_length, exch_length]; omega)) <| lx_ld (i := x ||| (2 ^ e)) (j := 0) (.int .i64 (gt ys (x ||| (2 ^ e)))) rfl rfl fl3 ho2.rd (by first | omega | (simp only [List.length_set, List.length_append, List.length_cons, List.length_nil, List.length_replicate, List.length_take, swp_length, exch_length]; omega)) rfl rfl <| lx_callV [] [] [.int .i64 (gt ys x), .int .i64 (gt ys (x ||| (2 ^ e)))] rfl rfl Try.call176 rfl rfl (reals1_spec hh2 (gt ys x) (gt ys (x ||| (2 ^ e))) (by omega) (by omega) (by omega) (by omega)) (fun _ _ _ => trivial) ?_
        rintro _ h1 ⟨rfl, rfl⟩
        refine lx_move (.tuple #[.int .i64 ((gt ys x)), .int .i64 ((gt ys (x ||| (2 ^ e))) - (gt ys x))]) rfl rfl <| lx_extract (.int .i64 ((gt ys x))) rfl rfl rfl <| lx_extract (.int .i64 ((gt ys (x ||| (2 ^ e))) - (gt ys x))) rfl rfl rfl <| lx_ix (i := x) rfl eT25 ho2.rd rfl rfl (by first | omega | (simp only [List.length_set, List.length_append, List.length_cons, List.length_nil, List.length_replicate, List.length_take, swp_length, exch_length]; omega)) <| lx_st (i := x) ((gt ys x)) rfl rfl Try.sizeOf3 ho2 (by first | omega | (simp only [List.length_set, List.length_append, List.length_cons, List.length_nil, List.length_replicate, List.length_take, swp_length, exch_length]; omega)) rfl rfl (fun _ _ _ _ _ => trivial) fun h2 ho3 hc1 hsz1 => ?_
        have hx0_3 := hx0_2.trans (ho2.ext hc1 (Nat.le_trans hB hx0_2.size))
        have hcc1 := hc1
        refine lx_ix (i := x ||| (2 ^ e)) rfl eT25 ho3.rd rfl rfl (by first | omega | (simp only [List.length_set, List.length_append, List.length_cons, List.length_nil, List.length_replicate, List.length_take, swp_length, exch_length]; omega)) <| lx_st (i := x ||| (2 ^ e)) ((gt ys (x ||| (2 ^ e))) - (gt ys x)) rfl rfl Try.sizeOf3 ho3 (by first | omega | (simp only [List.length_set, List.length_append, List.length_cons, List.length_nil, List.length_replicate, List.length_take, swp_length, exch_length]; omega)) rfl rfl (fun _ _ _ _ _ => trivial) fun h3 ho4 hc2 hsz2 => ?_
        have hx0_4 := hx0_3.trans (ho3.ext hc2 (Nat.le_trans hB hx0_3.size))
        have hcc2 := hcc1.trans hc2
        refine lx_nil <| wi_inBlock <| wi_reg rfl <| lx_add (((x + 1 : Nat) : Int)) rfl rfl rfl (by omega) (by omega) (by omega) <| lx_move (.int .i64 ((x + 1 : Nat) : Int)) rfl rfl <| lx_nil <| ?_
        -- L2.1
        refine IH2 _ _ (x + 1, (ys.set x ((gt ys x))).set (x ||| (2 ^ e)) ((gt ys (x ||| (2 ^ e))) - (gt ys x))) (agree_ups rfl agree_self) ⟨rfl, trivial⟩ ⟨?_, hx0_4, ?_, ?_⟩ ?_
        · first | exact ho4 | (simpa using ho4)
        · try dsimp only
          omega
        · try dsimp only
          rw [trT_succ, trS]
          first
          | rw [if_pos (by omega), ← hys2]
          | rw [if_neg (by omega), ← hys2]
        · first | omega | (dsimp only; omega)
      · refine lx_nil <| wi_false rfl <| wi_skip <| wi_inBlock <| wi_reg rfl <| lx_add (((x + 1 : Nat) : Int)) rfl rfl rfl (by omega) (by omega) (by omega) <| lx_move (.int .i64 ((x + 1 : Nat) : Int)) rfl rfl <| lx_nil <| ?_
        -- L2.2
        refine IH2 _ _ (x + 1, ys) (agree_ups rfl agree_self) ⟨rfl, trivial⟩ ⟨?_, hx0_2, ?_, ?_⟩ ?_
        · first | exact ho2 | (simpa using ho2)
        · try dsimp only
          omega
        · try dsimp only
          rw [trT_succ, trS]
          first
          | rw [if_pos (by omega), ← hys2]
          | rw [if_neg (by omega), ← hys2]
        · first | omega | (dsimp only; omega)
    · refine lx_nil <| wi_seq <| wi_false rfl <| wi_exit rfl <| wi_inBlock <| wi_reg rfl <| lx_move (.int .i64 ((2 ^ e : Nat) : Int)) rfl rfl <| lx_mul ((((2 ^ e) * 2 : Nat) : Int)) rfl rfl rfl (by omega) (by omega) (by omega) <| lx_assign (.int .i64 (((2 ^ e) * 2 : Nat) : Int)) rfl rfl <| lx_nil <| ?_
      -- L0.1
      refine IH1 _ _ (e + 1, ys) (agree_ups rfl (agree_mix (rngB_sub (by decide) (by decide) rfl) (agree_ups rfl agree_self))) ⟨rfl, trivial⟩ ⟨?_, hx0_2, ?_, ?_⟩ ?_
      · first | exact ho2 | (simpa using ho2)
      · try dsimp only
        omega
      · try dsimp only
        rw [hys2, show x = 4 from by omega]; exact (trT_next e).symm
      · first | omega | (dsimp only; omega)
  · refine lx_nil <| wi_false rfl <| wi_exit rfl <| ?_
    -- R1
    refine wi_end ⟨.tuple #[], (res_none rfl), ⟨rfl, ?_, hx0_1⟩⟩
    · obtain rfl : e = 2 := by omega
      rw [← hys]; exact ho1

set_option maxRecDepth 10000 in
theorem reals_spec (h : Heap) (vf : Value) (fs : List Bool) (hr_vf : RdE encB h vf fs) (hp1 : fs = [false, true, true, false]) : Fx Try.prog 152 [vf] h (fun v h' => ∃ (s : Value), v = s ∧ OwE encI h' h.size 3 s (trT 2 0) ∧ Ext h.size h h') := by
  refine fx_intro (n := 9) [(0, vf)] Try.func152 rfl rfl (by simp) ⟨rfl, trivial⟩ fun g0 => ?_
  refine wi_seq <| wi_reg rfl <| lx_assign (.slice none 0 0) rfl rfl <| lx_nil <| wi_seq <| wi_reg rfl <| lx_move (vf) rfl rfl <| lx_call [vf] rfl rfl Try.call174 rfl (numbers_spec h vf fs hr_vf (by rw [hp1]; decide)) (fun _ _ _ => trivial) ?_
  rintro v1 h1 ⟨_, rfl, ho1, hx1⟩
  have ho2 := ho1.base (Nat.le_refl h.size)
  refine lx_assign (v1) rfl rfl <| lx_nil <| wi_seq <| wi_reg rfl <| lx_move (v1) rfl rfl <| lx_call [v1, .func (.func 176) #[] #[]] rfl rfl Try.call175 rfl (turn_spec h1 h.size v1 (fs.map bI) ho2 hx1.size (by rw [hp1]; rfl)) (fun _ _ _ => trivial) ?_
  rintro _ h2 ⟨rfl, ho3, hx2⟩
  have hx0_1 := hx1.trans hx2
  refine lx_nil <| wi_seq <| wi_reg rfl <| lx_move (v1) rfl rfl <| lx_assign (v1) rfl rfl <| lx_nil <| ?_
  -- R1
  refine wi_ret ⟨v1, (res_one rfl rfl), ⟨v1, rfl, ho3, hx0_1⟩⟩

set_option maxRecDepth 10000 in
theorem count_spec (h : Heap) (x : Nat) (hp1 : x < 4096) : Fx Try.prog 153 [.int .i64 ((x : Nat) : Int)] h (fun v h' => v = .int .i64 ((popN x : Nat) : Int) ∧ h = h') := by
  refine fx_intro (n := 6) [(0, .int .i64 ((x : Nat) : Int))] Try.func153 rfl rfl (by simp) ⟨rfl, trivial⟩ fun g0 => ?_
  refine wi_seq <| wi_reg rfl <| lx_assign (.int .i64 0) rfl rfl <| lx_nil <| wi_seq <| wi_reg rfl <| lx_move (.int .i64 ((x : Nat) : Int)) rfl rfl <| lx_conv ((x : Nat) : Int) rfl Try.underlying3 Try.underlying45 rfl (wrap_u64 (by omega) (by omega)) <| lx_call [.int .u64 ((x : Nat) : Int)] rfl rfl Try.call104 rfl (ones_spec h x (by omega)) (fun _ _ _ => trivial) ?_
  rintro _ h1 ⟨rfl, rfl⟩
  refine lx_assign (.int .i64 ((popN x : Nat) : Int)) rfl rfl <| lx_nil <| ?_
  -- R1
  refine wi_ret ⟨.int .i64 ((popN x : Nat) : Int), (res_one rfl rfl), ⟨rfl, rfl⟩⟩

set_option maxRecDepth 10000 in
theorem size_spec (h : Heap) (n : Nat) (hp1 : n = 4) : Fx Try.prog 173 [.int .i64 ((n : Nat) : Int)] h (fun v h' => v = .tuple #[.int .i64 ((2 : Nat) : Int), .bool true] ∧ h = h') := by
  refine fx_intro (n := 23) [(0, .int .i64 ((n : Nat) : Int))] Try.func173 rfl rfl (by simp) ⟨rfl, trivial⟩ fun g0 => ?_
  refine wi_seq <| wi_reg rfl <| lx_assign (.int .i64 0) rfl rfl <| lx_assign (.bool false) rfl rfl <| lx_nil <| wi_seq <| wi_reg rfl <| lx_move (.int .i64 ((n : Nat) : Int)) rfl rfl <| lx_conv ((n : Nat) : Int) rfl Try.underlying3 Try.underlying45 rfl (wrap_u64 (by omega) (by omega)) <| lx_call [.int .u64 ((n : Nat) : Int)] rfl rfl Try.call127 rfl (blen_spec h n (by omega)) (fun _ _ _ => trivial) ?_
  rintro _ h1 ⟨rfl, rfl⟩
  rw [show Lib.bitLen n = 3 from by rw [hp1]; exact len4]
  refine lx_sub (((2 : Nat) : Int)) rfl rfl rfl (by omega) (by omega) (by omega) <| lx_assign (.int .i64 ((2 : Nat) : Int)) rfl rfl <| lx_nil <| wi_seq <| wi_reg rfl <| lx_move (.int .i64 ((2 : Nat) : Int)) rfl rfl <| lx_move (.int .i64 ((n : Nat) : Int)) rfl rfl <| lx_geqS rfl rfl rfl (fun c1 => ?_) (fun c1 => ?_)
  · refine lx_move (.bool true) rfl rfl <| lx_move (.int .i64 ((n : Nat) : Int)) rfl rfl <| lx_leqS rfl rfl rfl (fun c2 => ?_) (fun c2 => ?_)
    · refine lx_pick true (.bool true) rfl rfl rfl <| lx_move (.bool true) rfl rfl <| lx_move (.int .i64 ((n : Nat) : Int)) rfl rfl <| lx_move (.int .i64 ((2 : Nat) : Int)) rfl rfl <| lx_conv ((2 : Nat) : Int) rfl Try.underlying3 Try.underlying45 rfl (wrap_u64 (by omega) (by omega)) <| lx_shl (m := 1) (n := 2) rfl rfl rfl (by show _ ≤ 64; omega) (wrap_i64 (by omega) (by omega)) <| lx_eqlS rfl rfl rfl (fun c3 => ?_) (fun c3 => ?_)
      · refine lx_pick true (.bool true) rfl rfl rfl <| lx_assign (.int .i64 ((2 : Nat) : Int)) rfl rfl <| lx_assign (.bool true) rfl rfl <| lx_nil <| ?_
        -- R1
        refine wi_ret ⟨.tuple #[.int .i64 ((2 : Nat) : Int), .bool true], (res_two rfl rfl rfl), ⟨rfl, rfl⟩⟩
      · refine lx_pick true (.bool false) rfl rfl rfl <| lx_assign (.int .i64 ((2 : Nat) : Int)) rfl rfl <| lx_assign (.bool false) rfl rfl <| lx_nil <| ?_
        -- R2
        refine wi_ret ⟨.tuple #[.int .i64 ((2 : Nat) : Int), .bool false], (res_two rfl rfl rfl), ⟨?_, rfl⟩⟩
        · first | rfl | (simp; done) | (simp; omega)
    · refine lx_pick true (.bool false) rfl rfl rfl <| lx_move (.bool false) rfl rfl <| lx_skip rfl <| lx_skip rfl <| lx_skip rfl <| lx_skip rfl <| lx_skip rfl <| lx_pick false (.bool false) rfl rfl rfl <| lx_assign (.int .i64 ((2 : Nat) : Int)) rfl rfl <| lx_assign (.bool false) rfl rfl <| lx_nil <| ?_
      -- R3
      refine wi_ret ⟨.tuple #[.int .i64 ((2 : Nat) : Int), .bool false], (res_two rfl rfl rfl), ⟨?_, rfl⟩⟩
      · first | rfl | (simp; done) | (simp; omega)
  · refine lx_move (.bool false) rfl rfl <| lx_skip rfl <| lx_skip rfl <| lx_pick false (.bool false) rfl rfl rfl <| lx_move (.bool false) rfl rfl <| lx_skip rfl <| lx_skip rfl <| lx_skip rfl <| lx_skip rfl <| lx_skip rfl <| lx_pick false (.bool false) rfl rfl rfl <| lx_assign (.int .i64 ((2 : Nat) : Int)) rfl rfl <| lx_assign (.bool false) rfl rfl <| lx_nil <| ?_
    -- R4
    refine wi_ret ⟨.tuple #[.int .i64 ((2 : Nat) : Int), .bool false], (res_two rfl rfl rfl), ⟨?_, rfl⟩⟩
    · first | rfl | (simp; done) | (simp; omega)

set_option maxRecDepth 10000 in
theorem ccheck_spec (h : Heap) (vf : Value) (fs : List Bool) (hr_vf : RdE encB h vf fs) (hp1 : fs.length = 4) : Fx Try.prog 151 [vf] h (fun v h' => v = .int .i64 0 ∧ h = h') := by
  refine fx_intro (n := 13) [(0, vf)] Try.func151 rfl rfl (by simp) ⟨rfl, trivial⟩ fun g0 => ?_
  refine wi_seq <| wi_reg rfl <| lx_assign (.int .i64 0) rfl rfl <| lx_nil <| wi_seq <| wi_seq <| wi_reg rfl <| lx_move (vf) rfl rfl <| lx_len rfl Try.underlying70 hr_vf rfl <| lx_call [.int .i64 ((fs.length : Nat) : Int)] rfl rfl Try.call173 rfl (size_spec h fs.length (by omega)) (fun _ _ _ => trivial) ?_
  rintro _ h1 ⟨rfl, rfl⟩
  refine lx_move (.tuple #[.int .i64 ((2 : Nat) : Int), .bool true]) rfl rfl <| lx_extract (.int .i64 ((2 : Nat) : Int)) rfl rfl rfl <| lx_extract (.bool true) rfl rfl rfl <| lx_assign (.int .i64 ((2 : Nat) : Int)) rfl rfl <| lx_assign (.bool true) rfl rfl <| lx_nil <| wi_seq <| wi_reg rfl <| lx_move (.bool true) rfl rfl <| lx_notB false rfl rfl rfl <| lx_nil <| wi_false rfl <| wi_skip <| wi_seq <| wi_reg rfl <| lx_assign (.int .i64 0) rfl rfl <| lx_nil <| ?_
  -- R1
  refine wi_ret ⟨.int .i64 0, (res_one rfl rfl), ⟨rfl, rfl⟩⟩

set_option maxRecDepth 10000 in
theorem degree_spec (h : Heap) (vf : Value) (fs : List Bool) (hr_vf : RdE encB h vf fs) (hp1 : fs = [false, true, true, false]) : Fx Try.prog 119 [vf] h (fun v h' => v = .tuple #[.int .i64 ((2 : Nat) : Int), .int .i64 0] ∧ Ext h.size h h') := by
  refine fx_intro (n := 29) [(0, vf)] Try.func119 rfl rfl (by simp) ⟨rfl, trivial⟩ fun g0 => ?_
  refine wi_seq <| wi_reg rfl <| lx_assign (.int .i64 0) rfl rfl <| lx_assign (.int .i64 0) rfl rfl <| lx_nil <| wi_seq <| wi_seq <| wi_reg rfl <| ?_
  have hfl : fs.length = 4 := by rw [hp1]; rfl
  refine lx_move (vf) rfl rfl <| lx_call [vf] rfl rfl Try.call151 rfl (ccheck_spec h vf fs hr_vf (by omega)) (fun _ _ _ => trivial) ?_
  rintro _ h1 ⟨rfl, rfl⟩
  refine lx_assign (.int .i64 0) rfl rfl <| lx_nil <| wi_seq <| wi_reg rfl <| lx_move (.int .i64 0) rfl rfl <| lx_neqS rfl rfl rfl (fun c1 => ?_) (fun c1 => ?_)
  · refine lx_nil <| wi_true rfl <| wi_seq <| wi_reg rfl <| lx_move (.int .i64 0) rfl rfl <| lx_assign (.int .i64 0) rfl rfl <| lx_assign (.int .i64 0) rfl rfl <| lx_nil <| ?_
    -- R1
    refine wi_ret ⟨.tuple #[.int .i64 0, .int .i64 0], (res_two rfl rfl rfl), ⟨?_, (Ext.refl _ _)⟩⟩
    · first | rfl | (simp; done) | (simp; omega)
  · refine lx_nil <| wi_false rfl <| wi_skip <| wi_seq <| wi_reg rfl <| lx_assign (.int .i64 0) rfl rfl <| lx_nil <| wi_seq <| wi_seq <| wi_reg rfl <| lx_move (vf) rfl rfl <| lx_call [vf] rfl rfl Try.call152 rfl (reals_spec h vf fs hr_vf (by omega)) (fun _ _ _ => trivial) ?_
    rintro v1 h2 ⟨_, rfl, ho1, hx1⟩
    have ho2 := ho1.base (Nat.le_refl h.size)
    refine lx_len rfl Try.underlying25 ho2.rd rfl <| lx_move (.int .i64 0) rfl rfl <| lx_nil <| wi_block <| ?_
    refine wi_loop (σ := Nat × Nat) (rngB 16 28 [5, 6, 7]) (fun (ss : Nat × Nat) => [(16, .int .i64 ((ss.1 : Nat) : Int)), (5, .int .i64 ((ss.2 : Nat) : Int))]) (fun (ss : Nat × Nat) (hh : Heap) => OwE encI hh h.size 3 v1 (trT 2 0) ∧ Ext h.size h hh ∧ (ss.1 ≤ 4) ∧ (ss.2 = dgF ss.1)) (fun (ss : Nat × Nat) => 4 - ss.1) (0, 0) ⟨rfl, rfl, trivial⟩ ⟨?_, hx1, ?_, ?_⟩ ?_
    · first | exact ho2 | (simpa using ho2)
    · try dsimp only
      omega
    · try dsimp only
      first | done | rfl
    rintro g1 ⟨k, n⟩ hh1 ⟨ho3, hx0_1, hk, hn⟩ IH1
    dsimp only at *
    have htl := (trT_ok (e := 2) (x := 0) (j := 0) (by omega) (by omega) (by omega)).1
    have hdl := dgF_le (k := k) (by omega)
    have hpl := popN_le4 (k := k) (by omega)
    refine wi_seq <| wi_reg rfl <| lx_lssS rfl rfl rfl (fun c2 => ?_) (fun c2 => ?_)
    · refine lx_nil <| wi_seq <| wi_true rfl <| wi_skip <| wi_seq <| wi_block <| wi_seq <| wi_reg rfl <| lx_move (.int .i64 ((k : Nat) : Int)) rfl rfl <| lx_ix (i := k) rfl eT25 ho3.rd rfl rfl (by first | omega | (simp only [List.length_set, List.length_append, List.length_cons, List.length_nil, List.length_replicate, List.length_take, swp_length, exch_length]; omega)) <| lx_ld (i := k) (j := 0) (.int .i64 (gt (trT 2 0) k)) rfl rfl fl3 ho3.rd (by first | omega | (simp only [List.length_set, List.length_append, List.length_cons, List.length_nil, List.length_replicate, List.length_take, swp_length, exch_length]; omega)) rfl rfl <| lx_assign (.int .i64 ((k : Nat) : Int)) rfl rfl <| lx_assign (.int .i64 (gt (trT 2 0) k)) rfl rfl <| lx_nil <| wi_seq <| wi_reg rfl <| lx_move (.int .i64 (gt (trT 2 0) k)) rfl rfl <| lx_neqS rfl rfl rfl (fun c3 => ?_) (fun c3 => ?_)
      · refine lx_nil <| wi_true rfl <| wi_reg rfl <| lx_move (.int .i64 ((n : Nat) : Int)) rfl rfl <| lx_move (.int .i64 ((k : Nat) : Int)) rfl rfl <| lx_call [.int .i64 ((k : Nat) : Int)] rfl rfl Try.call153 rfl (count_spec hh1 k (by omega)) (fun _ _ _ => trivial) ?_
        rintro _ h3 ⟨rfl, rfl⟩
        refine lx_max (((max n (popN k) : Nat) : Int)) rfl rfl rfl (by omega) <| lx_assign (.int .i64 ((max n (popN k) : Nat) : Int)) rfl rfl <| lx_nil <| wi_inBlock <| wi_reg rfl <| lx_add (((k + 1 : Nat) : Int)) rfl rfl rfl (by omega) (by omega) (by omega) <| lx_move (.int .i64 ((k + 1 : Nat) : Int)) rfl rfl <| lx_nil <| ?_
        -- L0.1
        refine IH1 _ _ (k + 1, max n (popN k)) (agree_ups rfl agree_self) ⟨rfl, rfl, trivial⟩ ⟨?_, hx0_1, ?_, ?_⟩ ?_
        · first | exact ho3 | (simpa using ho3)
        · try dsimp only
          omega
        · try dsimp only
          rw [dgF_succ]
          first
          | rw [if_pos (by omega), hn]
          | rw [if_neg (by omega), hn]
        · first | omega | (dsimp only; omega)
      · refine lx_nil <| wi_false rfl <| wi_skip <| wi_inBlock <| wi_reg rfl <| lx_add (((k + 1 : Nat) : Int)) rfl rfl rfl (by omega) (by omega) (by omega) <| lx_move (.int .i64 ((k + 1 : Nat) : Int)) rfl rfl <| lx_nil <| ?_
        -- L0.2
        refine IH1 _ _ (k + 1, n) (agree_ups rfl agree_self) ⟨rfl, rfl, trivial⟩ ⟨?_, hx0_1, ?_, ?_⟩ ?_
        · first | exact ho3 | (simpa using ho3)
        · try dsimp only
          omega
        · try dsimp only
          rw [dgF_succ]
          first
          | rw [if_pos (by omega), hn]
          | rw [if_neg (by omega), hn]
        · first | omega | (dsimp only; omega)
    · refine lx_nil <| wi_seq <| wi_false rfl <| wi_exit rfl <| wi_seq <| wi_reg rfl <| lx_move (.int .i64 ((n : Nat) : Int)) rfl rfl <| lx_assign (.int .i64 ((n : Nat) : Int)) rfl rfl <| lx_assign (.int .i64 0) rfl rfl <| lx_nil <| ?_
      -- R2
      refine wi_ret ⟨.tuple #[.int .i64 ((n : Nat) : Int), .int .i64 0], (res_two rfl rfl rfl), ⟨?_, hx0_1⟩⟩
      · rw [hn, show k = 4 from by omega, dg_all.1]

end Go.Proofs.Ytdokijbdnajhgaa
