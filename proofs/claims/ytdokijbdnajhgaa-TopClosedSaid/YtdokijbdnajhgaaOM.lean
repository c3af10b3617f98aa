/-
  Walks: networks.
-/
import Derived.Test.YtdokijbdnajhgaaOTypes
import Derived.Test.YtdokijbdnajhgaaXPlain
import Derived.Test.YtdokijbdnajhgaaXNet
set_option linter.unusedSimpArgs false
set_option linter.unusedVariables false
namespace Go.Proofs.Ytdokijbdnajhgaa
open Go Go.X

set_option maxRecDepth 10000 in
theorem check1_spec (h : Heap) (x : Int) (y : Int) (n : Int) (bp : Nat) (hb_bp : Blk h bp (#[.int .i64 n]) 3) : Fx Try.prog 155 [.agg #[.int .i64 x, .int .i64 y], .pointer (some ⟨bp, 0, none⟩)] h (fun v h' => v = .bool (validC n (x, y)) ∧ Ext h.size h h') := by
  refine fx_intro (n := 20) [(0, .agg #[.int .i64 x, .int .i64 y]), (1, .pointer (some ⟨bp, 0, none⟩))] Try.func155 rfl rfl (by simp) ⟨rfl, rfl, trivial⟩ fun g0 => ?_
  refine wi_seq <| wi_reg rfl <| lx_box #[.int .i64 x, .int .i64 y] rfl rfl rfl (fun _ _ _ => trivial) fun bn1 h1 hbn1 hbk1 hx1 hsz1 => ?_
  have hbb1 : h.size ≤ bn1 := by have := (Nat.le_refl h.size); omega
  have hne1 : bn1 ≠ bp := by have := hb_bp.lt; omega
  have hb1 := hb_bp.extS hx1
  refine lx_assign (.bool false) rfl rfl <| lx_nil <| wi_seq <| wi_reg rfl <| lx_ixB (i := 0) (0) rfl Try.underlying85 Try.sizeOf3 rfl rfl (by omega) rfl <| lx_ldB (.int .i64 x) rfl rfl fl3 hbk1 rfl rfl <| lx_geqS rfl rfl rfl (fun c1 => ?_) (fun c1 => ?_)
  · refine lx_move (.bool true) rfl rfl <| lx_ixB (i := 0) (0) rfl Try.underlying85 Try.sizeOf3 rfl rfl (by omega) rfl <| lx_ldB (.int .i64 x) rfl rfl fl3 hbk1 rfl rfl <| lx_ixB (i := 1) (1) rfl Try.underlying85 Try.sizeOf3 rfl rfl (by omega) rfl <| lx_ldB (.int .i64 y) rfl rfl fl3 hbk1 rfl rfl <| lx_lssS rfl rfl rfl (fun c2 => ?_) (fun c2 => ?_)
    · refine lx_pick true (.bool true) rfl rfl rfl <| lx_move (.bool true) rfl rfl <| lx_ixB (i := 1) (1) rfl Try.underlying85 Try.sizeOf3 rfl rfl (by omega) rfl <| lx_ldB (.int .i64 y) rfl rfl fl3 hbk1 rfl rfl <| lx_ldB (.int .i64 n) rfl rfl fl3 hb1 rfl rfl <| lx_lssS rfl rfl rfl (fun c3 => ?_) (fun c3 => ?_)
      · refine lx_pick true (.bool true) rfl rfl rfl <| lx_assign (.bool true) rfl rfl <| lx_nil <| ?_
        -- R1
        refine wi_ret ⟨.bool true, (res_one rfl rfl), ⟨?_, hx1⟩⟩
        · first | rw [show validC n (x, y) = true from decide_eq_true (by dsimp only; omega)] | rw [show validC n (x, y) = false from decide_eq_false (by dsimp only; omega)]
      · refine lx_pick true (.bool false) rfl rfl rfl <| lx_assign (.bool false) rfl rfl <| lx_nil <| ?_
        -- R2
        refine wi_ret ⟨.bool false, (res_one rfl rfl), ⟨?_, hx1⟩⟩
        · first | rw [show validC n (x, y) = true from decide_eq_true (by dsimp only; omega)] | rw [show validC n (x, y) = false from decide_eq_false (by dsimp only; omega)]
    · refine lx_pick true (.bool false) rfl rfl rfl <| lx_move (.bool false) rfl rfl <| lx_skip rfl <| lx_skip rfl <| lx_skip rfl <| lx_skip rfl <| lx_pick false (.bool false) rfl rfl rfl <| lx_assign (.bool false) rfl rfl <| lx_nil <| ?_
      -- R3
      refine wi_ret ⟨.bool false, (res_one rfl rfl), ⟨?_, hx1⟩⟩
      · first | rw [show validC n (x, y) = true from decide_eq_true (by dsimp only; omega)] | rw [show validC n (x, y) = false from decide_eq_false (by dsimp only; omega)]
  · refine lx_move (.bool false) rfl rfl <| lx_skip rfl <| lx_skip rfl <| lx_skip rfl <| lx_skip rfl <| lx_skip rfl <| lx_pick false (.bool false) rfl rfl rfl <| lx_move (.bool false) rfl rfl <| lx_skip rfl <| lx_skip rfl <| lx_skip rfl <| lx_skip rfl <| lx_pick false (.bool false) rfl rfl rfl <| lx_assign (.bool false) rfl rfl <| lx_nil <| ?_
    -- R4
    refine wi_ret ⟨.bool false, (res_one rfl rfl), ⟨?_, hx1⟩⟩
    · first | rw [show validC n (x, y) = true from decide_eq_true (by dsimp only; omega)] | rw [show validC n (x, y) = false from decide_eq_false (by dsimp only; omega)]

set_option maxRecDepth 10000 in
theorem chk_check1_spec (h : Heap) (n : Int) (vl : Value) (ls : List (Int × Int)) (bp : Nat) (hb_bp : Blk h bp (#[.int .i64 n]) 3) (hr_vl : RdE encP h vl ls) (hp1 : ls.length ≤ 4611686018427387904) : Fx Try.prog 154 [.int .i64 n, vl, .func (.func 155) #[] #[.pointer (some ⟨bp, 0, none⟩)]] h (fun v h' => v = .int .i64 (chkNet validC n ls) ∧ Ext h.size h h') := by
  refine fx_intro (n := 31) [(0, .int .i64 n), (1, vl), (2, .func (.func 155) #[] #[.pointer (some ⟨bp, 0, none⟩)])] Try.func154 rfl rfl (by simp) ⟨rfl, rfl, rfl, trivial⟩ fun g0 => ?_
  refine wi_seq <| wi_reg rfl <| lx_assign (.int .i64 0) rfl rfl <| lx_nil <| wi_seq <| wi_block <| wi_seq <| wi_reg rfl <| lx_move (.int .i64 n) rfl rfl <| lx_lssS rfl rfl rfl (fun c1 => ?_) (fun c1 => ?_)
  · refine lx_move (.bool true) rfl rfl <| lx_skip rfl <| lx_skip rfl <| lx_pick true (.bool true) rfl rfl rfl <| lx_assign (.bool true) rfl rfl <| lx_nil <| wi_true rfl <| wi_seq <| wi_reg rfl <| lx_assign (.int .i64 1) rfl rfl <| lx_nil <| ?_
    -- R1
    refine wi_ret ⟨.int .i64 1, (res_one rfl rfl), ⟨?_, (Ext.refl _ _)⟩⟩
    · unfold chkNet; first | rw [if_pos (by omega)] | (rw [if_neg (by omega), if_pos (by omega)])
  · refine lx_move (.bool false) rfl rfl <| lx_move (.int .i64 n) rfl rfl <| lx_gtrS rfl rfl rfl (fun c2 => ?_) (fun c2 => ?_)
    · refine lx_pick false (.bool true) rfl rfl rfl <| lx_assign (.bool true) rfl rfl <| lx_nil <| wi_true rfl <| wi_seq <| wi_reg rfl <| lx_assign (.int .i64 1) rfl rfl <| lx_nil <| ?_
      -- R2
      refine wi_ret ⟨.int .i64 1, (res_one rfl rfl), ⟨?_, (Ext.refl _ _)⟩⟩
      · unfold chkNet; first | rw [if_pos (by omega)] | (rw [if_neg (by omega), if_pos (by omega)])
    · refine lx_pick false (.bool false) rfl rfl rfl <| lx_assign (.bool false) rfl rfl <| lx_nil <| wi_false rfl <| wi_seq <| wi_reg rfl <| lx_move (vl) rfl rfl <| lx_len rfl Try.underlying22 hr_vl rfl <| lx_gtrS rfl rfl rfl (fun c3 => ?_) (fun c3 => ?_)
      · refine lx_assign (.bool true) rfl rfl <| lx_nil <| wi_true rfl <| wi_seq <| wi_reg rfl <| lx_assign (.int .i64 2) rfl rfl <| lx_nil <| ?_
        -- R3
        refine wi_ret ⟨.int .i64 2, (res_one rfl rfl), ⟨?_, (Ext.refl _ _)⟩⟩
        · unfold chkNet; first | rw [if_pos (by omega)] | (rw [if_neg (by omega), if_pos (by omega)])
      · refine lx_assign (.bool false) rfl rfl <| lx_nil <| wi_false rfl <| wi_skip <| wi_inBlock <| wi_seq <| wi_seq <| wi_reg rfl <| lx_move (vl) rfl rfl <| lx_len rfl Try.underlying22 hr_vl rfl <| lx_move (.int .i64 0) rfl rfl <| lx_nil <| wi_block <| ?_
        refine wi_loop (σ := Nat) (rngB 22 31 [6, 8]) (fun (i : Nat) => [(22, .int .i64 ((i : Nat) : Int))]) (fun (i : Nat) (hh : Heap) => Ext h.size h hh ∧ Blk hh bp #[.int .i64 n] 3 ∧ (i ≤ ls.length) ∧ (∀ j, j < i → validC n (gt ls j) = true)) (fun (i : Nat) => ls.length - i) 0 ⟨rfl, trivial⟩ ⟨(Ext.refl _ _), ?_, ?_, ?_⟩ ?_
        · exact hb_bp
        · try dsimp only
          omega
        · try dsimp only
          intro j hj; omega
        rintro g1 i hh1 ⟨hx0_1, hbk1, hi, he⟩ IH1
        refine wi_seq <| wi_reg rfl <| lx_lssS rfl rfl rfl (fun c4 => ?_) (fun c4 => ?_)
        · refine lx_nil <| wi_seq <| wi_true rfl <| wi_skip <| wi_seq <| wi_block <| wi_seq <| wi_reg rfl <| lx_ix (i := i) rfl eT22 hr_vl rfl rfl (by first | omega | (simp only [List.length_set, List.length_append, List.length_cons, List.length_nil, List.length_replicate, List.length_take, swp_length, exch_length]; omega)) <| lx_ldA (i := i) [.int .i64 ((gt ls i).1), .int .i64 ((gt ls i).2)] rfl rfl wd85 (hr_vl.extS hx0_1) (by first | omega | (simp only [List.length_set, List.length_append, List.length_cons, List.length_nil, List.length_replicate, List.length_take, swp_length, exch_length]; omega)) rfl rfl <| lx_alloc rfl rfl Try.zeroValue85 (fun _ _ _ => trivial) fun bn1 h1 hbn1 hbk2 hx1 hsz1 => ?_
          have hbb1 : h.size ≤ bn1 := by have := hx0_1.size; omega
          have hne1 : bn1 ≠ bp := by have := hbk1.lt; omega
          have hx0_2 := hx0_1.trans2 hx1 hx0_1.size
          have hb1 := hbk1.extS hx1
          have hbk2 : Blk h1 bn1 #[.int .i64 0, .int .i64 0] 85 := hbk2
          refine lx_stBA (#[.int .i64 ((gt ls i).1), .int .i64 ((gt ls i).2)]) rfl rfl Try.sizeOf85 hbk2 rfl rfl rfl rfl (by simp [Value.oneCell']) (fun _ _ _ _ => trivial) fun h2 hbk3 hc1 => ?_
          have hx0_3 := hx0_2.trans (hc1.ext hbb1)
          have hb2 := hc1.blk hb1 (Ne.symm hne1)
          refine lx_nil <| wi_seq <| wi_reg rfl <| lx_move (.func (.func 155) #[] #[.pointer (some ⟨bp, 0, none⟩)]) rfl rfl <| lx_ldBA rfl rfl wd85 hbk3 rfl rfl <| lx_callV [] [.pointer (some ⟨bp, 0, none⟩)] [.agg #[.int .i64 ((gt ls i).1), .int .i64 ((gt ls i).2)]] rfl rfl Try.call155 rfl rfl (check1_spec h2 ((gt ls i).1) ((gt ls i).2) n bp hb2) (fun _ _ _ => trivial) ?_
          rintro _ h3 ⟨rfl, hx2⟩
          have hx0_4 := hx0_3.trans2 hx2 hx0_3.size
          have hb3 := hb2.extS hx2
          have hb4 := hbk3.extS hx2
          refine lx_not rfl rfl <| lx_nil <| wi_condS (t := !(validC n (((gt ls i).1), ((gt ls i).2)))) rfl (fun c5 => ?_) (fun c5 => ?_)
          · refine wi_seq <| wi_reg rfl <| lx_assign (.int .i64 100) rfl rfl <| lx_nil <| ?_
            -- R4
            refine wi_ret ⟨.int .i64 100, (res_one rfl rfl), ⟨?_, hx0_4⟩⟩
            · rw [chkNet_bad c1 c2 c3 (i := i) (by omega) (by simpa using c5)]
          · refine wi_skip <| wi_inBlock <| wi_reg rfl <| lx_add (((i + 1 : Nat) : Int)) rfl rfl rfl (by omega) (by omega) (by omega) <| lx_move (.int .i64 ((i + 1 : Nat) : Int)) rfl rfl <| lx_nil <| ?_
            -- L1.1
            refine IH1 _ _ (i + 1) (agree_ups rfl agree_self) ⟨rfl, trivial⟩ ⟨hx0_4, ?_, ?_, ?_⟩ ?_
            · exact hb3
            · try dsimp only
              omega
            · try dsimp only
              intro j hj; by_cases hji : j = i
              · subst hji; simpa using c5
              · exact he j (by omega)
            · first | omega | (dsimp only; omega)
        · refine lx_nil <| wi_seq <| wi_false rfl <| wi_exit rfl <| wi_seq <| wi_reg rfl <| lx_assign (.int .i64 0) rfl rfl <| lx_nil <| ?_
          -- R5
          refine wi_ret ⟨.int .i64 0, (res_one rfl rfl), ⟨?_, hx0_1⟩⟩
          · rw [chkNet_all c1 c2 c3 (fun j hj => he j (by omega))]

set_option maxRecDepth 10000 in
theorem check_spec (h : Heap) (n : Int) (vl : Value) (ls : List (Int × Int)) (hr_vl : RdE encP h vl ls) (hp1 : ls.length ≤ 4611686018427387904) : Fx Try.prog 120 [.int .i64 n, vl] h (fun v h' => v = .int .i64 (chkNet validC n ls) ∧ Ext h.size h h') := by
  refine fx_intro (n := 9) [(0, .int .i64 n), (1, vl)] Try.func120 rfl rfl (by simp) ⟨rfl, rfl, trivial⟩ fun g0 => ?_
  refine wi_seq <| wi_reg rfl <| lx_box #[.int .i64 n] rfl rfl rfl (fun _ _ _ => trivial) fun bn1 h1 hbn1 hbk1 hx1 hsz1 => ?_
  have hbb1 : h.size ≤ bn1 := by have := (Nat.le_refl h.size); omega
  refine lx_assign (.int .i64 0) rfl rfl <| lx_nil <| wi_seq <| wi_reg rfl <| lx_ldB (.int .i64 n) rfl rfl fl3 hbk1 rfl rfl <| lx_move (vl) rfl rfl <| lx_makeFunc [] [.pointer (some ⟨bn1, 0, none⟩)] rfl rfl rfl <| lx_call [.int .i64 n, vl, .func (.func 155) #[] #[.pointer (some ⟨bn1, 0, none⟩)]] rfl rfl Try.call154 rfl (chk_check1_spec h1 n vl ls bn1 hbk1 (hr_vl.extS hx1) (by omega)) (fun _ _ _ => trivial) ?_
  rintro _ h2 ⟨rfl, hx2⟩
  have hx0_1 := hx1.trans2 hx2 hx1.size
  have hb1 := hbk1.extS hx2
  refine lx_assign (.int .i64 (chkNet validC n ls)) rfl rfl <| lx_nil <| ?_
  -- R1
  refine wi_ret ⟨.int .i64 (chkNet validC n ls), (res_one rfl rfl), ⟨rfl, hx0_1⟩⟩

set_option maxRecDepth 10000 in
theorem patterns_spec (h : Heap) (n : Nat) (hp1 : n ≤ 10) : Fx Try.prog 156 [.int .i64 ((n : Nat) : Int)] h (fun v h' => ∃ (ws : List Nat), v = .agg (wc ws) ∧ (Wi (patF n) ws) ∧ Ext h.size h h') := by
  refine fx_intro (n := 38) [(0, .int .i64 ((n : Nat) : Int))] Try.func156 rfl rfl (by simp) ⟨rfl, trivial⟩ fun g0 => ?_
  refine wi_seq <| wi_reg rfl <| lx_alloc rfl rfl Try.zeroValue153 (fun _ _ _ => trivial) fun bn1 h1 hbn1 hbk1 hx1 hsz1 => ?_
  have hbb1 : h.size ≤ bn1 := by have := (Nat.le_refl h.size); omega
  have hbk1 : Blk h1 bn1 (wc (List.replicate 160 0)) 153 := by rw [← zc153]; exact hbk1
  refine lx_nil <| wi_seq <| wi_reg rfl <| lx_alloc rfl rfl Try.zeroValue153 (fun _ _ _ => trivial) fun bn2 h2 hbn2 hbk2 hx2 hsz2 => ?_
  have hbb2 : h.size ≤ bn2 := by have := hx1.size; omega
  have hne1 : bn2 ≠ bn1 := by have := hbk1.lt; omega
  have hx0_1 := hx1.trans2 hx2 hx1.size
  have hb1 := hbk1.extS hx2
  have hbk2 : Blk h2 bn2 (wc (List.replicate 160 0)) 153 := by rw [← zc153]; exact hbk2
  refine lx_nil <| wi_seq <| wi_seq <| wi_reg rfl <| ?_
  have hpw := pow10 hp1
  refine lx_move (.int .i64 ((n : Nat) : Int)) rfl rfl <| lx_conv ((n : Nat) : Int) rfl Try.underlying3 Try.underlying45 rfl (wrap_u64 (by omega) (by omega)) <| lx_shl (m := 1) (n := n) rfl rfl rfl (by show _ ≤ 64; omega) (wrap_i64 (by omega) (by omega)) <| lx_move (.int .i64 0) rfl rfl <| lx_nil <| wi_block <| ?_
  refine wi_loop (σ := Nat × (List Nat)) (rngB 9 37 [4, 5]) (fun (ss : Nat × (List Nat)) => [(9, .int .i64 ((ss.1 : Nat) : Int))]) (fun (ss : Nat × (List Nat)) (hh : Heap) => Ext h.size h hh ∧ Blk hh bn1 (wc (List.replicate 160 0)) 153 ∧ Blk hh bn2 (wc ss.2) 153 ∧ (ss.1 ≤ 2 ^ n) ∧ (Wi (fun k q => decide (k < n) && decide (q < ss.1) && q.testBit k) ss.2)) (fun (ss : Nat × (List Nat)) => 2 ^ n - ss.1) (0, List.replicate 160 0) ⟨rfl, trivial⟩ ⟨hx0_1, ?_, ?_, ?_, ?_⟩ ?_
  · exact hb1
  · exact hbk2
  · try dsimp only
    exact Nat.zero_le _
  · try dsimp only
    exact Wi_zero.congr (fun i _ p _ => by simp)
  rintro g1 ⟨p, ws⟩ hh1 ⟨hx0_2, hbk3, hbk4, hp, hw⟩ IH1
  dsimp only at *
  have hwl := hw.1
  refine wi_seq <| wi_reg rfl <| lx_lssS rfl rfl rfl (fun c1 => ?_) (fun c1 => ?_)
  · refine lx_nil <| wi_seq <| wi_true rfl <| wi_skip <| wi_seq <| wi_block <| wi_seq <| wi_reg rfl <| lx_move (.int .i64 ((p : Nat) : Int)) rfl rfl <| lx_assign (.int .i64 ((p : Nat) : Int)) rfl rfl <| lx_nil <| wi_seq <| wi_reg rfl <| lx_move (.int .i64 ((n : Nat) : Int)) rfl rfl <| lx_move (.int .i64 0) rfl rfl <| lx_nil <| wi_block <| ?_
    refine wi_loop (σ := Nat × (List Nat)) (rngB 13 36 [5]) (fun (ss : Nat × (List Nat)) => [(13, .int .i64 ((ss.1 : Nat) : Int))]) (fun (ss : Nat × (List Nat)) (hh : Heap) => Ext h.size h hh ∧ Blk hh bn1 (wc (List.replicate 160 0)) 153 ∧ Blk hh bn2 (wc ss.2) 153 ∧ (ss.1 ≤ n) ∧ (Wi (fun k q => decide (k < n) && (decide (q < p) || (decide (q = p) && decide (k < ss.1))) && q.testBit k) ss.2)) (fun (ss : Nat × (List Nat)) => n - ss.1) (0, ws) ⟨rfl, trivial⟩ ⟨hx0_2, ?_, ?_, ?_, ?_⟩ ?_
    · exact hbk3
    · exact hbk4
    · try dsimp only
      omega
    · try dsimp only
      exact hw.congr (fun i _ q _ => by simp)
    rintro g2 ⟨i, ws⟩ hh2 ⟨hx0_3, hbk5, hbk6, hi, hw2⟩ IH2
    dsimp only at *
    have hwl2 := hw2.1
    refine wi_seq <| wi_reg rfl <| lx_lssS rfl rfl rfl (fun c2 => ?_) (fun c2 => ?_)
    · refine lx_nil <| wi_seq <| wi_true rfl <| wi_skip <| wi_seq <| wi_block <| wi_seq <| wi_reg rfl <| lx_move (.int .i64 ((i : Nat) : Int)) rfl rfl <| lx_assign (.int .i64 ((i : Nat) : Int)) rfl rfl <| lx_nil <| wi_seq <| wi_reg rfl <| ?_
      have hdv : p / 2 ^ i ≤ p := Nat.div_le_self _ _
      have hbl : p / 2 ^ i &&& 1 ≤ 1 := Nat.and_le_right
      refine lx_move (.int .i64 ((p : Nat) : Int)) rfl rfl <| lx_move (.int .i64 ((i : Nat) : Int)) rfl rfl <| lx_conv ((i : Nat) : Int) rfl Try.underlying3 Try.underlying45 rfl (wrap_u64 (by omega) (by omega)) <| lx_shr (m := p) (n := i) rfl rfl rfl (by show _ ≤ 64; omega) <| lx_and (m := p / 2 ^ i) (n := 1) rfl rfl rfl (by show _ < 2 ^ 64; omega) (by show _ < 2 ^ 64; omega) (wrap_i64 (by omega) (by omega)) <| lx_eqlS rfl rfl rfl (fun c3 => ?_) (fun c3 => ?_)
      · refine lx_nil <| wi_true rfl <| wi_draw mo rfl (by decide +kernel) <| ?_
        have hp64 := pow64 (show p % 64 < 64 by omega)
        have hw1 := hw2.2.1 (i * 16 + p / 64) (by omega)
        have hor : gt ws (i * 16 + p / 64) ||| 1 * 2 ^ (p % 64) < 2 ^ 64 := or_lt64 hw1 (by omega)
        refine lx_move (.int .i64 ((i : Nat) : Int)) rfl rfl <| lx_move (.int .i64 ((p : Nat) : Int)) rfl rfl <| lx_quo (m := p) (n := 64) rfl rfl rfl (by omega) (wrap_quo_i64 (by omega)) <| lx_ixB (i := i) (i * 16) rfl Try.underlying153 Try.sizeOf151 rfl rfl (by omega) (by omega) <| lx_ixB (i := p / 64) (i * 16 + (p / 64)) rfl Try.underlying151 Try.sizeOf149 rfl rfl (by omega) (by omega) <| lx_ldB (.int .u64 ((gt ws (i * 16 + (p / 64)) : Nat) : Int)) rfl rfl fl149 hbk6 (wc_get (by first | omega | (simp only [List.length_set, List.length_append, List.length_cons, List.length_nil, List.length_replicate, List.length_take, swp_length, exch_length]; omega))) rfl <| lx_move (.int .i64 ((p : Nat) : Int)) rfl rfl <| lx_rem (m := p) (n := 64) rfl rfl rfl (by omega) <| lx_conv ((p % 64 : Nat) : Int) rfl Try.underlying3 Try.underlying45 rfl (wrap_u64 (by omega) (by omega)) <| lx_shl (m := 1) (n := p % 64) rfl rfl rfl (by show _ ≤ 64; omega) (wrap_u64 (by omega) (by omega)) <| lx_or (m := gt ws (i * 16 + (p / 64))) (n := 1 * 2 ^ (p % 64)) rfl rfl rfl (by show _ < 2 ^ 64; omega) (by show _ < 2 ^ 64; omega) (wrap_u64 (by omega) (by omega)) <| lx_ixB (i := i) (i * 16) rfl Try.underlying153 Try.sizeOf151 rfl rfl (by omega) (by omega) <| lx_ixB (i := p / 64) (i * 16 + (p / 64)) rfl Try.underlying151 Try.sizeOf149 rfl rfl (by omega) (by omega) <| lx_stB (.int .u64 (((gt ws (i * 16 + (p / 64))) ||| (1 * 2 ^ (p % 64)) : Nat) : Int)) rfl rfl Try.sizeOf149 hbk6 (by rw [wc_size]; first | omega | (simp only [List.length_set, List.length_append, List.length_cons, List.length_nil, List.length_replicate, List.length_take, swp_length, exch_length]; omega)) rfl rfl rfl rfl (fun _ _ _ _ => trivial) fun h3 hbk7 hc1 => ?_
        have hx0_4 := hx0_3.trans (hc1.ext hbb2)
        have hb2 := hc1.blk hbk5 (Ne.symm hne1)
        rw [wc_set] at hbk7
        refine lx_nil <| wi_inBlock <| wi_reg rfl <| lx_add (((i + 1 : Nat) : Int)) rfl rfl rfl (by omega) (by omega) (by omega) <| lx_move (.int .i64 ((i + 1 : Nat) : Int)) rfl rfl <| lx_nil <| ?_
        -- L2.1
        refine IH2 _ _ (i + 1, ws.set (i * 16 + (p / 64)) ((gt ws (i * 16 + (p / 64))) ||| (1 * 2 ^ (p % 64)))) (agree_ups rfl agree_self) ⟨rfl, trivial⟩ ⟨hx0_4, ?_, ?_, ?_, ?_⟩ ?_
        · exact hb2
        · exact hbk7
        · try dsimp only
          omega
        · try dsimp only
          refine (Wi_set hw2 (i := i) (p := p) (by omega) (by omega)).congr (fun k hk q hq => ?_)
          exact pat_step (by omega) (by have := bit_and_one p i; by_cases hb : p.testBit i = true
                                        · exact hb
                                        · rw [if_neg hb] at this; omega) k q
        · first | omega | (dsimp only; omega)
      · refine lx_nil <| wi_false rfl <| wi_skip <| wi_inBlock <| wi_reg rfl <| lx_add (((i + 1 : Nat) : Int)) rfl rfl rfl (by omega) (by omega) (by omega) <| lx_move (.int .i64 ((i + 1 : Nat) : Int)) rfl rfl <| lx_nil <| ?_
        -- L2.2
        refine IH2 _ _ (i + 1, ws) (agree_ups rfl agree_self) ⟨rfl, trivial⟩ ⟨hx0_3, ?_, ?_, ?_, ?_⟩ ?_
        · exact hbk5
        · exact hbk6
        · try dsimp only
          omega
        · try dsimp only
          refine hw2.congr (fun k hk q hq => ?_)
          exact pat_skip (by have := bit_and_one p i; cases hb : p.testBit i
                             · rfl
                             · rw [if_pos hb] at this; omega) k q
        · first | omega | (dsimp only; omega)
    · refine lx_nil <| wi_seq <| wi_false rfl <| wi_exit rfl <| wi_inBlock <| wi_reg rfl <| lx_add (((p + 1 : Nat) : Int)) rfl rfl rfl (by omega) (by omega) (by omega) <| lx_move (.int .i64 ((p + 1 : Nat) : Int)) rfl rfl <| lx_nil <| ?_
      -- L0.1
      refine IH1 _ _ (p + 1, ws) (agree_ups rfl (agree_mix (rngB_sub (by decide) (by decide) rfl) (agree_ups rfl agree_self))) ⟨rfl, trivial⟩ ⟨hx0_3, ?_, ?_, ?_, ?_⟩ ?_
      · exact hbk5
      · exact hbk6
      · try dsimp only
        omega
      · try dsimp only
        refine hw2.congr (fun k hk q hq => ?_)
        exact pat_all (by omega) k q
      · first | omega | (dsimp only; omega)
  · refine lx_nil <| wi_seq <| wi_false rfl <| wi_exit rfl <| wi_seq <| wi_reg rfl <| lx_ldBA rfl rfl wd153 hbk4 (by rw [wc_size]; first | omega | (simp; done) | (simp; omega)) rfl <| lx_stBA (wc ws) rfl rfl Try.sizeOf153 hbk3 (by rw [wc_size]; first | omega | (simp; done) | (simp; omega)) (by rw [wc_size]; first | omega | (simp; done) | (simp; omega)) rfl rfl (wc_one _) (fun _ _ _ _ => trivial) fun h4 hbk8 hc2 => ?_
    have hx0_5 := hx0_2.trans (hc2.ext hbb1)
    have hb3 := hc2.blk hbk4 hne1
    refine lx_nil <| ?_
    -- R1
    refine wi_ret ⟨.agg (wc ws), (res_cell rfl rfl hbk8 wd153 (by rw [wc_size]; first | omega | (simp; done) | (simp; omega))), ⟨ws, rfl, ?_, hx0_5⟩⟩
    · refine hw.congr (fun k hk q hq => ?_)
      unfold patF
      rw [show p = 2 ^ n from by omega]

set_option maxRecDepth 10000 in
theorem wexch_spec (h : Heap) (i : Nat) (j : Nat) (ws : List Nat) (f : WF) (bn : Nat) (hb_bn : Blk h bn (wc ws) 153) (hp1 : Wi f ws) (hp2 : i < 10) (hp3 : j < 10) (hp4 : i ≠ j) : Fx Try.prog 157 [.pointer (some ⟨bn, 0, none⟩), .int .i64 ((i : Nat) : Int), .int .i64 ((j : Nat) : Int)] h (fun v h' => ∃ (us : List Nat), v = .bool (exC ws i j 16) ∧ Blk h' bn (wc us) 153 ∧ (Wi (exF f i j) us) ∧ ChgB bn h h') := by
  have hwl := hp1.1
  refine fx_intro (n := 54) [(0, .pointer (some ⟨bn, 0, none⟩)), (1, .int .i64 ((i : Nat) : Int)), (2, .int .i64 ((j : Nat) : Int))] Try.func157 rfl rfl (by simp) ⟨rfl, rfl, rfl, trivial⟩ fun g0 => ?_
  refine wi_seq <| wi_reg rfl <| lx_assign (.bool false) rfl rfl <| lx_nil <| wi_seq <| wi_reg rfl <| lx_assign (.bool false) rfl rfl <| lx_nil <| wi_seq <| wi_seq <| wi_reg rfl <| lx_move (.pointer (some ⟨bn, 0, none⟩)) rfl rfl <| lx_move (.int .i64 ((i : Nat) : Int)) rfl rfl <| lx_nilCheck ⟨bn, 0, none⟩ rfl rfl <| lx_ixB (i := i) (i * 16) rfl Try.underlying153 Try.sizeOf151 rfl rfl (by omega) (by omega) <| lx_ldBP (((ws.drop (i * 16)).take 16).map (fun x : Nat => Value.int .u64 (x : Int))) rfl rfl wd151 hb_bn (by simp; omega) wc_partc rfl <| lx_move (.int .i64 0) rfl rfl <| lx_nil <| wi_block <| ?_
  refine wi_loop (σ := Nat × (List Nat) × Bool) (rngB 16 53 [7, 8, 9, 10]) (fun (ss : Nat × (List Nat) × Bool) => [(16, .int .i64 ((ss.1 : Nat) : Int)), (7, .bool ss.2.2)]) (fun (ss : Nat × (List Nat) × Bool) (hh : Heap) => ChgB bn h hh ∧ Blk hh bn (wc ss.2.1) 153 ∧ (ss.1 ≤ 16) ∧ (exW ws i j ss.1 ss.2.1) ∧ (ss.2.2 = exC ws i j ss.1)) (fun (ss : Nat × (List Nat) × Bool) => 16 - ss.1) (0, ws, false) ⟨rfl, rfl, trivial⟩ ⟨(ChgB.refl _ _), ?_, ?_, ?_, ?_⟩ ?_
  · exact hb_bn
  · try dsimp only
    omega
  · try dsimp only
    exact exW_zero hwl
  · try dsimp only
    first | done | rfl
  rintro g1 ⟨k, us, c⟩ hh1 ⟨hcb1, hbk1, hk, hex, hc⟩ IH1
  dsimp only at *
  have hul := hex.1
  have hwu : ∀ q, q < 160 → gt us q < 2 ^ 64 := exW_lt hp1 hp2 hp3 hex
  refine wi_seq <| wi_reg rfl <| lx_lssS rfl rfl rfl (fun c1 => ?_) (fun c1 => ?_)
  · refine lx_nil <| wi_seq <| wi_true rfl <| wi_skip <| wi_seq <| wi_block <| wi_seq <| wi_reg rfl <| lx_move (.int .i64 ((k : Nat) : Int)) rfl rfl <| lx_index (i := k) (.int .u64 ((gt ws (i * 16 + k) : Nat) : Int)) rfl Try.underlying151 Try.sizeOf149 fl149 rfl rfl (by omega) (wc_part (by omega) (by omega)) <| lx_assign (.int .i64 ((k : Nat) : Int)) rfl rfl <| lx_assign (.int .u64 ((gt ws (i * 16 + k) : Nat) : Int)) rfl rfl <| lx_nil <| wi_seq <| wi_reg rfl <| lx_move (.pointer (some ⟨bn, 0, none⟩)) rfl rfl <| lx_move (.int .i64 ((j : Nat) : Int)) rfl rfl <| lx_move (.int .i64 ((k : Nat) : Int)) rfl rfl <| lx_nilCheck ⟨bn, 0, none⟩ rfl rfl <| lx_ixB (i := j) (j * 16) rfl Try.underlying153 Try.sizeOf151 rfl rfl (by omega) (by omega) <| lx_ixB (i := k) (j * 16 + k) rfl Try.underlying151 Try.sizeOf149 rfl rfl (by omega) (by omega) <| lx_ldB (.int .u64 ((gt us (j * 16 + k) : Nat) : Int)) rfl rfl fl149 hbk1 (wc_get (by first | omega | (simp only [List.length_set, List.length_append, List.length_cons, List.length_nil, List.length_replicate, List.length_take, swp_length, exch_length]; omega))) rfl <| lx_assign (.int .u64 ((gt us (j * 16 + k) : Nat) : Int)) rfl rfl <| lx_nil <| wi_seq <| wi_reg rfl <| ?_
    have hb1 := hp1.2.1 (i * 16 + k) (by omega)
    have hb2 := hwu (j * 16 + k) (by omega)
    have hb3 := @andNot_lt _ (gt us (j * 16 + k)) hb1
    refine lx_move (.bool c) rfl rfl <| lx_move (.bool c) rfl rfl <| ?_
    cases c2 : c
    · refine lx_move (.int .u64 ((gt ws (i * 16 + k) : Nat) : Int)) rfl rfl <| lx_move (.int .u64 ((gt us (j * 16 + k) : Nat) : Int)) rfl rfl <| lx_andNot (m := gt ws (i * 16 + k)) (n := gt us (j * 16 + k)) rfl rfl rfl (by show _ < 2 ^ 64; omega) (by show _ < 2 ^ 64; omega) (wrap_u64 (by omega) (by omega)) <| lx_neq rfl rfl rfl <| lx_pick false (.bool (decide (((andNot (gt ws (i * 16 + k)) (gt us (j * 16 + k)) : Nat) : Int) ≠ (0 : Int)))) rfl rfl rfl <| lx_assign (.bool (decide (((andNot (gt ws (i * 16 + k)) (gt us (j * 16 + k)) : Nat) : Int) ≠ (0 : Int)))) rfl rfl <| lx_nil <| wi_draw mo rfl (by decide +kernel) <| ?_
      have hb4 := @and_lt64 _ (gt us (j * 16 + k)) hb1
      have hb5 := or_lt64 hb1 hb2
      refine lx_move (.pointer (some ⟨bn, 0, none⟩)) rfl rfl <| lx_move (.int .i64 ((i : Nat) : Int)) rfl rfl <| lx_move (.int .i64 ((k : Nat) : Int)) rfl rfl <| lx_move (.pointer (some ⟨bn, 0, none⟩)) rfl rfl <| lx_move (.int .i64 ((j : Nat) : Int)) rfl rfl <| lx_move (.int .i64 ((k : Nat) : Int)) rfl rfl <| lx_move (.int .u64 ((gt ws (i * 16 + k) : Nat) : Int)) rfl rfl <| lx_move (.int .u64 ((gt us (j * 16 + k) : Nat) : Int)) rfl rfl <| lx_and (m := gt ws (i * 16 + k)) (n := gt us (j * 16 + k)) rfl rfl rfl (by show _ < 2 ^ 64; omega) (by show _ < 2 ^ 64; omega) (wrap_u64 (by omega) (by omega)) <| lx_move (.int .u64 ((gt ws (i * 16 + k) : Nat) : Int)) rfl rfl <| lx_move (.int .u64 ((gt us (j * 16 + k) : Nat) : Int)) rfl rfl <| lx_or (m := gt ws (i * 16 + k)) (n := gt us (j * 16 + k)) rfl rfl rfl (by show _ < 2 ^ 64; omega) (by show _ < 2 ^ 64; omega) (wrap_u64 (by omega) (by omega)) <| lx_nilCheck ⟨bn, 0, none⟩ rfl rfl <| lx_ixB (i := i) (i * 16) rfl Try.underlying153 Try.sizeOf151 rfl rfl (by omega) (by omega) <| lx_ixB (i := k) (i * 16 + k) rfl Try.underlying151 Try.sizeOf149 rfl rfl (by omega) (by omega) <| lx_stB (.int .u64 (((gt ws (i * 16 + k)) &&& (gt us (j * 16 + k)) : Nat) : Int)) rfl rfl Try.sizeOf149 hbk1 (by rw [wc_size]; first | omega | (simp only [List.length_set, List.length_append, List.length_cons, List.length_nil, List.length_replicate, List.length_take, swp_length, exch_length]; omega)) rfl rfl rfl rfl (fun _ _ _ _ => trivial) fun h1 hbk2 hc1 => ?_
      have hx0_1 := hc1.ext (Nat.le_refl _)
      have hcb2 := hcb1.trans hc1
      rw [wc_set] at hbk2
      refine lx_nilCheck ⟨bn, 0, none⟩ rfl rfl <| lx_ixB (i := j) (j * 16) rfl Try.underlying153 Try.sizeOf151 rfl rfl (by omega) (by omega) <| lx_ixB (i := k) (j * 16 + k) rfl Try.underlying151 Try.sizeOf149 rfl rfl (by omega) (by omega) <| lx_stB (.int .u64 (((gt ws (i * 16 + k)) ||| (gt us (j * 16 + k)) : Nat) : Int)) rfl rfl Try.sizeOf149 hbk2 (by rw [wc_size]; first | omega | (simp only [List.length_set, List.length_append, List.length_cons, List.length_nil, List.length_replicate, List.length_take, swp_length, exch_length]; omega)) rfl rfl rfl rfl (fun _ _ _ _ => trivial) fun h2 hbk3 hc2 => ?_
      have hx0_2 := hx0_1.trans (hc2.ext (Nat.le_refl _))
      have hcb3 := hcb2.trans hc2
      rw [wc_set] at hbk3
      refine lx_nil <| wi_inBlock <| wi_reg rfl <| lx_add (((k + 1 : Nat) : Int)) rfl rfl rfl (by omega) (by omega) (by omega) <| lx_move (.int .i64 ((k + 1 : Nat) : Int)) rfl rfl <| lx_nil <| ?_
      -- L0.1
      refine IH1 _ _ (k + 1, (us.set (i * 16 + k) ((gt ws (i * 16 + k)) &&& (gt us (j * 16 + k)))).set (j * 16 + k) ((gt ws (i * 16 + k)) ||| (gt us (j * 16 + k))), decide (((andNot (gt ws (i * 16 + k)) (gt us (j * 16 + k)) : Nat) : Int) ≠ (0 : Int))) (agree_ups rfl agree_self) ⟨rfl, rfl, trivial⟩ ⟨hcb3, ?_, ?_, ?_, ?_⟩ ?_
      · exact hbk3
      · try dsimp only
        omega
      · try dsimp only
        exact exW_step hp4 hp2 hp3 (by omega) hex
      · try dsimp only
        have hej := exW_j hp4 hp3 (show k < 16 by omega) hex
        rw [exC_succ, ← hc, ← hej]
        clear hc
        simp [*]
      · first | omega | (dsimp only; omega)
    · refine lx_skip rfl <| lx_skip rfl <| lx_skip rfl <| lx_skip rfl <| lx_pick true (.bool true) rfl rfl rfl <| lx_assign (.bool true) rfl rfl <| lx_nil <| wi_draw mo rfl (by decide +kernel) <| ?_
      have hb4 := @and_lt64 _ (gt us (j * 16 + k)) hb1
      have hb5 := or_lt64 hb1 hb2
      refine lx_move (.pointer (some ⟨bn, 0, none⟩)) rfl rfl <| lx_move (.int .i64 ((i : Nat) : Int)) rfl rfl <| lx_move (.int .i64 ((k : Nat) : Int)) rfl rfl <| lx_move (.pointer (some ⟨bn, 0, none⟩)) rfl rfl <| lx_move (.int .i64 ((j : Nat) : Int)) rfl rfl <| lx_move (.int .i64 ((k : Nat) : Int)) rfl rfl <| lx_move (.int .u64 ((gt ws (i * 16 + k) : Nat) : Int)) rfl rfl <| lx_move (.int .u64 ((gt us (j * 16 + k) : Nat) : Int)) rfl rfl <| lx_and (m := gt ws (i * 16 + k)) (n := gt us (j * 16 + k)) rfl rfl rfl (by show _ < 2 ^ 64; omega) (by show _ < 2 ^ 64; omega) (wrap_u64 (by omega) (by omega)) <| lx_move (.int .u64 ((gt ws (i * 16 + k) : Nat) : Int)) rfl rfl <| lx_move (.int .u64 ((gt us (j * 16 + k) : Nat) : Int)) rfl rfl <| lx_or (m := gt ws (i * 16 + k)) (n := gt us (j * 16 + k)) rfl rfl rfl (by show _ < 2 ^ 64; omega) (by show _ < 2 ^ 64; omega) (wrap_u64 (by omega) (by omega)) <| lx_nilCheck ⟨bn, 0, none⟩ rfl rfl <| lx_ixB (i := i) (i * 16) rfl Try.underlying153 Try.sizeOf151 rfl rfl (by omega) (by omega) <| lx_ixB (i := k) (i * 16 + k) rfl Try.underlying151 Try.sizeOf149 rfl rfl (by omega) (by omega) <| lx_stB (.int .u64 (((gt ws (i * 16 + k)) &&& (gt us (j * 16 + k)) : Nat) : Int)) rfl rfl Try.sizeOf149 hbk1 (by rw [wc_size]; first | omega | (simp only [List.length_set, List.length_append, List.length_cons, List.length_nil, List.length_replicate, List.length_take, swp_length, exch_length]; omega)) rfl rfl rfl rfl (fun _ _ _ _ => trivial) fun h3 hbk4 hc3 => ?_
      have hx0_3 := hc3.ext (Nat.le_refl _)
      have hcb4 := hcb1.trans hc3
      rw [wc_set] at hbk4
      refine lx_nilCheck ⟨bn, 0, none⟩ rfl rfl <| lx_ixB (i := j) (j * 16) rfl Try.underlying153 Try.sizeOf151 rfl rfl (by omega) (by omega) <| lx_ixB (i := k) (j * 16 + k) rfl Try.underlying151 Try.sizeOf149 rfl rfl (by omega) (by omega) <| lx_stB (.int .u64 (((gt ws (i * 16 + k)) ||| (gt us (j * 16 + k)) : Nat) : Int)) rfl rfl Try.sizeOf149 hbk4 (by rw [wc_size]; first | omega | (simp only [List.length_set, List.length_append, List.length_cons, List.length_nil, List.length_replicate, List.length_take, swp_length, exch_length]; omega)) rfl rfl rfl rfl (fun _ _ _ _ => trivial) fun h4 hbk5 hc4 => ?_
      have hx0_4 := hx0_3.trans (hc4.ext (Nat.le_refl _))
      have hcb5 := hcb4.trans hc4
      rw [wc_set] at hbk5
      refine lx_nil <| wi_inBlock <| wi_reg rfl <| lx_add (((k + 1 : Nat) : Int)) rfl rfl rfl (by omega) (by omega) (by omega) <| lx_move (.int .i64 ((k + 1 : Nat) : Int)) rfl rfl <| lx_nil <| ?_
      -- L0.2
      refine IH1 _ _ (k + 1, (us.set (i * 16 + k) ((gt ws (i * 16 + k)) &&& (gt us (j * 16 + k)))).set (j * 16 + k) ((gt ws (i * 16 + k)) ||| (gt us (j * 16 + k))), true) (agree_ups rfl agree_self) ⟨rfl, rfl, trivial⟩ ⟨hcb5, ?_, ?_, ?_, ?_⟩ ?_
      · exact hbk5
      · try dsimp only
        omega
      · try dsimp only
        exact exW_step hp4 hp2 hp3 (by omega) hex
      · try dsimp only
        have hej := exW_j hp4 hp3 (show k < 16 by omega) hex
        rw [exC_succ, ← hc, ← hej]
        clear hc
        simp [*]
      · first | omega | (dsimp only; omega)
  · refine lx_nil <| wi_seq <| wi_false rfl <| wi_exit rfl <| wi_seq <| wi_reg rfl <| lx_move (.bool c) rfl rfl <| lx_assign (.bool c) rfl rfl <| lx_nil <| ?_
    -- R1
    refine wi_ret ⟨.bool c, (res_one rfl rfl), ⟨us, ?_, ?_, ?_, hcb1⟩⟩
    · rw [hc, show k = 16 from by omega]
    · exact hbk1
    · exact Wi_ex hp4 hp2 hp3 hp1 (by rw [show 16 = k from by omega]; exact hex)

set_option maxRecDepth 10000 in
theorem wpat_spec (h : Heap) (n : Nat) (p : Nat) (ws : List Nat) (f : WF) (bn : Nat) (hb_bn : Blk h bn (wc ws) 153) (hp1 : Wi f ws) (hp2 : n ≤ 10) (hp3 : p < 1024) : Fx Try.prog 122 [.pointer (some ⟨bn, 0, none⟩), .int .i64 ((n : Nat) : Int), .int .i64 ((p : Nat) : Int)] h (fun v h' => v = .int .i64 ((colN n (fun i => f i p) : Nat) : Int) ∧ h = h') := by
  have hwl := hp1.1
  refine fx_intro (n := 34) [(0, .pointer (some ⟨bn, 0, none⟩)), (1, .int .i64 ((n : Nat) : Int)), (2, .int .i64 ((p : Nat) : Int))] Try.func122 rfl rfl (by simp) ⟨rfl, rfl, rfl, trivial⟩ fun g0 => ?_
  refine wi_seq <| wi_reg rfl <| lx_assign (.int .i64 0) rfl rfl <| lx_nil <| wi_seq <| wi_reg rfl <| lx_assign (.int .i64 0) rfl rfl <| lx_nil <| wi_seq <| wi_seq <| wi_reg rfl <| lx_move (.int .i64 ((n : Nat) : Int)) rfl rfl <| lx_move (.int .i64 0) rfl rfl <| lx_nil <| wi_block <| ?_
  refine wi_loop (σ := Nat × Nat) (rngB 10 33 [7, 8]) (fun (ss : Nat × Nat) => [(10, .int .i64 ((ss.1 : Nat) : Int)), (7, .int .i64 ((ss.2 : Nat) : Int))]) (fun (ss : Nat × Nat) (hh : Heap) => h = hh ∧ (ss.1 ≤ n) ∧ (ss.2 = colN ss.1 (fun k => f k p))) (fun (ss : Nat × Nat) => n - ss.1) (0, 0) ⟨rfl, rfl, trivial⟩ ⟨rfl, ?_, ?_⟩ ?_
  · try dsimp only
    omega
  · try dsimp only
    first | done | rfl
  rintro g1 ⟨i, o⟩ hh1 ⟨rfl, hi, ho⟩ IH1
  dsimp only at *
  refine wi_seq <| wi_reg rfl <| lx_lssS rfl rfl rfl (fun c1 => ?_) (fun c1 => ?_)
  · refine lx_nil <| wi_seq <| wi_true rfl <| wi_skip <| wi_seq <| wi_block <| wi_seq <| wi_reg rfl <| lx_move (.int .i64 ((i : Nat) : Int)) rfl rfl <| lx_assign (.int .i64 ((i : Nat) : Int)) rfl rfl <| lx_nil <| wi_reg rfl <| ?_
    have hb1 := hp1.2.1 (i * 16 + p / 64) (by omega)
    have hd := Nat.div_le_self (gt ws (i * 16 + p / 64)) (2 ^ (p % 64))
    have hb2 : gt ws (i * 16 + p / 64) / 2 ^ (p % 64) &&& 1 ≤ 1 := Nat.and_le_right
    have hpi := pow10 (show i ≤ 10 by omega)
    have hb3 := bit_and_one (gt ws (i * 16 + p / 64)) (p % 64)
    rw [hp1.2.2 i (by omega) p (by omega)] at hb3
    have h2i := Nat.two_pow_pos i
    have hb4 : (gt ws (i * 16 + p / 64) / 2 ^ (p % 64) &&& 1) * 2 ^ i ≤ 2 ^ i := by rw [hb3]; split <;> omega
    have hc1 := colN_lt i (fun i => f i p)
    have hor := @colN_or i (fun i => f i p) (gt ws (i * 16 + p / 64) / 2 ^ (p % 64) &&& 1)
    rw [← ho] at hor hc1
    refine lx_move (.int .i64 ((o : Nat) : Int)) rfl rfl <| lx_move (.pointer (some ⟨bn, 0, none⟩)) rfl rfl <| lx_move (.int .i64 ((i : Nat) : Int)) rfl rfl <| lx_move (.int .i64 ((p : Nat) : Int)) rfl rfl <| lx_quo (m := p) (n := 64) rfl rfl rfl (by omega) (wrap_quo_i64 (by omega)) <| lx_nilCheck ⟨bn, 0, none⟩ rfl rfl <| lx_ixB (i := i) (i * 16) rfl Try.underlying153 Try.sizeOf151 rfl rfl (by omega) (by omega) <| lx_ixB (i := p / 64) (i * 16 + (p / 64)) rfl Try.underlying151 Try.sizeOf149 rfl rfl (by omega) (by omega) <| lx_ldB (.int .u64 ((gt ws (i * 16 + (p / 64)) : Nat) : Int)) rfl rfl fl149 hb_bn (wc_get (by first | omega | (simp only [List.length_set, List.length_append, List.length_cons, List.length_nil, List.length_replicate, List.length_take, swp_length, exch_length]; omega))) rfl <| lx_move (.int .i64 ((p : Nat) : Int)) rfl rfl <| lx_rem (m := p) (n := 64) rfl rfl rfl (by omega) <| lx_conv ((p % 64 : Nat) : Int) rfl Try.underlying3 Try.underlying45 rfl (wrap_u64 (by omega) (by omega)) <| lx_shr (m := gt ws (i * 16 + (p / 64))) (n := p % 64) rfl rfl rfl (by show _ ≤ 64; omega) <| lx_and (m := (gt ws (i * 16 + (p / 64))) / 2 ^ (p % 64)) (n := 1) rfl rfl rfl (by show _ < 2 ^ 64; omega) (by show _ < 2 ^ 64; omega) (wrap_u64 (by omega) (by omega)) <| lx_conv ((((gt ws (i * 16 + (p / 64))) / 2 ^ (p % 64)) &&& 1 : Nat) : Int) rfl Try.underlying149 Try.underlying3 rfl (wrap_i64 (by omega) (by omega)) <| lx_move (.int .i64 ((i : Nat) : Int)) rfl rfl <| lx_conv ((i : Nat) : Int) rfl Try.underlying3 Try.underlying45 rfl (wrap_u64 (by omega) (by omega)) <| lx_shl (m := ((gt ws (i * 16 + (p / 64))) / 2 ^ (p % 64)) &&& 1) (n := i) rfl rfl rfl (by show _ ≤ 64; omega) (wrap_i64 (by omega) (by omega)) <| lx_or (m := o) (n := (((gt ws (i * 16 + (p / 64))) / 2 ^ (p % 64)) &&& 1) * 2 ^ i) rfl rfl rfl (by show _ < 2 ^ 64; omega) (by show _ < 2 ^ 64; omega) (wrap_i64 (by omega) (by omega)) <| lx_assign (.int .i64 ((o ||| ((((gt ws (i * 16 + (p / 64))) / 2 ^ (p % 64)) &&& 1) * 2 ^ i) : Nat) : Int)) rfl rfl <| lx_nil <| wi_inBlock <| wi_reg rfl <| lx_add (((i + 1 : Nat) : Int)) rfl rfl rfl (by omega) (by omega) (by omega) <| lx_move (.int .i64 ((i + 1 : Nat) : Int)) rfl rfl <| lx_nil <| ?_
    -- L0.1
    refine IH1 _ _ (i + 1, o ||| ((((gt ws (i * 16 + (p / 64))) / 2 ^ (p % 64)) &&& 1) * 2 ^ i)) (agree_ups rfl agree_self) ⟨rfl, rfl, trivial⟩ ⟨rfl, ?_, ?_⟩ ?_
    · try dsimp only
      omega
    · try dsimp only
      rw [hor, hb3, ho]; rfl
    · first | omega | (dsimp only; omega)
  · refine lx_nil <| wi_seq <| wi_false rfl <| wi_exit rfl <| wi_seq <| wi_reg rfl <| lx_move (.int .i64 ((o : Nat) : Int)) rfl rfl <| lx_assign (.int .i64 ((o : Nat) : Int)) rfl rfl <| lx_nil <| ?_
    -- R1
    refine wi_ret ⟨.int .i64 ((o : Nat) : Int), (res_one rfl rfl), ⟨?_, rfl⟩⟩
    · rw [ho, show i = n from by omega]

set_option maxRecDepth 10000 in
theorem run_spec (h : Heap) (n : Nat) (vl : Value) (ls : List (Int × Int)) (hr_vl : RdE encP h vl ls) (hp1 : n ≤ 10) (hp2 : ls.length ≤ 200) (hp3 : ∀ i, i < ls.length → validC n (gt ls i) = true) : Fx Try.prog 121 [.int .i64 ((n : Nat) : Int), vl] h (fun v h' => ∃ (ws : List Nat), v = .agg (wc ws) ∧ (Wi (runF ls (patF n)) ws) ∧ Ext h.size h h') := by
  refine fx_intro (n := 23) [(0, .int .i64 ((n : Nat) : Int)), (1, vl)] Try.func121 rfl rfl (by simp) ⟨rfl, rfl, trivial⟩ fun g0 => ?_
  refine wi_seq <| wi_reg rfl <| lx_alloc rfl rfl Try.zeroValue153 (fun _ _ _ => trivial) fun bn1 h1 hbn1 hbk1 hx1 hsz1 => ?_
  have hbb1 : h.size ≤ bn1 := by have := (Nat.le_refl h.size); omega
  have hbk1 : Blk h1 bn1 (wc (List.replicate 160 0)) 153 := by rw [← zc153]; exact hbk1
  refine lx_nil <| wi_seq <| wi_reg rfl <| lx_move (.int .i64 ((n : Nat) : Int)) rfl rfl <| lx_call [.int .i64 ((n : Nat) : Int)] rfl rfl Try.call156 rfl (patterns_spec h1 n (by omega)) (fun _ _ _ => trivial) ?_
  rintro _ h2 ⟨ws_1, rfl, hw_1, hx2⟩
  have hx0_1 := hx1.trans2 hx2 hx1.size
  have hb1 := hbk1.extS hx2
  have hwl_1 := hw_1.1
  refine lx_alloc rfl rfl Try.zeroValue153 (fun _ _ _ => trivial) fun bn2 h3 hbn2 hbk2 hx3 hsz2 => ?_
  have hbb2 : h.size ≤ bn2 := by have := hx0_1.size; omega
  have hne1 : bn2 ≠ bn1 := by have := hb1.lt; omega
  have hx0_2 := hx0_1.trans2 hx3 hx0_1.size
  have hb2 := hb1.extS hx3
  have hbk2 : Blk h3 bn2 (wc (List.replicate 160 0)) 153 := by rw [← zc153]; exact hbk2
  refine lx_stBA (wc ws_1) rfl rfl Try.sizeOf153 hbk2 (by rw [wc_size]; first | omega | (simp; done) | (simp; omega)) (by rw [wc_size]; first | omega | (simp; done) | (simp; omega)) rfl rfl (wc_one _) (fun _ _ _ _ => trivial) fun h4 hbk3 hc1 => ?_
  have hx0_3 := hx0_2.trans (hc1.ext hbb2)
  have hb3 := hc1.blk hb2 (Ne.symm hne1)
  refine lx_nil <| wi_seq <| wi_seq <| wi_reg rfl <| lx_move (vl) rfl rfl <| lx_len rfl Try.underlying22 hr_vl rfl <| lx_move (.int .i64 0) rfl rfl <| lx_nil <| wi_block <| ?_
  refine wi_loop (σ := Nat × (List Nat)) (rngB 12 22 [7]) (fun (ss : Nat × (List Nat)) => [(12, .int .i64 ((ss.1 : Nat) : Int))]) (fun (ss : Nat × (List Nat)) (hh : Heap) => Ext h.size h hh ∧ Blk hh bn1 (wc (List.replicate 160 0)) 153 ∧ Blk hh bn2 (wc ss.2) 153 ∧ (ss.1 ≤ ls.length) ∧ (Wi (runF (ls.take ss.1) (patF n)) ss.2)) (fun (ss : Nat × (List Nat)) => ls.length - ss.1) (0, ws_1) ⟨rfl, trivial⟩ ⟨hx0_3, ?_, ?_, ?_, ?_⟩ ?_
  · exact hb3
  · exact hbk3
  · try dsimp only
    omega
  · try dsimp only
    rw [List.take_zero]; exact hw_1
  rintro g1 ⟨i, ws⟩ hh1 ⟨hx0_4, hbk4, hbk5, hi, hw⟩ IH1
  dsimp only at *
  have hwl := hw.1
  refine wi_seq <| wi_reg rfl <| lx_lssS rfl rfl rfl (fun c1 => ?_) (fun c1 => ?_)
  · refine lx_nil <| wi_seq <| wi_true rfl <| wi_skip <| wi_seq <| wi_block <| wi_seq <| wi_reg rfl <| ?_
    obtain ⟨hv1, hv2, hv3, hv4⟩ := validC_nat (hp3 i (by omega))
    refine lx_ix (i := i) rfl eT22 hr_vl rfl rfl (by first | omega | (simp only [List.length_set, List.length_append, List.length_cons, List.length_nil, List.length_replicate, List.length_take, swp_length, exch_length]; omega)) <| lx_ldA (i := i) [.int .i64 (((gt ls i).1.toNat : Nat) : Int), .int .i64 (((gt ls i).2.toNat : Nat) : Int)] rfl rfl wd85 (hr_vl.extS hx0_4) (by first | omega | (simp only [List.length_set, List.length_append, List.length_cons, List.length_nil, List.length_replicate, List.length_take, swp_length, exch_length]; omega)) (by show [Value.int .i64 (gt ls i).1, .int .i64 (gt ls i).2] = _; rw [← hv1, ← hv2]) rfl <| lx_alloc rfl rfl Try.zeroValue85 (fun _ _ _ => trivial) fun bn3 h5 hbn3 hbk6 hx4 hsz3 => ?_
    have hbb3 : h.size ≤ bn3 := by have := hx0_4.size; omega
    have hne2 : bn3 ≠ bn1 := by have := hbk4.lt; omega
    have hne3 : bn3 ≠ bn2 := by have := hbk5.lt; omega
    have hx0_5 := hx0_4.trans2 hx4 hx0_4.size
    have hb4 := hbk4.extS hx4
    have hb5 := hbk5.extS hx4
    have hbk6 : Blk h5 bn3 #[.int .i64 0, .int .i64 0] 85 := hbk6
    refine lx_stBA (#[.int .i64 (((gt ls i).1.toNat : Nat) : Int), .int .i64 (((gt ls i).2.toNat : Nat) : Int)]) rfl rfl Try.sizeOf85 hbk6 rfl rfl rfl rfl (by simp [Value.oneCell']) (fun _ _ _ _ => trivial) fun h6 hbk7 hc2 => ?_
    have hx0_6 := hx0_5.trans (hc2.ext hbb3)
    have hb6 := hc2.blk hb4 (Ne.symm hne2)
    have hb7 := hc2.blk hb5 (Ne.symm hne3)
    refine lx_nil <| wi_reg rfl <| lx_ixB (i := 0) (0) rfl Try.underlying85 Try.sizeOf3 rfl rfl (by omega) rfl <| lx_ldB (.int .i64 (((gt ls i).1.toNat : Nat) : Int)) rfl rfl fl3 hbk7 rfl rfl <| lx_ixB (i := 1) (1) rfl Try.underlying85 Try.sizeOf3 rfl rfl (by omega) rfl <| lx_ldB (.int .i64 (((gt ls i).2.toNat : Nat) : Int)) rfl rfl fl3 hbk7 rfl rfl <| lx_call [.pointer (some ⟨bn2, 0, none⟩), .int .i64 (((gt ls i).1.toNat : Nat) : Int), .int .i64 (((gt ls i).2.toNat : Nat) : Int)] rfl rfl Try.call157 rfl (wexch_spec h6 ((gt ls i).1.toNat) ((gt ls i).2.toNat) ws (runF (ls.take i) (patF n)) bn2 hb7 hw (by omega) (by omega) (by omega)) (fun _ _ _ => trivial) ?_
    rintro _ h7 ⟨us_1, rfl, ho1, hw_2, hx5⟩
    have hx0_7 := hx0_6.trans (hx5.ext hbb2)
    have hb8 := hx5.blk hb6 (Ne.symm hne1)
    have hb9 := hx5.blk hbk7 hne3
    refine lx_nil <| wi_inBlock <| wi_reg rfl <| lx_add (((i + 1 : Nat) : Int)) rfl rfl rfl (by omega) (by omega) (by omega) <| lx_move (.int .i64 ((i + 1 : Nat) : Int)) rfl rfl <| lx_nil <| ?_
    -- L0.1
    refine IH1 _ _ (i + 1, us_1) (agree_ups rfl agree_self) ⟨rfl, trivial⟩ ⟨hx0_7, ?_, ?_, ?_, ?_⟩ ?_
    · exact hb8
    · exact ho1
    · try dsimp only
      omega
    · try dsimp only
      rw [runF_take (by omega)]; exact hw_2
    · first | omega | (dsimp only; omega)
  · refine lx_nil <| wi_seq <| wi_false rfl <| wi_exit rfl <| wi_seq <| wi_reg rfl <| lx_ldBA rfl rfl wd153 hbk5 (by rw [wc_size]; first | omega | (simp; done) | (simp; omega)) rfl <| lx_stBA (wc ws) rfl rfl Try.sizeOf153 hbk4 (by rw [wc_size]; first | omega | (simp; done) | (simp; omega)) (by rw [wc_size]; first | omega | (simp; done) | (simp; omega)) rfl rfl (wc_one _) (fun _ _ _ _ => trivial) fun h8 hbk8 hc3 => ?_
    have hx0_8 := hx0_4.trans (hc3.ext hbb1)
    have hb10 := hc3.blk hbk5 hne1
    refine lx_nil <| ?_
    -- R1
    refine wi_ret ⟨.agg (wc ws), (res_cell rfl rfl hbk8 wd153 (by rw [wc_size]; first | omega | (simp; done) | (simp; omega))), ⟨ws, rfl, ?_, hx0_8⟩⟩
    · rw [show i = ls.length from by omega, List.take_length] at hw; exact hw

end Go.Proofs.Ytdokijbdnajhgaa
