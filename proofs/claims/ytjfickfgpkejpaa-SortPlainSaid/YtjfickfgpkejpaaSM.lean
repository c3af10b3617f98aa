/-
  Walks: what comes out of networks, idle comparators, SortZeros.
-/
import Derived.Test.YtjfickfgpkejpaaSL
import Derived.Test.YtjfickfgpkejpaaXSortB
import Derived.Test.YtjfickfgpkejpaaXOut
set_option linter.unusedSimpArgs false
set_option linter.unusedVariables false
namespace Go.Proofs.Ytjfickfgpkejpaa
open Go Go.X

set_option maxRecDepth 10000 in
theorem outputs_spec (h : Heap) (n : Int) (vl : Value) (ls : List (Int × Int)) (hr_vl : RdE encP h vl ls) (hp1 : ls.length ≤ 4611686018427387904) : Fx Try.prog 36 [.int .i64 n, vl] h (fun v h' => ∃ (s : Value) (ys : List Int), v = .tuple #[s, .int .i64 (chkNet validC n ls)] ∧ OwE encI h' h.size 3 s ys ∧ ((chkNet validC n ls ≠ 0 ∧ ys = []) ∨ (chkNet validC n ls = 0 ∧ ys = outsF n.toNat ls)) ∧ Ext h.size h h') := by
  refine fx_intro (n := 36) [(0, .int .i64 n), (1, vl)] Try.func36 rfl rfl (by simp) ⟨rfl, rfl, trivial⟩ fun g0 => ?_
  refine wi_seq <| wi_reg rfl <| lx_assign (.slice none 0 0) rfl rfl <| lx_assign (.int .i64 0) rfl rfl <| lx_nil <| wi_seq <| wi_seq <| wi_reg rfl <| lx_move (.int .i64 n) rfl rfl <| lx_move (vl) rfl rfl <| lx_call [.int .i64 n, vl] rfl rfl Try.call45 rfl (check_spec h n vl ls hr_vl (by omega)) (fun _ _ _ => trivial) ?_
  rintro _ h1 ⟨rfl, hx1⟩
  refine lx_assign (.int .i64 (chkNet validC n ls)) rfl rfl <| lx_nil <| wi_seq <| wi_reg rfl <| lx_move (.int .i64 (chkNet validC n ls)) rfl rfl <| lx_neqS rfl rfl rfl (fun c1 => ?_) (fun c1 => ?_)
  · refine lx_nil <| wi_true rfl <| wi_seq <| wi_reg rfl <| lx_move (.int .i64 (chkNet validC n ls)) rfl rfl <| lx_assign (.slice none 0 0) rfl rfl <| lx_assign (.int .i64 (chkNet validC n ls)) rfl rfl <| lx_nil <| ?_
    -- R1
    refine wi_ret ⟨.tuple #[.slice none 0 0, .int .i64 (chkNet validC n ls)], (res_two rfl rfl rfl), ⟨.slice none 0 0, [], rfl, (owE_nil encI _ h.size 3), ?_, hx1⟩⟩
    · exact .inl ⟨by omega, rfl⟩
  · refine lx_nil <| wi_false rfl <| wi_skip <| wi_seq <| wi_reg rfl <| ?_
    have hk : chkNet validC n ls = 0 := by omega
    obtain ⟨hn1, hn2, hn3, hn4⟩ := chkNet_ok hk
    obtain ⟨m, rfl⟩ : ∃ m : Nat, n = ((m : Nat) : Int) := ⟨n.toNat, by omega⟩
    have hpw := pow10 (show m ≤ 10 by omega)
    refine lx_move (.int .i64 ((m : Nat) : Int)) rfl rfl <| lx_move (vl) rfl rfl <| lx_call [.int .i64 ((m : Nat) : Int), vl] rfl rfl Try.call52 rfl (run_spec h1 m vl ls (hr_vl.extS hx1) (by omega) (by omega) hn4) (fun _ _ _ => trivial) ?_
    rintro _ h2 ⟨ws_1, rfl, hw_1, hx2⟩
    have hx0_1 := hx1.trans2 hx2 hx1.size
    have hwl_1 := hw_1.1
    refine lx_alloc rfl rfl Try.zeroValue86 (fun _ _ _ => trivial) fun bn1 h3 hbn1 hbk1 hx3 hsz1 => ?_
    have hbb1 : h.size ≤ bn1 := by have := hx0_1.size; omega
    have hx0_2 := hx0_1.trans2 hx3 hx0_1.size
    have hbk1 : Blk h3 bn1 (wc (List.replicate 160 0)) 86 := by rw [← zc86]; exact hbk1
    refine lx_stBA (wc ws_1) rfl rfl Try.sizeOf86 hbk1 (by rw [wc_size]; first | omega | (simp; done) | (simp; omega)) (by rw [wc_size]; first | omega | (simp; done) | (simp; omega)) rfl rfl (wc_one _) (fun _ _ _ _ => trivial) fun h4 hbk2 hc1 => ?_
    have hx0_3 := hx0_2.trans (hc1.ext hbb1)
    refine lx_nil <| wi_seq <| wi_reg rfl <| lx_assign (.slice none 0 0) rfl rfl <| lx_nil <| wi_seq <| wi_seq <| wi_reg rfl <| lx_move (.int .i64 ((m : Nat) : Int)) rfl rfl <| lx_conv ((m : Nat) : Int) rfl Try.underlying3 Try.underlying26 rfl (wrap_u64 (by omega) (by omega)) <| lx_shl (m := 1) (n := m) rfl rfl rfl (by show _ ≤ 64; omega) (wrap_i64 (by omega) (by omega)) <| lx_move (.int .i64 0) rfl rfl <| lx_nil <| wi_block <| ?_
    refine wi_loop (σ := Nat × Value × (List Int)) (rngB 22 32 [8, 9]) (fun (ss : Nat × Value × (List Int)) => [(22, .int .i64 ((ss.1 : Nat) : Int)), (8, ss.2.1)]) (fun (ss : Nat × Value × (List Int)) (hh : Heap) => OwE encI hh h.size 3 ss.2.1 ss.2.2 ∧ Ext h.size h hh ∧ Blk hh bn1 (wc ws_1) 86 ∧ Value.ownBlock ss.2.1 ≠ some bn1 ∧ (ss.1 ≤ 2 ^ m) ∧ (ss.2.2 = outL m ls ss.1)) (fun (ss : Nat × Value × (List Int)) => 2 ^ m - ss.1) (0, .slice none 0 0, []) ⟨rfl, rfl, trivial⟩ ⟨?_, hx0_3, ?_, (nb_nil _), ?_, ?_⟩ ?_
    · first | exact (owE_nil encI _ h.size 3) | (simpa using (owE_nil encI _ h.size 3))
    · exact hbk2
    · try dsimp only
      exact Nat.zero_le _
    · try dsimp only
      first | done | rfl
    rintro g1 ⟨p, v, ys⟩ hh1 ⟨ho1, hx0_4, hbk3, hdj1, hp, hys⟩ IH1
    dsimp only at *
    have hyl : ys.length = p := by rw [hys]; exact outL_length _ _ _
    refine wi_seq <| wi_reg rfl <| lx_lssS rfl rfl rfl (fun c2 => ?_) (fun c2 => ?_)
    · refine lx_nil <| wi_seq <| wi_true rfl <| wi_skip <| wi_seq <| wi_block <| wi_seq <| wi_reg rfl <| lx_move (.int .i64 ((p : Nat) : Int)) rfl rfl <| lx_assign (.int .i64 ((p : Nat) : Int)) rfl rfl <| lx_nil <| wi_reg rfl <| lx_move (v) rfl rfl <| lx_move (.int .i64 ((m : Nat) : Int)) rfl rfl <| lx_move (.int .i64 ((p : Nat) : Int)) rfl rfl <| lx_call [.pointer (some ⟨bn1, 0, none⟩), .int .i64 ((m : Nat) : Int), .int .i64 ((p : Nat) : Int)] rfl rfl Try.call53 rfl (wpat_spec hh1 m p ws_1 (runF ls (patF m)) bn1 hbk3 hw_1 (by omega) (by omega)) (fun _ _ _ => trivial) ?_
      rintro _ h5 ⟨rfl, rfl⟩
      refine lx_appendL (E := encI) (B := h.size) [((colN m (fun i => (runF ls (patF m)) i p) : Nat) : Int)] [.int .i64 ((colN m (fun i => (runF ls (patF m)) i p) : Nat) : Int)] rfl rfl (fun _ => rfl) rfl eT35 rfl rfl rfl rfl ho1 (fun _ => rfl) (by show ys.length + 1 ≤ _; omega) (by show (ys.length + 1) * 8 ≤ _; omega) hx0_4.size (fun _ _ => trivial) fun u1 v1 h6 ho2 hc2 hg1 => ?_
      have hx0_5 := hx0_4.trans (ho1.ext hc2 hx0_4.size)
      have hb1 := hbk3.chg hc2 hdj1
      refine lx_assign (v1) rfl rfl <| lx_nil <| wi_inBlock <| wi_reg rfl <| lx_add (((p + 1 : Nat) : Int)) rfl rfl rfl (by omega) (by omega) (by omega) <| lx_move (.int .i64 ((p + 1 : Nat) : Int)) rfl rfl <| lx_nil <| ?_
      -- L0.1
      refine IH1 _ _ (p + 1, v1, ys ++ [((colN m (fun i => (runF ls (patF m)) i p) : Nat) : Int)]) (agree_ups rfl agree_self) ⟨rfl, rfl, trivial⟩ ⟨?_, hx0_5, ?_, (nb_app hdj1 hbk3 hg1), ?_, ?_⟩ ?_
      · first | exact ho2 | (simpa using ho2)
      · exact hb1
      · try dsimp only
        omega
      · try dsimp only
        rw [outL_succ, hys]; rfl
      · first | omega | (dsimp only; omega)
    · refine lx_nil <| wi_seq <| wi_false rfl <| wi_exit rfl <| wi_seq <| wi_reg rfl <| ?_
      have hye : ys = outL m ls (2 ^ m) := by rw [hys, show p = 2 ^ m from by omega]
      refine lx_move (v) rfl rfl <| lx_call [v] rfl rfl Try.call54 rfl (lsort_spec hh1 h.size v ys ho1 hx0_4.size (by rw [hye]; exact outL_ne) (by rw [hye, outL_length]; omega)) (fun _ _ _ => trivial) ?_
      rintro _ h7 ⟨rfl, ho3, hx4⟩
      have hx0_6 := hx0_4.trans (ho1.ext hx4 hx0_4.size)
      have hb2 := hbk3.chg hx4 hdj1
      refine lx_nil <| wi_seq <| wi_reg rfl <| lx_move (v) rfl rfl <| lx_call [v] rfl rfl Try.call55 rfl (lcompact_spec h7 h.size v (ys.mergeSort fun x y => decide (x ≤ y)) ho3 hx0_6.size (sort_ne (by rw [hye]; exact outL_ne)) (by rw [sort_len, hye, outL_length]; omega)) (fun _ _ _ => trivial) ?_
      rintro v2 h8 ⟨_, rfl, ho4, hx5⟩
      have hx0_7 := hx0_6.trans (ho3.ext hx5 hx0_6.size)
      have hb3 := hb2.chg hx5 hdj1
      refine lx_assign (v2) rfl rfl <| lx_assign (.int .i64 0) rfl rfl <| lx_nil <| ?_
      -- R2
      refine wi_ret ⟨.tuple #[v2, .int .i64 0], (res_two rfl rfl rfl), ⟨v2, Lib.compact (ys.mergeSort fun x y => decide (x ≤ y)), ?_, ho4, ?_, hx0_7⟩⟩
      · rw [hk]
      · simp only [Int.toNat_natCast]
        exact .inr ⟨hk, by rw [hye]; exact outs_eq m ls⟩

set_option maxRecDepth 10000 in
theorem idle_spec (h : Heap) (n : Int) (vl : Value) (ls : List (Int × Int)) (hr_vl : RdE encP h vl ls) (hp1 : ls.length ≤ 4611686018427387904) : Fx Try.prog 37 [.int .i64 n, vl] h (fun v h' => ∃ (s : Value) (ys : List Int), v = .tuple #[s, .int .i64 (chkNet validC n ls)] ∧ OwE encI h' h.size 3 s ys ∧ ((chkNet validC n ls ≠ 0 ∧ ys = []) ∨ (chkNet validC n ls = 0 ∧ ys = idleF n.toNat ls ls.length)) ∧ Ext h.size h h') := by
  refine fx_intro (n := 38) [(0, .int .i64 n), (1, vl)] Try.func37 rfl rfl (by simp) ⟨rfl, rfl, trivial⟩ fun g0 => ?_
  refine wi_seq <| wi_reg rfl <| lx_assign (.slice none 0 0) rfl rfl <| lx_assign (.int .i64 0) rfl rfl <| lx_nil <| wi_seq <| wi_seq <| wi_reg rfl <| lx_move (.int .i64 n) rfl rfl <| lx_move (vl) rfl rfl <| lx_call [.int .i64 n, vl] rfl rfl Try.call45 rfl (check_spec h n vl ls hr_vl (by omega)) (fun _ _ _ => trivial) ?_
  rintro _ h1 ⟨rfl, hx1⟩
  refine lx_assign (.int .i64 (chkNet validC n ls)) rfl rfl <| lx_nil <| wi_seq <| wi_reg rfl <| lx_move (.int .i64 (chkNet validC n ls)) rfl rfl <| lx_neqS rfl rfl rfl (fun c1 => ?_) (fun c1 => ?_)
  · refine lx_nil <| wi_true rfl <| wi_seq <| wi_reg rfl <| lx_move (.int .i64 (chkNet validC n ls)) rfl rfl <| lx_assign (.slice none 0 0) rfl rfl <| lx_assign (.int .i64 (chkNet validC n ls)) rfl rfl <| lx_nil <| ?_
    -- R1
    refine wi_ret ⟨.tuple #[.slice none 0 0, .int .i64 (chkNet validC n ls)], (res_two rfl rfl rfl), ⟨.slice none 0 0, [], rfl, (owE_nil encI _ h.size 3), ?_, hx1⟩⟩
    · exact .inl ⟨by omega, rfl⟩
  · refine lx_nil <| wi_false rfl <| wi_skip <| wi_seq <| wi_reg rfl <| ?_
    have hk : chkNet validC n ls = 0 := by omega
    obtain ⟨hn1, hn2, hn3, hn4⟩ := chkNet_ok hk
    obtain ⟨m, rfl⟩ : ∃ m : Nat, n = ((m : Nat) : Int) := ⟨n.toNat, by omega⟩
    have hpw := pow10 (show m ≤ 10 by omega)
    refine lx_move (.int .i64 ((m : Nat) : Int)) rfl rfl <| lx_call [.int .i64 ((m : Nat) : Int)] rfl rfl Try.call56 rfl (patterns_spec h1 m (by omega)) (fun _ _ _ => trivial) ?_
    rintro _ h2 ⟨ws_1, rfl, hw_1, hx2⟩
    have hx0_1 := hx1.trans2 hx2 hx1.size
    have hwl_1 := hw_1.1
    refine lx_alloc rfl rfl Try.zeroValue86 (fun _ _ _ => trivial) fun bn1 h3 hbn1 hbk1 hx3 hsz1 => ?_
    have hbb1 : h.size ≤ bn1 := by have := hx0_1.size; omega
    have hx0_2 := hx0_1.trans2 hx3 hx0_1.size
    have hbk1 : Blk h3 bn1 (wc (List.replicate 160 0)) 86 := by rw [← zc86]; exact hbk1
    refine lx_stBA (wc ws_1) rfl rfl Try.sizeOf86 hbk1 (by rw [wc_size]; first | omega | (simp; done) | (simp; omega)) (by rw [wc_size]; first | omega | (simp; done) | (simp; omega)) rfl rfl (wc_one _) (fun _ _ _ _ => trivial) fun h4 hbk2 hc1 => ?_
    have hx0_3 := hx0_2.trans (hc1.ext hbb1)
    refine lx_nil <| wi_seq <| wi_reg rfl <| lx_assign (.slice none 0 0) rfl rfl <| lx_nil <| wi_seq <| wi_seq <| wi_reg rfl <| lx_move (vl) rfl rfl <| lx_len rfl Try.underlying38 hr_vl rfl <| lx_move (.int .i64 0) rfl rfl <| lx_nil <| wi_block <| ?_
    refine wi_loop (σ := Nat × (List Nat) × Value × (List Int)) (rngB 21 37 [8, 9, 10]) (fun (ss : Nat × (List Nat) × Value × (List Int)) => [(21, .int .i64 ((ss.1 : Nat) : Int)), (8, ss.2.2.1)]) (fun (ss : Nat × (List Nat) × Value × (List Int)) (hh : Heap) => OwE encI hh h.size 3 ss.2.2.1 ss.2.2.2 ∧ Ext h.size h hh ∧ Blk hh bn1 (wc ss.2.1) 86 ∧ Value.ownBlock ss.2.2.1 ≠ some bn1 ∧ (ss.1 ≤ ls.length) ∧ (Wi (runF (ls.take ss.1) (patF m)) ss.2.1) ∧ (ss.2.2.2 = idleF m ls ss.1)) (fun (ss : Nat × (List Nat) × Value × (List Int)) => ls.length - ss.1) (0, ws_1, .slice none 0 0, []) ⟨rfl, rfl, trivial⟩ ⟨?_, hx0_3, ?_, (nb_nil _), ?_, ?_, ?_⟩ ?_
    · first | exact (owE_nil encI _ h.size 3) | (simpa using (owE_nil encI _ h.size 3))
    · exact hbk2
    · try dsimp only
      omega
    · try dsimp only
      rw [List.take_zero]; exact hw_1
    · try dsimp only
      first | done | rfl
    rintro g1 ⟨i, ws, v, ys⟩ hh1 ⟨ho1, hx0_4, hbk3, hdj1, hi, hw, hys⟩ IH1
    dsimp only at *
    have hwl := hw.1
    have hyl : ys.length ≤ i := by rw [hys]; exact idleF_length _ _ _
    refine wi_seq <| wi_reg rfl <| lx_lssS rfl rfl rfl (fun c2 => ?_) (fun c2 => ?_)
    · refine lx_nil <| wi_seq <| wi_true rfl <| wi_skip <| wi_seq <| wi_block <| wi_seq <| wi_reg rfl <| ?_
      obtain ⟨hv1, hv2, hv3, hv4⟩ := validC_nat (hn4 i (by omega))
      refine lx_move (.int .i64 ((i : Nat) : Int)) rfl rfl <| lx_ix (i := i) rfl eT38 hr_vl rfl rfl (by first | omega | (simp only [List.length_set, List.length_append, List.length_cons, List.length_nil, List.length_replicate, List.length_take, swp_length, exch_length]; omega)) <| lx_ldA (i := i) [.int .i64 (((gt ls i).1.toNat : Nat) : Int), .int .i64 (((gt ls i).2.toNat : Nat) : Int)] rfl rfl wd60 (hr_vl.extS hx0_4) (by first | omega | (simp only [List.length_set, List.length_append, List.length_cons, List.length_nil, List.length_replicate, List.length_take, swp_length, exch_length]; omega)) (by show [Value.int .i64 (gt ls i).1, .int .i64 (gt ls i).2] = _; rw [← hv1, ← hv2]) rfl <| lx_alloc rfl rfl Try.zeroValue60 (fun _ _ _ => trivial) fun bn2 h5 hbn2 hbk4 hx4 hsz2 => ?_
      have hbb2 : h.size ≤ bn2 := by have := hx0_4.size; omega
      have hne1 : bn2 ≠ bn1 := by have := hbk3.lt; omega
      have hdj2 : Value.ownBlock v ≠ some bn2 := by intro e; have := (ho1.lt e).2; omega
      have hx0_5 := hx0_4.trans2 hx4 hx0_4.size
      have ho2 := ho1.extS hx4
      have hb1 := hbk3.extS hx4
      have hbk4 : Blk h5 bn2 #[.int .i64 0, .int .i64 0] 60 := hbk4
      refine lx_assign (.int .i64 ((i : Nat) : Int)) rfl rfl <| lx_stBA (#[.int .i64 (((gt ls i).1.toNat : Nat) : Int), .int .i64 (((gt ls i).2.toNat : Nat) : Int)]) rfl rfl Try.sizeOf60 hbk4 rfl rfl rfl rfl (by simp [Value.oneCell']) (fun _ _ _ _ => trivial) fun h6 hbk5 hc2 => ?_
      have hx0_6 := hx0_5.trans (hc2.ext hbb2)
      have ho3 := hc2.owE ho2 hdj2
      have hb2 := hc2.blk hb1 (Ne.symm hne1)
      refine lx_nil <| wi_seq <| wi_reg rfl <| lx_ixB (i := 0) (0) rfl Try.underlying60 Try.sizeOf3 rfl rfl (by omega) rfl <| lx_ldB (.int .i64 (((gt ls i).1.toNat : Nat) : Int)) rfl rfl fl3 hbk5 rfl rfl <| lx_ixB (i := 1) (1) rfl Try.underlying60 Try.sizeOf3 rfl rfl (by omega) rfl <| lx_ldB (.int .i64 (((gt ls i).2.toNat : Nat) : Int)) rfl rfl fl3 hbk5 rfl rfl <| lx_call [.pointer (some ⟨bn1, 0, none⟩), .int .i64 (((gt ls i).1.toNat : Nat) : Int), .int .i64 (((gt ls i).2.toNat : Nat) : Int)] rfl rfl Try.call57 rfl (wexch_spec h6 ((gt ls i).1.toNat) ((gt ls i).2.toNat) ws (runF (ls.take i) (patF m)) bn1 hb2 hw (by omega) (by omega) (by omega)) (fun _ _ _ => trivial) ?_
      rintro _ h7 ⟨us_1, rfl, ho4, hw_2, hx5⟩
      have hx0_7 := hx0_6.trans (hx5.ext hbb1)
      have ho5 := hx5.owE ho3 hdj1
      have hb3 := hx5.blk hbk5 hne1
      refine lx_not rfl rfl <| lx_nil <| wi_condS (t := !(exC ws ((gt ls i).1.toNat) ((gt ls i).2.toNat) 16)) rfl (fun c3 => ?_) (fun c3 => ?_)
      · refine wi_reg rfl <| lx_move (v) rfl rfl <| lx_move (.int .i64 ((i : Nat) : Int)) rfl rfl <| lx_appendL (E := encI) (B := h.size) [((i : Nat) : Int)] [.int .i64 ((i : Nat) : Int)] rfl rfl (fun _ => rfl) rfl eT35 rfl rfl rfl rfl ho5 (fun _ => rfl) (by show ys.length + 1 ≤ _; omega) (by show (ys.length + 1) * 8 ≤ _; omega) hx0_7.size (fun _ _ => trivial) fun u1 v1 h8 ho6 hc3 hg1 => ?_
        have hx0_8 := hx0_7.trans (ho5.ext hc3 hx0_7.size)
        have hb4 := ho4.chg hc3 hdj1
        have hb5 := hb3.chg hc3 hdj2
        refine lx_assign (v1) rfl rfl <| lx_nil <| wi_inBlock <| wi_reg rfl <| lx_add (((i + 1 : Nat) : Int)) rfl rfl rfl (by omega) (by omega) (by omega) <| lx_move (.int .i64 ((i + 1 : Nat) : Int)) rfl rfl <| lx_nil <| ?_
        have hix := idle_exC hw rfl rfl (show (gt ls i).1.toNat < 10 by omega) (show (gt ls i).2.toNat < 10 by omega)
        -- L0.1
        refine IH1 _ _ (i + 1, us_1, v1, ys ++ [((i : Nat) : Int)]) (agree_ups rfl agree_self) ⟨rfl, rfl, trivial⟩ ⟨?_, hx0_8, ?_, (nb_app hdj1 ho4 hg1), ?_, ?_, ?_⟩ ?_
        · first | exact ho6 | (simpa using ho6)
        · exact hb4
        · try dsimp only
          omega
        · try dsimp only
          rw [runF_take (by omega)]; exact hw_2
        · try dsimp only
          rw [idleF_succ, ← hys, ← hix, if_pos (by assumption)]
        · first | omega | (dsimp only; omega)
      · refine wi_skip <| wi_inBlock <| wi_reg rfl <| lx_add (((i + 1 : Nat) : Int)) rfl rfl rfl (by omega) (by omega) (by omega) <| lx_move (.int .i64 ((i + 1 : Nat) : Int)) rfl rfl <| lx_nil <| ?_
        have hix := idle_exC hw rfl rfl (show (gt ls i).1.toNat < 10 by omega) (show (gt ls i).2.toNat < 10 by omega)
        -- L0.2
        refine IH1 _ _ (i + 1, us_1, v, ys) (agree_ups rfl agree_self) ⟨rfl, rfl, trivial⟩ ⟨?_, hx0_7, ?_, hdj1, ?_, ?_, ?_⟩ ?_
        · first | exact ho5 | (simpa using ho5)
        · exact ho4
        · try dsimp only
          omega
        · try dsimp only
          rw [runF_take (by omega)]; exact hw_2
        · try dsimp only
          rw [idleF_succ, ← hys, ← hix, if_neg (nt (by assumption))]; simp
        · first | omega | (dsimp only; omega)
    · refine lx_nil <| wi_seq <| wi_false rfl <| wi_exit rfl <| wi_seq <| wi_reg rfl <| lx_move (v) rfl rfl <| lx_assign (v) rfl rfl <| lx_assign (.int .i64 0) rfl rfl <| lx_nil <| ?_
      -- R2
      refine wi_ret ⟨.tuple #[v, .int .i64 0], (res_two rfl rfl rfl), ⟨v, ys, ?_, ho1, ?_, hx0_4⟩⟩
      · rw [hk]
      · simp only [Int.toNat_natCast]
        exact .inr ⟨hk, by rw [hys, show i = ls.length from by omega]⟩

set_option maxRecDepth 10000 in
theorem sortZeros_spec (h : Heap) (n : Int) (vl : Value) (ls : List (Int × Int)) (vv : Value) (xs : List Int) (hr_vl : RdE encP h vl ls) (hr_vv : RdE encI h vv xs) (hp1 : -9223372036854775808 ≤ n) (hp2 : n ≤ 9223372036854775807) (hp3 : ls.length ≤ 9223372036854775807) (hp4 : xs.length ≤ 9223372036854775807) : Fx Try.prog 8 [.int .i64 n, vl, vv] h (fun v h' => v = .bool true ∧ Ext h.size h h') := by
  refine fx_intro (n := 224) [(0, .int .i64 n), (1, vl), (2, vv)] Try.func8 rfl rfl (by simp) ⟨rfl, rfl, rfl, trivial⟩ fun g0 => ?_
  refine wi_seq <| wi_reg rfl <| lx_assign (.bool false) rfl rfl <| lx_nil <| wi_seq <| wi_reg rfl <| lx_move (.int .i64 n) rfl rfl <| lx_call [.int .i64 n] rfl rfl Try.call23 rfl (wires_spec h n ) (fun _ _ _ => trivial) ?_
  rintro _ h1 ⟨rfl, rfl⟩
  refine lx_assign (.int .i64 ((1 + ur n % 10 : Nat) : Int)) rfl rfl <| lx_nil <| wi_seq <| wi_reg rfl <| ?_
  generalize hm : 1 + ur n % 10 = m
  have hm1 : 1 ≤ m ∧ m ≤ 10 := by omega
  have hpw := pow10 hm1.2
  refine lx_move (.int .i64 ((m : Nat) : Int)) rfl rfl <| lx_move (vl) rfl rfl <| lx_call [.int .i64 ((m : Nat) : Int), vl, .int .i64 12, .bool false] rfl rfl Try.call24 rfl (tame_spec h m vl ls 12 false hr_vl (by omega) (by omega) (by omega)) (fun _ _ _ => trivial) ?_
  rintro vt h2 ⟨_, rfl, ho1, hx1⟩
  have ho2 := ho1.base (Nat.le_refl h.size)
  refine lx_assign (vt) rfl rfl <| lx_nil <| wi_seq <| wi_seq <| wi_reg rfl <| ?_
  have htl := tameF_length (n := m) (most := 12) (loose := false) (ls := ls)
  have htn := tame_lt (m := m) (most := 12) (ls := ls) hm1.1 hm1.2 (by omega)
  refine lx_move (vv) rfl rfl <| lx_len rfl Try.underlying29 hr_vv rfl <| lx_rem (m := xs.length) (n := 2) rfl rfl rfl (by omega) <| lx_eql rfl rfl rfl <| lx_nil <| ?_
  refine wi_cutE (σ := Value × (List (Int × Int))) (rngB 45 55 [6, 7, 8, 9]) (fun (ss : Value × (List (Int × Int))) => [(7, ss.1)]) (fun (ss : Value × (List (Int × Int))) (hh : Heap) => OwE encP hh h.size 60 ss.1 ss.2 ∧ Ext h.size h hh ∧ (ss.2.length ≤ 43) ∧ (NetLt m ss.2)) (fun J1 => ?_) ?_
  · refine wi_condS (t := decide (((xs.length % 2 : Nat) : Int) = (0 : Int))) rfl (fun c1 => ?_) (fun c1 => ?_)
    · refine wi_seq <| wi_reg rfl <| lx_move (.int .i64 ((m : Nat) : Int)) rfl rfl <| lx_call [.int .i64 ((m : Nat) : Int)] rfl rfl Try.call20 rfl (merge_spec h2 (((m : Nat) : Int)) ) (fun _ _ _ => trivial) ?_
      rintro _ h3 ⟨vm, ms, rfl, ho3, hm_1, hx2⟩
      have hx0_1 := hx1.trans2 hx2 hx1.size
      have ho4 := ho2.extS hx2
      have ho5 := ho3.base hx1.size
      refine lx_move (.tuple #[vm, .int .i64 (if (((m : Nat) : Int)) < 1 ∨ 10 < (((m : Nat) : Int)) then 1 else 0)]) rfl rfl <| lx_extract (vm) rfl rfl rfl <| lx_extract (.int .i64 (if (((m : Nat) : Int)) < 1 ∨ 10 < (((m : Nat) : Int)) then 1 else 0)) rfl rfl rfl <| lx_assign (vm) rfl rfl <| lx_assign (.int .i64 (if (((m : Nat) : Int)) < 1 ∨ 10 < (((m : Nat) : Int)) then 1 else 0)) rfl rfl <| lx_nil <| wi_seq <| wi_seq <| wi_reg rfl <| lx_move (.int .i64 (if (((m : Nat) : Int)) < 1 ∨ 10 < (((m : Nat) : Int)) then 1 else 0)) rfl rfl <| lx_neqF rfl rfl rfl (by rw [if_neg (by omega)]; decide) <| lx_nil <| wi_false rfl <| wi_skip <| wi_reg rfl <| ?_
      have hme : ms = mergeF m := by rw [hm_1, if_neg (by omega), Int.toNat_natCast]
      have hml : ms.length ≤ 31 := by rw [hme]; exact mergeF_short m (by omega)
      have hmn : NetLt m ms := by rw [hme]; exact merge_lt hm1.1 hm1.2
      refine lx_move (vt) rfl rfl <| lx_move (vm) rfl rfl <| lx_append (E := encP) (B := h.size) (xs := tameF m 12 false ls) (ys := ms) rfl rfl eT38 ho4 ho5.rd rfl rfl (by first | omega | (simp only [List.length_nil, List.length_take]; omega)) (by first | omega | (simp only [List.length_nil, List.length_take]; omega)) hx0_1.size (fun _ _ => trivial) fun v1 h4 ho6 hc1 hg1 => ?_
      have hx0_2 := hx0_1.trans (ho4.ext hc1 hx0_1.size)
      have ho7 := ho5.chg hc1 (Dj.symm (dj_new ho2 ho3))
      refine lx_assign (v1) rfl rfl <| lx_nil <| ?_
      -- Jt44.1
      refine J1 _ _ (v1, (tameF m 12 false ls) ++ ms) (agree_ups rfl agree_upsJ) ⟨rfl, trivial⟩ ⟨?_, hx0_2, ?_, ?_⟩
      · first | exact ho6 | (simpa using ho6)
      · try dsimp only
        rw [List.length_append]; omega
      · try dsimp only
        exact htn.append hmn
    · refine wi_skip <| ?_
      -- Jt44.2
      refine J1 _ _ (vt, tameF m 12 false ls) (agree_ups rfl agree_upsJ) ⟨rfl, trivial⟩ ⟨?_, hx1, ?_, ?_⟩
      · first | exact ho2 | (simpa using ho2)
      · try dsimp only
        omega
      · try dsimp only
        exact htn
  rintro g1 ⟨vo, net⟩ hh1 ⟨ho8, hx0_3, hnl, hnn⟩
  dsimp only at *
  refine wi_seq <| wi_reg rfl <| ?_
  have hchk := netLt_chk hm1.1 hm1.2 (show net.length ≤ 200 by omega) hnn
  refine lx_move (.int .i64 ((m : Nat) : Int)) rfl rfl <| lx_move (vo) rfl rfl <| lx_call [.int .i64 ((m : Nat) : Int), vo] rfl rfl Try.call35 rfl (fails_spec hh1 (((m : Nat) : Int)) vo net ho8.rd (by omega)) (fun _ _ _ => trivial) ?_
  rintro _ h5 ⟨pf, bf, rfl, hf_1, hx3⟩
  have hx0_4 := hx0_3.trans2 hx3 hx0_3.size
  have ho9 := ho8.extS hx3
  refine lx_move (.tuple #[.int .i64 ((pf : Nat) : Int), .bool bf, .int .i64 (chkNet validC (((m : Nat) : Int)) net)]) rfl rfl <| lx_extract (.int .i64 ((pf : Nat) : Int)) rfl rfl rfl <| lx_extract (.bool bf) rfl rfl rfl <| lx_extract (.int .i64 (chkNet validC (((m : Nat) : Int)) net)) rfl rfl rfl <| lx_assign (.int .i64 ((pf : Nat) : Int)) rfl rfl <| lx_assign (.bool bf) rfl rfl <| lx_assign (.int .i64 (chkNet validC (((m : Nat) : Int)) net)) rfl rfl <| lx_nil <| wi_seq <| wi_reg rfl <| ?_
  have hfa := good_ hf_1 hchk
  rw [Int.toNat_natCast] at hfa
  have hl3 := valuesF_length m xs
  refine lx_move (.int .i64 ((m : Nat) : Int)) rfl rfl <| lx_move (vo) rfl rfl <| lx_move (.int .i64 ((m : Nat) : Int)) rfl rfl <| lx_move (vv) rfl rfl <| lx_call [.int .i64 ((m : Nat) : Int), vv] rfl rfl Try.call33 rfl (values_spec h5 m vv xs (hr_vv.extS hx0_4) (by omega) (by omega)) (fun _ _ _ => trivial) ?_
  rintro vin h6 ⟨_, rfl, ho10, hx4⟩
  have hx0_5 := hx0_4.trans2 hx4 hx0_4.size
  have ho11 := ho9.extS hx4
  have ho12 := ho10.base hx0_4.size
  refine lx_call [.int .i64 ((m : Nat) : Int), vo, vin] rfl rfl Try.call34 rfl (run_spec2 h6 (((m : Nat) : Int)) vo net vin (valuesF m xs) ho11.rd ho12.rd (by omega) (by omega)) (fun _ _ _ => trivial) ?_
  rintro _ h7 ⟨vx, yr, rfl, ho13, hrv_1, hx5⟩
  have hx0_6 := hx0_5.trans2 hx5 hx0_5.size
  have ho14 := ho11.extS hx5
  have ho15 := ho12.extS hx5
  have ho16 := ho13.base hx0_5.size
  refine lx_move (.tuple #[vx, .int .i64 (runE (((m : Nat) : Int)) net (valuesF m xs))]) rfl rfl <| lx_extract (vx) rfl rfl rfl <| lx_extract (.int .i64 (runE (((m : Nat) : Int)) net (valuesF m xs))) rfl rfl rfl <| lx_assign (vx) rfl rfl <| lx_assign (.int .i64 (runE (((m : Nat) : Int)) net (valuesF m xs))) rfl rfl <| lx_nil <| wi_seq <| wi_seq <| wi_reg rfl <| ?_
  have hre := runE_zero hchk hl3
  have hrv := good_ hrv_1 hre
  have hyl : yr.length = m := by rw [hrv, runV_length]; exact hl3
  refine lx_move (.int .i64 (chkNet validC (((m : Nat) : Int)) net)) rfl rfl <| lx_neqF rfl rfl rfl (fun h => h hchk) <| lx_move (.bool false) rfl rfl <| lx_move (.int .i64 (runE (((m : Nat) : Int)) net (valuesF m xs))) rfl rfl <| lx_neqF rfl rfl rfl (fun h => h hre) <| lx_pick false (.bool false) rfl rfl rfl <| lx_move (.bool false) rfl rfl <| ?_
  cases c2 : bf
  · refine lx_move (.bool false) rfl rfl <| lx_notB true rfl rfl rfl <| lx_move (.bool true) rfl rfl <| lx_move (vx) rfl rfl <| lx_call [vx] rfl rfl Try.call19 rfl (inOrder_spec h7 vx yr ho16.rd (by omega)) (fun _ _ _ => trivial) ?_
    rintro _ h8 ⟨rfl, rfl⟩
    rw [show inOrd yr = true from by rw [hrv]; exact sorted_one (zero_one hnn.ok hl3 (no_fails (failsAt hfa (by assumption))))]
    refine lx_notB false rfl rfl rfl <| lx_pick true (.bool false) rfl rfl rfl <| lx_pick false (.bool false) rfl rfl rfl <| lx_nil <| wi_false rfl <| wi_skip <| wi_seq <| wi_seq <| wi_reg rfl <| lx_move (.bool false) rfl rfl <| lx_nil <| wi_false rfl <| wi_skip <| wi_seq <| wi_reg rfl <| ?_
    have hno := no_fails (failsAt hfa (by assumption))
    refine lx_move (.int .i64 ((m : Nat) : Int)) rfl rfl <| lx_move (vo) rfl rfl <| lx_call [.int .i64 ((m : Nat) : Int), vo] rfl rfl Try.call36 rfl (outputs_spec h7 (((m : Nat) : Int)) vo net ho14.rd (by omega)) (fun _ _ _ => trivial) ?_
    rintro _ h9 ⟨vou, you, rfl, ho17, hou_1, hx6⟩
    have hx0_7 := hx0_6.trans2 hx6 hx0_6.size
    have ho18 := ho14.extS hx6
    have ho19 := ho15.extS hx6
    have ho20 := ho16.extS hx6
    have ho21 := ho17.base hx0_6.size
    refine lx_move (.tuple #[vou, .int .i64 (chkNet validC (((m : Nat) : Int)) net)]) rfl rfl <| lx_extract (vou) rfl rfl rfl <| lx_extract (.int .i64 (chkNet validC (((m : Nat) : Int)) net)) rfl rfl rfl <| lx_assign (vou) rfl rfl <| lx_assign (.int .i64 (chkNet validC (((m : Nat) : Int)) net)) rfl rfl <| lx_nil <| wi_seq <| wi_seq <| wi_reg rfl <| ?_
    have houe := good_ hou_1 hchk
    rw [Int.toNat_natCast] at houe
    have hoc := outs_count hm1.2 hnn hno
    rw [← houe] at hoc
    refine lx_move (.int .i64 (chkNet validC (((m : Nat) : Int)) net)) rfl rfl <| lx_neqF rfl rfl rfl (fun h => h hchk) <| lx_move (.bool false) rfl rfl <| lx_move (vou) rfl rfl <| lx_len rfl Try.underlying35 ho21.rd rfl <| lx_move (.int .i64 ((m : Nat) : Int)) rfl rfl <| lx_add (((m + 1 : Nat) : Int)) rfl rfl rfl (by omega) (by omega) (by omega) <| lx_neqF rfl rfl rfl (by omega) <| lx_pick false (.bool false) rfl rfl rfl <| lx_nil <| wi_false rfl <| wi_skip <| wi_seq <| wi_reg rfl <| lx_move (.int .i64 ((m : Nat) : Int)) rfl rfl <| lx_move (vo) rfl rfl <| lx_call [.int .i64 ((m : Nat) : Int), vo] rfl rfl Try.call37 rfl (idle_spec h9 (((m : Nat) : Int)) vo net ho18.rd (by omega)) (fun _ _ _ => trivial) ?_
    rintro _ h10 ⟨vid, idl, rfl, ho22, hid_1, hx7⟩
    have hx0_8 := hx0_7.trans2 hx7 hx0_7.size
    have ho23 := ho18.extS hx7
    have ho24 := ho19.extS hx7
    have ho25 := ho20.extS hx7
    have ho26 := ho21.extS hx7
    have ho27 := ho22.base hx0_7.size
    refine lx_move (.tuple #[vid, .int .i64 (chkNet validC (((m : Nat) : Int)) net)]) rfl rfl <| lx_extract (vid) rfl rfl rfl <| lx_extract (.int .i64 (chkNet validC (((m : Nat) : Int)) net)) rfl rfl rfl <| lx_assign (vid) rfl rfl <| lx_assign (.int .i64 (chkNet validC (((m : Nat) : Int)) net)) rfl rfl <| lx_nil <| wi_seq <| wi_reg rfl <| ?_
    have hide := good_ hid_1 hchk
    rw [Int.toNat_natCast] at hide
    have hidl := idleF_length m net net.length
    refine lx_assign (.slice none 0 0) rfl rfl <| lx_nil <| wi_seq <| wi_reg rfl <| lx_assign (.int .i64 0) rfl rfl <| lx_nil <| wi_seq <| wi_seq <| wi_reg rfl <| lx_assign (.int .i64 0) rfl rfl <| lx_nil <| wi_block <| ?_
    refine wi_loop (σ := Nat × Nat × Value × (List (Int × Int))) (rngB 138 165 [23, 24, 25]) (fun (ss : Nat × Nat × Value × (List (Int × Int))) => [(25, .int .i64 ((ss.1 : Nat) : Int)), (24, .int .i64 ((ss.2.1 : Nat) : Int)), (23, ss.2.2.1)]) (fun (ss : Nat × Nat × Value × (List (Int × Int))) (hh : Heap) => OwE encP hh h.size 60 vo net ∧ OwE encI hh h.size 3 vid idl ∧ OwE encP hh h.size 60 ss.2.2.1 ss.2.2.2 ∧ Ext h.size h hh ∧ Dj ss.2.2.1 vo ∧ Dj ss.2.2.1 vid ∧ (ss.1 ≤ net.length) ∧ (ss.2.1 = (idleF m net ss.1).length) ∧ (ss.2.2.2 = restF m net ss.1)) (fun (ss : Nat × Nat × Value × (List (Int × Int))) => net.length - ss.1) (0, 0, .slice none 0 0, []) ⟨rfl, rfl, rfl, trivial⟩ ⟨?_, ?_, ?_, hx0_8, (dj_nil_l _), (dj_nil_l _), ?_, ?_, ?_⟩ ?_
    · first | exact ho23 | (simpa using ho23)
    · first | exact ho27 | (simpa using ho27)
    · first | exact (owE_nil encP _ h.size 60) | (simpa using (owE_nil encP _ h.size 60))
    · try dsimp only
      omega
    · try dsimp only
      first | done | rfl
    · try dsimp only
      first | done | rfl
    rintro g2 ⟨k, at_, vr, rest⟩ hh2 ⟨ho28, ho29, ho30, hx0_9, hdj1, hdj2, hkk, hat, hrest⟩ IH1
    dsimp only at *
    have hrl0 := restF_length m net k
    have hrl1 : rest.length ≤ k := by rw [hrest]; exact hrl0
    have hatl := idleF_length m net k
    refine wi_seq <| wi_seq <| wi_reg rfl <| lx_move (.int .i64 ((k : Nat) : Int)) rfl rfl <| lx_move (vo) rfl rfl <| lx_len rfl Try.underlying38 ho28.rd rfl <| lx_lssS rfl rfl rfl (fun c3 => ?_) (fun c3 => ?_)
    · refine lx_nil <| wi_true rfl <| wi_skip <| wi_seq <| wi_block <| wi_seq <| wi_seq <| wi_reg rfl <| lx_move (.int .i64 ((at_ : Nat) : Int)) rfl rfl <| lx_move (vid) rfl rfl <| lx_len rfl Try.underlying35 ho29.rd rfl <| lx_lssS rfl rfl rfl (fun c4 => ?_) (fun c4 => ?_)
      · refine lx_move (.bool true) rfl rfl <| lx_move (vid) rfl rfl <| lx_move (.int .i64 ((at_ : Nat) : Int)) rfl rfl <| lx_ix (i := at_) rfl eT35 ho29.rd rfl rfl (by first | omega | (simp only [List.length_set, List.length_append, List.length_cons, List.length_nil, List.length_replicate, List.length_take, swp_length, exch_length]; omega)) <| lx_ld (i := at_) (j := 0) (.int .i64 (gt idl at_)) rfl rfl fl3 ho29.rd (by first | omega | (simp only [List.length_set, List.length_append, List.length_cons, List.length_nil, List.length_replicate, List.length_take, swp_length, exch_length]; omega)) rfl rfl <| lx_move (.int .i64 ((k : Nat) : Int)) rfl rfl <| lx_eqlS rfl rfl rfl (fun c5 => ?_) (fun c5 => ?_)
        · refine lx_pick true (.bool true) rfl rfl rfl <| lx_nil <| wi_true rfl <| wi_seq <| wi_reg rfl <| lx_move (.int .i64 ((at_ : Nat) : Int)) rfl rfl <| lx_add (((at_ + 1 : Nat) : Int)) rfl rfl rfl (by omega) (by omega) (by omega) <| lx_assign (.int .i64 ((at_ + 1 : Nat) : Int)) rfl rfl <| lx_nil <| wi_exit rfl <| wi_reg rfl <| lx_move (.int .i64 ((k : Nat) : Int)) rfl rfl <| lx_add (((k + 1 : Nat) : Int)) rfl rfl rfl (by omega) (by omega) (by omega) <| lx_assign (.int .i64 ((k + 1 : Nat) : Int)) rfl rfl <| lx_nil <| ?_
          have hb9 : idleB m net k = true := idle_is (L := net.length) (by omega) (by rw [← hat, ← hide]; omega) (by rw [← hat, ← hide]; omega)
          -- L2.1
          refine IH1 _ _ (k + 1, at_ + 1, vr, rest) (agree_ups rfl agree_self) ⟨rfl, rfl, rfl, trivial⟩ ⟨?_, ?_, ?_, hx0_9, hdj1, hdj2, ?_, ?_, ?_⟩ ?_
          · first | exact ho28 | (simpa using ho28)
          · first | exact ho29 | (simpa using ho29)
          · first | exact ho30 | (simpa using ho30)
          · try dsimp only
            omega
          · try dsimp only
            rw [hat]; exact (idle_yes (L := net.length) (by omega) hb9).2.2.symm
          · try dsimp only
            show _ = restF m net k ++ (if idleB m net k then [] else [gt net k])
            rw [hb9, hrest]; simp
          · first | omega | (dsimp only; omega)
        · refine lx_pick true (.bool false) rfl rfl rfl <| lx_nil <| wi_false rfl <| wi_skip <| wi_reg rfl <| lx_move (vr) rfl rfl <| lx_move (vo) rfl rfl <| lx_move (.int .i64 ((k : Nat) : Int)) rfl rfl <| lx_ix (i := k) rfl eT38 ho28.rd rfl rfl (by first | omega | (simp only [List.length_set, List.length_append, List.length_cons, List.length_nil, List.length_replicate, List.length_take, swp_length, exch_length]; omega)) <| lx_ldA (i := k) [.int .i64 ((gt net k).1), .int .i64 ((gt net k).2)] rfl rfl wd60 ho28.rd (by first | omega | (simp only [List.length_set, List.length_append, List.length_cons, List.length_nil, List.length_replicate, List.length_take, swp_length, exch_length]; omega)) rfl rfl <| lx_appendL (E := encP) (B := h.size) [((gt net k).1, (gt net k).2)] [.agg #[.int .i64 ((gt net k).1), .int .i64 ((gt net k).2)]] rfl rfl (fun _ => rfl) rfl eT38 rfl rfl rfl rfl ho30 (fun _ => rfl) (by show rest.length + 1 ≤ _; omega) (by show (rest.length + 1) * 16 ≤ _; omega) hx0_9.size (fun _ _ => trivial) fun u1 v2 h11 ho31 hc2 hg2 => ?_
          have hx0_10 := hx0_9.trans (ho30.ext hc2 hx0_9.size)
          have ho32 := ho28.chg hc2 (Dj.symm hdj1)
          have ho33 := ho29.chg hc2 (Dj.symm hdj2)
          refine lx_assign (v2) rfl rfl <| lx_nil <| wi_inBlock <| wi_reg rfl <| lx_move (.int .i64 ((k : Nat) : Int)) rfl rfl <| lx_add (((k + 1 : Nat) : Int)) rfl rfl rfl (by omega) (by omega) (by omega) <| lx_assign (.int .i64 ((k + 1 : Nat) : Int)) rfl rfl <| lx_nil <| ?_
          have hb9 : idleB m net k = false := idle_not (L := net.length) (by omega) (by rw [← hat, ← hide]; rintro ⟨h1, h2⟩; omega)
          -- L2.2
          refine IH1 _ _ (k + 1, at_, v2, rest ++ [((gt net k).1, (gt net k).2)]) (agree_ups rfl agree_self) ⟨rfl, rfl, rfl, trivial⟩ ⟨?_, ?_, ?_, hx0_10, (Dj.symm (dj_app (Dj.symm hdj1) ho28 hg2)), (Dj.symm (dj_app (Dj.symm hdj2) ho29 hg2)), ?_, ?_, ?_⟩ ?_
          · first | exact ho32 | (simpa using ho32)
          · first | exact ho33 | (simpa using ho33)
          · first | exact ho31 | (simpa using ho31)
          · try dsimp only
            omega
          · try dsimp only
            rw [hat]; exact (idle_no (L := net.length) (by omega) hb9).2.symm
          · try dsimp only
            show _ = restF m net k ++ (if idleB m net k then [] else [gt net k])
            rw [hb9, hrest]; rfl
          · first | omega | (dsimp only; omega)
      · refine lx_move (.bool false) rfl rfl <| lx_skip rfl <| lx_skip rfl <| lx_skip rfl <| lx_skip rfl <| lx_skip rfl <| lx_skip rfl <| lx_pick false (.bool false) rfl rfl rfl <| lx_nil <| wi_false rfl <| wi_skip <| wi_reg rfl <| lx_move (vr) rfl rfl <| lx_move (vo) rfl rfl <| lx_move (.int .i64 ((k : Nat) : Int)) rfl rfl <| lx_ix (i := k) rfl eT38 ho28.rd rfl rfl (by first | omega | (simp only [List.length_set, List.length_append, List.length_cons, List.length_nil, List.length_replicate, List.length_take, swp_length, exch_length]; omega)) <| lx_ldA (i := k) [.int .i64 ((gt net k).1), .int .i64 ((gt net k).2)] rfl rfl wd60 ho28.rd (by first | omega | (simp only [List.length_set, List.length_append, List.length_cons, List.length_nil, List.length_replicate, List.length_take, swp_length, exch_length]; omega)) rfl rfl <| lx_appendL (E := encP) (B := h.size) [((gt net k).1, (gt net k).2)] [.agg #[.int .i64 ((gt net k).1), .int .i64 ((gt net k).2)]] rfl rfl (fun _ => rfl) rfl eT38 rfl rfl rfl rfl ho30 (fun _ => rfl) (by show rest.length + 1 ≤ _; omega) (by show (rest.length + 1) * 16 ≤ _; omega) hx0_9.size (fun _ _ => trivial) fun u2 v3 h12 ho34 hc3 hg3 => ?_
        have hx0_11 := hx0_9.trans (ho30.ext hc3 hx0_9.size)
        have ho35 := ho28.chg hc3 (Dj.symm hdj1)
        have ho36 := ho29.chg hc3 (Dj.symm hdj2)
        refine lx_assign (v3) rfl rfl <| lx_nil <| wi_inBlock <| wi_reg rfl <| lx_move (.int .i64 ((k : Nat) : Int)) rfl rfl <| lx_add (((k + 1 : Nat) : Int)) rfl rfl rfl (by omega) (by omega) (by omega) <| lx_assign (.int .i64 ((k + 1 : Nat) : Int)) rfl rfl <| lx_nil <| ?_
        have hb9 : idleB m net k = false := idle_not (L := net.length) (by omega) (by rw [← hat, ← hide]; rintro ⟨h1, h2⟩; omega)
        -- L2.3
        refine IH1 _ _ (k + 1, at_, v3, rest ++ [((gt net k).1, (gt net k).2)]) (agree_ups rfl agree_self) ⟨rfl, rfl, rfl, trivial⟩ ⟨?_, ?_, ?_, hx0_11, (Dj.symm (dj_app (Dj.symm hdj1) ho28 hg3)), (Dj.symm (dj_app (Dj.symm hdj2) ho29 hg3)), ?_, ?_, ?_⟩ ?_
        · first | exact ho35 | (simpa using ho35)
        · first | exact ho36 | (simpa using ho36)
        · first | exact ho34 | (simpa using ho34)
        · try dsimp only
          omega
        · try dsimp only
          rw [hat]; exact (idle_no (L := net.length) (by omega) hb9).2.symm
        · try dsimp only
          show _ = restF m net k ++ (if idleB m net k then [] else [gt net k])
          rw [hb9, hrest]; rfl
        · first | omega | (dsimp only; omega)
    · refine lx_nil <| wi_false rfl <| wi_exit rfl <| wi_seq <| wi_reg rfl <| ?_
      have hkl : k = net.length := by omega
      have hrl := restF_length m net k
      have hrn : NetLt m rest := by rw [hrest]; exact rest_lt hnn (by omega)
      have hchk2 := netLt_chk hm1.1 hm1.2 (show rest.length ≤ 200 by rw [hrest]; omega) hrn
      refine lx_move (.int .i64 ((m : Nat) : Int)) rfl rfl <| lx_move (vr) rfl rfl <| lx_call [.int .i64 ((m : Nat) : Int), vr] rfl rfl Try.call35 rfl (fails_spec hh2 (((m : Nat) : Int)) vr rest ho30.rd (by omega)) (fun _ _ _ => trivial) ?_
      rintro _ h13 ⟨p_1, b_1, rfl, hf_2, hx8⟩
      have hx0_12 := hx0_9.trans2 hx8 hx0_9.size
      have ho37 := ho28.extS hx8
      have ho38 := ho29.extS hx8
      have ho39 := ho30.extS hx8
      refine lx_move (.tuple #[.int .i64 ((p_1 : Nat) : Int), .bool b_1, .int .i64 (chkNet validC (((m : Nat) : Int)) rest)]) rfl rfl <| lx_extract (.int .i64 ((p_1 : Nat) : Int)) rfl rfl rfl <| lx_extract (.bool b_1) rfl rfl rfl <| lx_extract (.int .i64 (chkNet validC (((m : Nat) : Int)) rest)) rfl rfl rfl <| lx_assign (.int .i64 ((p_1 : Nat) : Int)) rfl rfl <| lx_assign (.bool b_1) rfl rfl <| lx_assign (.int .i64 (chkNet validC (((m : Nat) : Int)) rest)) rfl rfl <| lx_nil <| wi_seq <| wi_seq <| wi_reg rfl <| ?_
      have hfa2 := good_ hf_2 hchk2
      rw [Int.toNat_natCast] at hfa2
      obtain rfl := fails_no hfa2 (by rw [hrest, hkl]; exact rest_ok hm1.2 hno)
      refine lx_move (.int .i64 (chkNet validC (((m : Nat) : Int)) net)) rfl rfl <| lx_neqF rfl rfl rfl (fun h => h hchk) <| lx_move (.bool false) rfl rfl <| lx_move (.int .i64 (chkNet validC (((m : Nat) : Int)) rest)) rfl rfl <| lx_neqF rfl rfl rfl (fun h => h hchk2) <| lx_pick false (.bool false) rfl rfl rfl <| lx_move (.bool false) rfl rfl <| lx_move (.bool false) rfl rfl <| lx_pick false (.bool false) rfl rfl rfl <| lx_nil <| wi_false rfl <| wi_skip <| wi_seq <| wi_reg rfl <| lx_move (.int .i64 ((m : Nat) : Int)) rfl rfl <| lx_move (vl) rfl rfl <| lx_call [.int .i64 ((m : Nat) : Int), vl, .int .i64 1, .bool false] rfl rfl Try.call24 rfl (tame_spec h13 m vl ls 1 false (hr_vl.extS hx0_12) (by omega) (by omega) (by omega)) (fun _ _ _ => trivial) ?_
      rintro vmore h14 ⟨_, rfl, ho40, hx9⟩
      have hx0_13 := hx0_12.trans2 hx9 hx0_12.size
      have ho41 := ho37.extS hx9
      have ho42 := ho38.extS hx9
      have ho43 := ho39.extS hx9
      have ho44 := ho40.base hx0_12.size
      refine lx_assign (vmore) rfl rfl <| lx_nil <| wi_seq <| wi_reg rfl <| ?_
      have htl1 := tameF_length (n := m) (most := 1) (loose := false) (ls := ls)
      have htn1 := tame_lt (m := m) (most := 1) (ls := ls) hm1.1 hm1.2 (by omega)
      have hchk3 := netLt_chk hm1.1 hm1.2 (show (tameF m 1 false ls ++ net).length ≤ 200 by rw [List.length_append]; omega) (htn1.append hnn)
      refine lx_move (.int .i64 ((m : Nat) : Int)) rfl rfl <| lx_move (vmore) rfl rfl <| lx_move (vo) rfl rfl <| lx_append (E := encP) (B := h.size) (xs := tameF m 1 false ls) (ys := net) rfl rfl eT38 ho44 ho41.rd rfl rfl (by first | omega | (simp only [List.length_nil, List.length_take]; omega)) (by first | omega | (simp only [List.length_nil, List.length_take]; omega)) hx0_13.size (fun _ _ => trivial) fun v4 h15 ho45 hc4 hg4 => ?_
      have hx0_14 := hx0_13.trans (ho44.ext hc4 hx0_13.size)
      have ho46 := ho41.chg hc4 (dj_new ho37 ho40)
      have ho47 := ho42.chg hc4 (dj_new ho38 ho40)
      have ho48 := ho43.chg hc4 (dj_new ho39 ho40)
      refine lx_call [.int .i64 ((m : Nat) : Int), v4] rfl rfl Try.call35 rfl (fails_spec h15 (((m : Nat) : Int)) v4 ((tameF m 1 false ls) ++ net) ho45.rd (by rw [List.length_append]; omega)) (fun _ _ _ => trivial) ?_
      rintro _ h16 ⟨p_2, b_2, rfl, hf_3, hx10⟩
      have hx0_15 := hx0_14.trans2 hx10 hx0_14.size
      have ho49 := ho46.extS hx10
      have ho50 := ho47.extS hx10
      have ho51 := ho48.extS hx10
      have ho52 := ho45.extS hx10
      refine lx_move (.tuple #[.int .i64 ((p_2 : Nat) : Int), .bool b_2, .int .i64 (chkNet validC (((m : Nat) : Int)) ((tameF m 1 false ls) ++ net))]) rfl rfl <| lx_extract (.int .i64 ((p_2 : Nat) : Int)) rfl rfl rfl <| lx_extract (.bool b_2) rfl rfl rfl <| lx_extract (.int .i64 (chkNet validC (((m : Nat) : Int)) ((tameF m 1 false ls) ++ net))) rfl rfl rfl <| lx_assign (.int .i64 ((p_2 : Nat) : Int)) rfl rfl <| lx_assign (.bool b_2) rfl rfl <| lx_assign (.int .i64 (chkNet validC (((m : Nat) : Int)) ((tameF m 1 false ls) ++ net))) rfl rfl <| lx_nil <| wi_seq <| wi_reg rfl <| ?_
      have hfa3 := good_ hf_3 hchk3
      rw [Int.toNat_natCast] at hfa3
      obtain rfl := fails_no hfa3 (before_ok hnn htn1 hno)
      have hchk4 := netLt_chk hm1.1 hm1.2 (show (net ++ tameF m 1 false ls).length ≤ 200 by rw [List.length_append]; omega) (hnn.append htn1)
      refine lx_assign (.slice none 0 0) rfl rfl <| lx_nil <| wi_seq <| wi_reg rfl <| lx_move (.slice none 0 0) rfl rfl <| lx_move (vo) rfl rfl <| lx_append (E := encP) (B := h.size) (xs := []) (ys := net) rfl rfl eT38 (owE_nil encP _ h.size 60) ho49.rd rfl rfl (by first | omega | (simp only [List.length_nil, List.length_take]; omega)) (by first | omega | (simp only [List.length_nil, List.length_take]; omega)) hx0_15.size (fun _ _ => trivial) fun v5 h17 ho53 hc5 hg5 => ?_
      have hx0_16 := hx0_15.trans ((owE_nil encP _ h.size 60).ext hc5 hx0_15.size)
      have ho54 := ho49.chg hc5 (dj_nil_r _)
      have ho55 := ho50.chg hc5 (dj_nil_r _)
      have ho56 := ho51.chg hc5 (dj_nil_r _)
      have ho57 := ho52.chg hc5 (dj_nil_r _)
      rw [List.nil_append] at ho53
      refine lx_assign (v5) rfl rfl <| lx_nil <| wi_seq <| wi_reg rfl <| lx_move (.int .i64 ((m : Nat) : Int)) rfl rfl <| lx_move (v5) rfl rfl <| lx_move (.int .i64 ((m : Nat) : Int)) rfl rfl <| lx_move (vl) rfl rfl <| lx_call [.int .i64 ((m : Nat) : Int), vl, .int .i64 1, .bool false] rfl rfl Try.call24 rfl (tame_spec h17 m vl ls 1 false (hr_vl.extS hx0_16) (by omega) (by omega) (by omega)) (fun _ _ _ => trivial) ?_
      rintro vt3 h18 ⟨_, rfl, ho58, hx11⟩
      have hx0_17 := hx0_16.trans2 hx11 hx0_16.size
      have ho59 := ho54.extS hx11
      have ho60 := ho55.extS hx11
      have ho61 := ho56.extS hx11
      have ho62 := ho57.extS hx11
      have ho63 := ho53.extS hx11
      have ho64 := ho58.base hx0_16.size
      refine lx_append (E := encP) (B := h.size) (xs := net) (ys := tameF m 1 false ls) rfl rfl eT38 ho63 ho64.rd rfl rfl (by first | omega | (simp only [List.length_nil, List.length_take]; omega)) (by first | omega | (simp only [List.length_nil, List.length_take]; omega)) hx0_17.size (fun _ _ => trivial) fun v6 h19 ho65 hc6 hg6 => ?_
      have hx0_18 := hx0_17.trans (ho63.ext hc6 hx0_17.size)
      have ho66 := ho59.chg hc6 (dj_app (dj_nil_r _) ho49 hg5)
      have ho67 := ho60.chg hc6 (dj_app (dj_nil_r _) ho50 hg5)
      have ho68 := ho61.chg hc6 (dj_app (dj_nil_r _) ho51 hg5)
      have ho69 := ho62.chg hc6 (dj_app (dj_nil_r _) ho52 hg5)
      have ho70 := ho64.chg hc6 (Dj.symm (dj_new ho53 ho58))
      refine lx_call [.int .i64 ((m : Nat) : Int), v6] rfl rfl Try.call35 rfl (fails_spec h19 (((m : Nat) : Int)) v6 (net ++ (tameF m 1 false ls)) ho65.rd (by rw [List.length_append]; omega)) (fun _ _ _ => trivial) ?_
      rintro _ h20 ⟨p_3, b_3, rfl, hf_4, hx12⟩
      have hx0_19 := hx0_18.trans2 hx12 hx0_18.size
      have ho71 := ho66.extS hx12
      have ho72 := ho67.extS hx12
      have ho73 := ho68.extS hx12
      have ho74 := ho69.extS hx12
      have ho75 := ho70.extS hx12
      have ho76 := ho65.extS hx12
      refine lx_move (.tuple #[.int .i64 ((p_3 : Nat) : Int), .bool b_3, .int .i64 (chkNet validC (((m : Nat) : Int)) (net ++ (tameF m 1 false ls)))]) rfl rfl <| lx_extract (.int .i64 ((p_3 : Nat) : Int)) rfl rfl rfl <| lx_extract (.bool b_3) rfl rfl rfl <| lx_extract (.int .i64 (chkNet validC (((m : Nat) : Int)) (net ++ (tameF m 1 false ls)))) rfl rfl rfl <| lx_assign (.int .i64 ((p_3 : Nat) : Int)) rfl rfl <| lx_assign (.bool b_3) rfl rfl <| lx_assign (.int .i64 (chkNet validC (((m : Nat) : Int)) (net ++ (tameF m 1 false ls)))) rfl rfl <| lx_nil <| wi_seq <| wi_reg rfl <| ?_
      have hfa4 := good_ hf_4 hchk4
      rw [Int.toNat_natCast] at hfa4
      obtain rfl := fails_no hfa4 (after_ok hnn htn1 hno)
      refine lx_move (.int .i64 (chkNet validC (((m : Nat) : Int)) ((tameF m 1 false ls) ++ net))) rfl rfl <| lx_eqlT rfl rfl rfl hchk3 <| lx_move (.bool true) rfl rfl <| lx_move (.int .i64 (chkNet validC (((m : Nat) : Int)) (net ++ (tameF m 1 false ls)))) rfl rfl <| lx_eqlT rfl rfl rfl hchk4 <| lx_pick true (.bool true) rfl rfl rfl <| lx_move (.bool true) rfl rfl <| lx_move (.bool false) rfl rfl <| lx_notB true rfl rfl rfl <| lx_pick true (.bool true) rfl rfl rfl <| lx_move (.bool true) rfl rfl <| lx_move (.bool false) rfl rfl <| lx_notB true rfl rfl rfl <| lx_pick true (.bool true) rfl rfl rfl <| lx_move (.bool true) rfl rfl <| lx_call [] rfl rfl Try.call15 rfl (awake_spec h20 ) (fun _ _ _ => trivial) ?_
      rintro _ h21 ⟨rfl, hx13⟩
      have hx0_20 := hx0_19.trans2 hx13 hx0_19.size
      have ho77 := ho71.extS hx13
      have ho78 := ho72.extS hx13
      have ho79 := ho73.extS hx13
      have ho80 := ho74.extS hx13
      have ho81 := ho75.extS hx13
      have ho82 := ho76.extS hx13
      refine lx_pick true (.bool true) rfl rfl rfl <| lx_assign (.bool true) rfl rfl <| lx_nil <| ?_
      -- R1
      refine wi_ret ⟨.bool true, (res_one rfl rfl), ⟨rfl, hx0_20⟩⟩
  · refine lx_move (.bool true) rfl rfl <| lx_notB false rfl rfl rfl <| lx_move (.bool false) rfl rfl <| lx_skip rfl <| lx_skip rfl <| lx_skip rfl <| lx_pick false (.bool false) rfl rfl rfl <| lx_pick false (.bool false) rfl rfl rfl <| lx_nil <| wi_false rfl <| wi_skip <| wi_seq <| wi_seq <| wi_reg rfl <| lx_move (.bool true) rfl rfl <| lx_nil <| wi_true rfl <| wi_seq <| wi_reg rfl <| lx_assign (.slice none 0 0) rfl rfl <| lx_nil <| wi_seq <| wi_seq <| wi_reg rfl <| lx_assign (.int .i64 0) rfl rfl <| lx_nil <| wi_block <| ?_
    refine wi_loop (σ := Nat × Value × (List Int)) (rngB 87 100 [15, 16]) (fun (ss : Nat × Value × (List Int)) => [(16, .int .i64 ((ss.1 : Nat) : Int)), (15, ss.2.1)]) (fun (ss : Nat × Value × (List Int)) (hh : Heap) => OwE encP hh h.size 60 vo net ∧ OwE encI hh h.size 2 ss.2.1 ss.2.2 ∧ Ext h.size h hh ∧ Dj ss.2.1 vo ∧ (ss.1 ≤ m) ∧ (ss.2.2 = bitsV ss.1 pf)) (fun (ss : Nat × Value × (List Int)) => m - ss.1) (0, .slice none 0 0, []) ⟨rfl, rfl, trivial⟩ ⟨?_, ?_, hx0_6, (dj_nil_l _), ?_, ?_⟩ ?_
    · first | exact ho14 | (simpa using ho14)
    · first | exact (owE_nil encI _ h.size 2) | (simpa using (owE_nil encI _ h.size 2))
    · try dsimp only
      omega
    · try dsimp only
      first | done | rfl
    rintro g3 ⟨i, vi, ins⟩ hh3 ⟨ho83, ho84, hx0_21, hdj3, hi, hins⟩ IH2
    dsimp only at *
    have hil : ins.length = i := by rw [hins]; exact bitsV_length _ _
    refine wi_seq <| wi_seq <| wi_reg rfl <| lx_move (.int .i64 ((i : Nat) : Int)) rfl rfl <| lx_move (.int .i64 ((m : Nat) : Int)) rfl rfl <| lx_lssS rfl rfl rfl (fun c6 => ?_) (fun c6 => ?_)
    · refine lx_nil <| wi_true rfl <| wi_skip <| wi_seq <| wi_block <| wi_reg rfl <| lx_move (vi) rfl rfl <| lx_move (.int .i64 ((pf : Nat) : Int)) rfl rfl <| lx_move (.int .i64 ((i : Nat) : Int)) rfl rfl <| lx_conv ((i : Nat) : Int) rfl Try.underlying3 Try.underlying26 rfl (wrap_u64 (by omega) (by omega)) <| lx_shr (m := pf) (n := i) rfl rfl rfl (by show _ ≤ 64; omega) <| lx_rem (m := pf / 2 ^ i) (n := 2) rfl rfl rfl (by omega) <| lx_appendL (E := encI) (B := h.size) [(((pf / 2 ^ i) % 2 : Nat) : Int)] [.int .i64 (((pf / 2 ^ i) % 2 : Nat) : Int)] rfl rfl (fun _ => rfl) rfl eT29 rfl rfl rfl rfl ho84 (fun _ => rfl) (by show ins.length + 1 ≤ _; omega) (by show (ins.length + 1) * 8 ≤ _; omega) hx0_21.size (fun _ _ => trivial) fun u3 v7 h22 ho85 hc7 hg7 => ?_
      have hx0_22 := hx0_21.trans (ho84.ext hc7 hx0_21.size)
      have ho86 := ho83.chg hc7 (Dj.symm hdj3)
      refine lx_assign (v7) rfl rfl <| lx_nil <| wi_inBlock <| wi_reg rfl <| lx_move (.int .i64 ((i : Nat) : Int)) rfl rfl <| lx_add (((i + 1 : Nat) : Int)) rfl rfl rfl (by omega) (by omega) (by omega) <| lx_assign (.int .i64 ((i + 1 : Nat) : Int)) rfl rfl <| lx_nil <| ?_
      -- L0.1
      refine IH2 _ _ (i + 1, v7, ins ++ [(((pf / 2 ^ i) % 2 : Nat) : Int)]) (agree_ups rfl agree_self) ⟨rfl, rfl, trivial⟩ ⟨?_, ?_, hx0_22, (Dj.symm (dj_app (Dj.symm hdj3) ho83 hg7)), ?_, ?_⟩ ?_
      · first | exact ho86 | (simpa using ho86)
      · first | exact ho85 | (simpa using ho85)
      · try dsimp only
        omega
      · try dsimp only
        rw [bitsV_succ, hins]
      · first | omega | (dsimp only; omega)
    · refine lx_nil <| wi_false rfl <| wi_exit rfl <| wi_seq <| wi_reg rfl <| ?_
      obtain ⟨hp2, hbad⟩ := yes_fails (failsAt hfa (by assumption))
      have hie : ins = bitsV m pf := by rw [hins, show i = m from by omega]
      refine lx_move (.int .i64 ((m : Nat) : Int)) rfl rfl <| lx_move (vo) rfl rfl <| lx_move (vi) rfl rfl <| lx_call [.int .i64 ((m : Nat) : Int), vo, vi] rfl rfl Try.call34 rfl (run_spec2 hh3 (((m : Nat) : Int)) vo net vi ins ho83.rd ho84.rd (by omega) (by omega)) (fun _ _ _ => trivial) ?_
      rintro _ h23 ⟨vx2, yr2, rfl, ho87, hrv_2, hx14⟩
      have hx0_23 := hx0_21.trans2 hx14 hx0_21.size
      have ho88 := ho83.extS hx14
      have ho89 := ho84.extS hx14
      have ho90 := ho87.base hx0_21.size
      refine lx_move (.tuple #[vx2, .int .i64 (runE (((m : Nat) : Int)) net ins)]) rfl rfl <| lx_extract (vx2) rfl rfl rfl <| lx_extract (.int .i64 (runE (((m : Nat) : Int)) net ins)) rfl rfl rfl <| lx_assign (vx2) rfl rfl <| lx_assign (.int .i64 (runE (((m : Nat) : Int)) net ins)) rfl rfl <| lx_nil <| wi_seq <| wi_reg rfl <| ?_
      have hre2 := runE_zero (ls := net) (xs := ins) hchk (by omega)
      have hrv2 := good_ hrv_2 hre2
      have hyl2 : yr2.length = m := by rw [hrv2, runV_length]; omega
      refine lx_move (.int .i64 (runE (((m : Nat) : Int)) net ins)) rfl rfl <| lx_eqlT rfl rfl rfl hre2 <| lx_move (.bool true) rfl rfl <| lx_move (vx2) rfl rfl <| lx_call [vx2] rfl rfl Try.call19 rfl (inOrder_spec h23 vx2 yr2 ho90.rd (by omega)) (fun _ _ _ => trivial) ?_
      rintro _ h24 ⟨rfl, rfl⟩
      rw [show inOrd yr2 = false from by rw [hrv2, hie, inOrd_bits hnn.ok hp2, hbad]; rfl]
      refine lx_notB true rfl rfl rfl <| lx_pick true (.bool true) rfl rfl rfl <| lx_move (.bool true) rfl rfl <| lx_call [] rfl rfl Try.call15 rfl (awake_spec h23 ) (fun _ _ _ => trivial) ?_
      rintro _ h25 ⟨rfl, hx15⟩
      have hx0_24 := hx0_23.trans2 hx15 hx0_23.size
      have ho91 := ho88.extS hx15
      have ho92 := ho89.extS hx15
      have ho93 := ho90.extS hx15
      refine lx_pick true (.bool true) rfl rfl rfl <| lx_assign (.bool true) rfl rfl <| lx_nil <| ?_
      -- R2
      refine wi_ret ⟨.bool true, (res_one rfl rfl), ⟨rfl, hx0_24⟩⟩

end Go.Proofs.Ytjfickfgpkejpaa
