/-
  Walks: the outputs of a network.
-/
import Derived.Test.YtdokijbdnajhgaaOM
import Derived.Test.YtdokijbdnajhgaaXOSortB
import Derived.Test.YtdokijbdnajhgaaXOut
set_option linter.unusedSimpArgs false
set_option linter.unusedVariables false
namespace Go.Proofs.Ytdokijbdnajhgaa
open Go Go.X

set_option maxRecDepth 10000 in
theorem outputs_spec (h : Heap) (n : Int) (vl : Value) (ls : List (Int × Int)) (hr_vl : RdE encP h vl ls) (hp1 : ls.length ≤ 4611686018427387904) : Fx Try.prog 70 [.int .i64 n, vl] h (fun v h' => ∃ (s : Value) (ys : List Int), v = .tuple #[s, .int .i64 (chkNet validC n ls)] ∧ OwE encI h' h.size 3 s ys ∧ ((chkNet validC n ls ≠ 0 ∧ ys = []) ∨ (chkNet validC n ls = 0 ∧ ys = outsF n.toNat ls)) ∧ Ext h.size h h') := by
  refine fx_intro (n := 36) [(0, .int .i64 n), (1, vl)] Try.func70 rfl rfl (by simp) ⟨rfl, rfl, trivial⟩ fun g0 => ?_
  refine wi_seq <| wi_reg rfl <| lx_assign (.slice none 0 0) rfl rfl <| lx_assign (.int .i64 0) rfl rfl <| lx_nil <| wi_seq <| wi_seq <| wi_reg rfl <| lx_move (.int .i64 n) rfl rfl <| lx_move (vl) rfl rfl <| lx_call [.int .i64 n, vl] rfl rfl Try.call120 rfl (check_spec h n vl ls hr_vl (by omega)) (fun _ _ _ => trivial) ?_
  rintro _ h1 ⟨rfl, hx1⟩
  refine lx_assign (.int .i64 (chkNet validC n ls)) rfl rfl <| lx_nil <| wi_seq <| wi_reg rfl <| lx_move (.int .i64 (chkNet validC n ls)) rfl rfl <| lx_neqS rfl rfl rfl (fun c1 => ?_) (fun c1 => ?_)
  · refine lx_nil <| wi_true rfl <| wi_seq <| wi_reg rfl <| lx_move (.int .i64 (chkNet validC n ls)) rfl rfl <| lx_assign (.slice none 0 0) rfl rfl <| lx_assign (.int .i64 (chkNet validC n ls)) rfl rfl <| lx_nil <| ?_
    -- R1
    refine wi_ret ⟨.tuple #[.slice none 0 0, .int .i64 (chkNet validC n ls)], (res_two rfl rfl rfl), ⟨.slice none 0 0, [], rfl, (owE_nil encI _ h.size 3), ?_, hx1⟩⟩
    · exact .inl ⟨by omega, rfl⟩
  · refine lx_nil <| wi_false rfl <| wi_skip <| wi_seq <| wi_reg rfl <| ?_
    have hk : chkNet validC n ls = 0 := by omega
    obtain ⟨hn1, hn2, hn3, hn4⟩ := chkNet_ok hk
    obtain ⟨m, rfl⟩ : ∃ m : Nat, n = ((m : Nat) : Int) := ⟨n.toNat, by omega⟩
    have hpw := pow10 (show m ≤ 10 by omega)
    refine lx_move (.int .i64 ((m : Nat) : Int)) rfl rfl <| lx_move (vl) rfl rfl <| lx_call [.int .i64 ((m : Nat) : Int), vl] rfl rfl Try.call121 rfl (run_spec h1 m vl ls (hr_vl.extS hx1) (by omega) (by omega) hn4) (fun _ _ _ => trivial) ?_
    rintro _ h2 ⟨ws_1, rfl, hw_1, hx2⟩
    have hx0_1 := hx1.trans2 hx2 hx1.size
    have hwl_1 := hw_1.1
    refine lx_alloc rfl rfl Try.zeroValue153 (fun _ _ _ => trivial) fun bn1 h3 hbn1 hbk1 hx3 hsz1 => ?_
    have hbb1 : h.size ≤ bn1 := by have := hx0_1.size; omega
    have hx0_2 := hx0_1.trans2 hx3 hx0_1.size
    have hbk1 : Blk h3 bn1 (wc (List.replicate 160 0)) 153 := by rw [← zc153]; exact hbk1
    refine lx_stBA (wc ws_1) rfl rfl Try.sizeOf153 hbk1 (by rw [wc_size]; first | omega | (simp; done) | (simp; omega)) (by rw [wc_size]; first | omega | (simp; done) | (simp; omega)) rfl rfl (wc_one _) (fun _ _ _ _ => trivial) fun h4 hbk2 hc1 => ?_
    have hx0_3 := hx0_2.trans (hc1.ext hbb1)
    refine lx_nil <| wi_seq <| wi_reg rfl <| lx_assign (.slice none 0 0) rfl rfl <| lx_nil <| wi_seq <| wi_seq <| wi_reg rfl <| lx_move (.int .i64 ((m : Nat) : Int)) rfl rfl <| lx_conv ((m : Nat) : Int) rfl Try.underlying3 Try.underlying45 rfl (wrap_u64 (by omega) (by omega)) <| lx_shl (m := 1) (n := m) rfl rfl rfl (by show _ ≤ 64; omega) (wrap_i64 (by omega) (by omega)) <| lx_move (.int .i64 0) rfl rfl <| lx_nil <| wi_block <| ?_
    refine wi_loop (σ := Nat × Value × (List Int)) (rngB 22 32 [8, 9]) (fun (ss : Nat × Value × (List Int)) => [(22, .int .i64 ((ss.1 : Nat) : Int)), (8, ss.2.1)]) (fun (ss : Nat × Value × (List Int)) (hh : Heap) => OwE encI hh h.size 3 ss.2.1 ss.2.2 ∧ Ext h.size h hh ∧ Blk hh bn1 (wc ws_1) 153 ∧ Value.ownBlock ss.2.1 ≠ some bn1 ∧ (ss.1 ≤ 2 ^ m) ∧ (ss.2.2 = outL m ls ss.1)) (fun (ss : Nat × Value × (List Int)) => 2 ^ m - ss.1) (0, .slice none 0 0, []) ⟨rfl, rfl, trivial⟩ ⟨?_, hx0_3, ?_, (nb_nil _), ?_, ?_⟩ ?_
    · first | exact (owE_nil encI _ h.size 3) | (simpa using (owE_nil encI _ h.size 3))
    · exact hbk2
    · try dsimp only
      exact Nat.zero_le _
    · try dsimp only
      first | done | rfl
    rintro g1 ⟨p, v, ys⟩ hh1 ⟨ho1, hx0_4, hbk3, hdj1, hp, hys⟩ IH1
    dsimp only at *
    have hyl : ys.length = p := by rw [hys]; exact outL_length _ _ _
    refine wi_seq <| wi_reg rfl <| lx_lssS rfl rfl rfl (fun c2 => ?_) (fun c2 => ?_)
    · refine lx_nil <| wi_seq <| wi_true rfl <| wi_skip <| wi_seq <| wi_block <| wi_seq <| wi_reg rfl <| lx_move (.int .i64 ((p : Nat) : Int)) rfl rfl <| lx_assign (.int .i64 ((p : Nat) : Int)) rfl rfl <| lx_nil <| wi_reg rfl <| lx_move (v) rfl rfl <| lx_move (.int .i64 ((m : Nat) : Int)) rfl rfl <| lx_move (.int .i64 ((p : Nat) : Int)) rfl rfl <| lx_call [.pointer (some ⟨bn1, 0, none⟩), .int .i64 ((m : Nat) : Int), .int .i64 ((p : Nat) : Int)] rfl rfl Try.call122 rfl (wpat_spec hh1 m p ws_1 (runF ls (patF m)) bn1 hbk3 hw_1 (by omega) (by omega)) (fun _ _ _ => trivial) ?_
      rintro _ h5 ⟨rfl, rfl⟩
      refine lx_appendL (E := encI) (B := h.size) [((colN m (fun i => (runF ls (patF m)) i p) : Nat) : Int)] [.int .i64 ((colN m (fun i => (runF ls (patF m)) i p) : Nat) : Int)] rfl rfl (fun _ => rfl) rfl eT25 rfl rfl rfl rfl ho1 (fun _ => rfl) (by show ys.length + 1 ≤ _; omega) (by show (ys.length + 1) * 8 ≤ _; omega) hx0_4.size (fun _ _ => trivial) fun u1 v1 h6 ho2 hc2 hg1 => ?_
      have hx0_5 := hx0_4.trans (ho1.ext hc2 hx0_4.size)
      have hb1 := hbk3.chg hc2 hdj1
      refine lx_assign (v1) rfl rfl <| lx_nil <| wi_inBlock <| wi_reg rfl <| lx_add (((p + 1 : Nat) : Int)) rfl rfl rfl (by omega) (by omega) (by omega) <| lx_move (.int .i64 ((p + 1 : Nat) : Int)) rfl rfl <| lx_nil <| ?_
      -- L0.1
      refine IH1 _ _ (p + 1, v1, ys ++ [((colN m (fun i => (runF ls (patF m)) i p) : Nat) : Int)]) (agree_ups rfl agree_self) ⟨rfl, rfl, trivial⟩ ⟨?_, hx0_5, ?_, (nb_app hdj1 hbk3 hg1), ?_, ?_⟩ ?_
      · first | exact ho2 | (simpa using ho2)
      · exact hb1
      · try dsimp only
        omega
      · try dsimp only
        rw [outL_succ, hys]; rfl
      · first | omega | (dsimp only; omega)
    · refine lx_nil <| wi_seq <| wi_false rfl <| wi_exit rfl <| wi_seq <| wi_reg rfl <| ?_
      have hye : ys = outL m ls (2 ^ m) := by rw [hys, show p = 2 ^ m from by omega]
      refine lx_move (v) rfl rfl <| lx_call [v] rfl rfl Try.call82 rfl (lsort_spec hh1 h.size v ys ho1 hx0_4.size (by rw [hye]; exact outL_ne) (by rw [hye, outL_length]; omega)) (fun _ _ _ => trivial) ?_
      rintro _ h7 ⟨rfl, ho3, hx4⟩
      have hx0_6 := hx0_4.trans (ho1.ext hx4 hx0_4.size)
      have hb2 := hbk3.chg hx4 hdj1
      refine lx_nil <| wi_seq <| wi_reg rfl <| lx_move (v) rfl rfl <| lx_call [v] rfl rfl Try.call123 rfl (lcompact_spec h7 h.size v (ys.mergeSort fun x y => decide (x ≤ y)) ho3 hx0_6.size (sort_ne (by rw [hye]; exact outL_ne)) (by rw [sort_len, hye, outL_length]; omega)) (fun _ _ _ => trivial) ?_
      rintro v2 h8 ⟨_, rfl, ho4, hx5⟩
      have hx0_7 := hx0_6.trans (ho3.ext hx5 hx0_6.size)
      have hb3 := hb2.chg hx5 hdj1
      refine lx_assign (v2) rfl rfl <| lx_assign (.int .i64 0) rfl rfl <| lx_nil <| ?_
      -- R2
      refine wi_ret ⟨.tuple #[v2, .int .i64 0], (res_two rfl rfl rfl), ⟨v2, Lib.compact (ys.mergeSort fun x y => decide (x ≤ y)), ?_, ho4, ?_, hx0_7⟩⟩
      · rw [hk]
      · simp only [Int.toNat_natCast]
        exact .inr ⟨hk, by rw [hye]; exact outs_eq m ls⟩

end Go.Proofs.Ytdokijbdnajhgaa
