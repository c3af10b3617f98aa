/-
  Walks: ideals.
-/
import Derived.Test.YtdokijbdnajhgaaOF
set_option linter.unusedSimpArgs false
set_option linter.unusedVariables false
namespace Go.Proofs.Ytdokijbdnajhgaa
open Go Go.X

set_option maxRecDepth 10000 in
theorem ideals_spec (h : Heap) (vp : Value) (hs : List Hdr) (p : List (List Bool)) (hr_vp : RdE encHd h vp hs) (ht_vp : RT encB h hs p) (hp1 : p.length ≤ 12) (hp2 : Sq p p.length) : Fx Try.prog 76 [vp] h (fun v h' => ∃ (s : Value), v = s ∧ OwE encI h' h.size 3 s (idealsF p.length (pb p)) ∧ Ext h.size h h') := by
  have hl_vp := ht_vp.1
  refine fx_intro (n := 44) [(0, vp)] Try.func76 rfl rfl (by simp) ⟨rfl, trivial⟩ fun g0 => ?_
  refine wi_seq <| wi_reg rfl <| lx_assign (.slice none 0 0) rfl rfl <| lx_nil <| wi_seq <| wi_reg rfl <| lx_assign (.slice none 0 0) rfl rfl <| lx_nil <| wi_seq <| wi_seq <| wi_reg rfl <| ?_
  have hpw := pow12 hp1
  have hpe : 2 ^ hs.length = 2 ^ p.length := by rw [hl_vp]
  refine lx_move (vp) rfl rfl <| lx_len rfl Try.underlying29 hr_vp rfl <| lx_conv ((hs.length : Nat) : Int) rfl Try.underlying3 Try.underlying45 rfl (wrap_u64 (by omega) (by omega)) <| lx_shl (m := 1) (n := hs.length) rfl rfl rfl (by show _ ≤ 64; omega) (wrap_i64 (by omega) (by omega)) <| lx_move (.int .i64 0) rfl rfl <| lx_nil <| wi_block <| ?_
  refine wi_loop (σ := Nat × Value × (List Int)) (rngB 11 43 [3, 4, 5, 6]) (fun (ss : Nat × Value × (List Int)) => [(11, .int .i64 ((ss.1 : Nat) : Int)), (3, ss.2.1)]) (fun (ss : Nat × Value × (List Int)) (hh : Heap) => OwE encI hh h.size 3 ss.2.1 ss.2.2 ∧ Ext h.size h hh ∧ (ss.1 ≤ 2 ^ p.length) ∧ (ss.2.2 = filtF ss.1 (idlB p.length (pb p)))) (fun (ss : Nat × Value × (List Int)) => 2 ^ p.length - ss.1) (0, .slice none 0 0, []) ⟨rfl, rfl, trivial⟩ ⟨?_, (Ext.refl _ _), ?_, ?_⟩ ?_
  · first | exact (owE_nil encI _ h.size 3) | (simpa using (owE_nil encI _ h.size 3))
  · try dsimp only
    exact Nat.zero_le _
  · try dsimp only
    first | done | rfl
  rintro g1 ⟨t, v, xs⟩ hh1 ⟨ho1, hx0_1, hsl, hxs⟩ IH1
  dsimp only at *
  refine wi_seq <| wi_reg rfl <| lx_lssS rfl rfl rfl (fun c1 => ?_) (fun c1 => ?_)
  · refine lx_nil <| wi_seq <| wi_true rfl <| wi_skip <| wi_seq <| wi_block <| wi_seq <| wi_reg rfl <| lx_move (.int .i64 ((t : Nat) : Int)) rfl rfl <| lx_assign (.int .i64 ((t : Nat) : Int)) rfl rfl <| lx_nil <| wi_seq <| wi_reg rfl <| ?_
    have hxl : xs.length ≤ t := by rw [hxs]; exact filtF_length _ _
    refine lx_assign (.bool true) rfl rfl <| lx_nil <| wi_seq <| wi_seq <| wi_reg rfl <| lx_move (vp) rfl rfl <| lx_len rfl Try.underlying29 hr_vp rfl <| lx_move (.int .i64 0) rfl rfl <| lx_nil <| wi_block <| ?_
    refine wi_loop (σ := Nat × Bool) (rngB 16 37 [5, 6]) (fun (ss : Nat × Bool) => [(16, .int .i64 ((ss.1 : Nat) : Int)), (5, .bool ss.2)]) (fun (ss : Nat × Bool) (hh : Heap) => hh1 = hh ∧ (ss.1 ≤ p.length) ∧ (ss.2 = (List.range ss.1).all (fun q => !t.testBit q || incl (dnF p.length (pb p) q) t))) (fun (ss : Nat × Bool) => p.length - ss.1) (0, true) ⟨rfl, rfl, trivial⟩ ⟨rfl, ?_, ?_⟩ ?_
    · try dsimp only
      omega
    · try dsimp only
      first | done | rfl
    rintro g2 ⟨x, w⟩ hh2 ⟨rfl, hx, hw⟩ IH2
    dsimp only at *
    refine wi_seq <| wi_reg rfl <| lx_lssS rfl rfl rfl (fun c2 => ?_) (fun c2 => ?_)
    · refine lx_nil <| wi_seq <| wi_true rfl <| wi_skip <| wi_seq <| wi_block <| wi_seq <| wi_reg rfl <| lx_move (.int .i64 ((x : Nat) : Int)) rfl rfl <| lx_assign (.int .i64 ((x : Nat) : Int)) rfl rfl <| lx_nil <| wi_reg rfl <| ?_
      have hdv := Nat.div_le_self t (2 ^ x)
      have hdl := dnF_lt p.length (pb p) x
      have hbl : t / 2 ^ x &&& 1 ≤ 1 := Nat.and_le_right
      refine lx_move (.bool w) rfl rfl <| lx_move (.bool w) rfl rfl <| ?_
      cases c3 : w
      · refine lx_skip rfl <| lx_skip rfl <| lx_skip rfl <| lx_skip rfl <| lx_skip rfl <| lx_skip rfl <| lx_skip rfl <| lx_skip rfl <| lx_skip rfl <| lx_skip rfl <| lx_skip rfl <| lx_skip rfl <| lx_skip rfl <| lx_skip rfl <| lx_pick false (.bool false) rfl rfl rfl <| lx_assign (.bool false) rfl rfl <| lx_nil <| wi_inBlock <| wi_reg rfl <| lx_add (((x + 1 : Nat) : Int)) rfl rfl rfl (by omega) (by omega) (by omega) <| lx_move (.int .i64 ((x + 1 : Nat) : Int)) rfl rfl <| lx_nil <| ?_
        -- L2.1
        refine IH2 _ _ (x + 1, false) (agree_ups rfl agree_self) ⟨rfl, rfl, trivial⟩ ⟨rfl, ?_, ?_⟩ ?_
        · try dsimp only
          omega
        · try dsimp only
          rw [rall_succ, ← hw]
          first
          | (rw [show w = false from by assumption]; rfl)
          | (rw [show w = true from by assumption, show t.testBit x = false from bit_zero.1 (by omega)]; rfl)
          | (rw [show w = true from by assumption, show t.testBit x = true from bit_nz (by omega)]; exact incl_D)
        · first | omega | (dsimp only; omega)
      · refine lx_move (.int .i64 ((t : Nat) : Int)) rfl rfl <| lx_move (.int .i64 ((x : Nat) : Int)) rfl rfl <| lx_conv ((x : Nat) : Int) rfl Try.underlying3 Try.underlying45 rfl (wrap_u64 (by omega) (by omega)) <| lx_shr (m := t) (n := x) rfl rfl rfl (by show _ ≤ 64; omega) <| lx_and (m := t / 2 ^ x) (n := 1) rfl rfl rfl (by show _ < 2 ^ 64; omega) (by show _ < 2 ^ 64; omega) (wrap_i64 (by omega) (by omega)) <| lx_eqlS rfl rfl rfl (fun c4 => ?_) (fun c4 => ?_)
        · refine lx_move (.bool true) rfl rfl <| lx_skip rfl <| lx_skip rfl <| lx_skip rfl <| lx_skip rfl <| lx_skip rfl <| lx_skip rfl <| lx_pick true (.bool true) rfl rfl rfl <| lx_pick true (.bool true) rfl rfl rfl <| lx_assign (.bool true) rfl rfl <| lx_nil <| wi_inBlock <| wi_reg rfl <| lx_add (((x + 1 : Nat) : Int)) rfl rfl rfl (by omega) (by omega) (by omega) <| lx_move (.int .i64 ((x + 1 : Nat) : Int)) rfl rfl <| lx_nil <| ?_
          -- L2.2
          refine IH2 _ _ (x + 1, true) (agree_ups rfl agree_self) ⟨rfl, rfl, trivial⟩ ⟨rfl, ?_, ?_⟩ ?_
          · try dsimp only
            omega
          · try dsimp only
            rw [rall_succ, ← hw]
            first
            | (rw [show w = false from by assumption]; rfl)
            | (rw [show w = true from by assumption, show t.testBit x = false from bit_zero.1 (by omega)]; rfl)
            | (rw [show w = true from by assumption, show t.testBit x = true from bit_nz (by omega)]; exact incl_D)
          · first | omega | (dsimp only; omega)
        · refine lx_move (.bool false) rfl rfl <| lx_move (vp) rfl rfl <| lx_move (.int .i64 ((x : Nat) : Int)) rfl rfl <| lx_call [vp, .int .i64 ((x : Nat) : Int)] rfl rfl Try.call81 rfl (down_spec hh1 vp hs p x (hr_vp.extS hx0_1) (ht_vp.extS hx0_1) (by omega) (by first | with_reducible assumption | omega) (by omega)) (fun _ _ _ => trivial) ?_
          rintro _ h1 ⟨rfl, rfl⟩
          refine lx_move (.int .i64 ((t : Nat) : Int)) rfl rfl <| lx_andNot (m := dnF p.length (pb p) x) (n := t) rfl rfl rfl (by show _ < 2 ^ 64; omega) (by show _ < 2 ^ 64; omega) (wrap_i64 (by omega) (by have := andNot_le (dnF p.length (pb p) x) t; omega)) <| lx_eql rfl rfl rfl <| lx_pick false (.bool (decide (((andNot (dnF p.length (pb p) x) t : Nat) : Int) = (0 : Int)))) rfl rfl rfl <| lx_pick true (.bool (decide (((andNot (dnF p.length (pb p) x) t : Nat) : Int) = (0 : Int)))) rfl rfl rfl <| lx_assign (.bool (decide (((andNot (dnF p.length (pb p) x) t : Nat) : Int) = (0 : Int)))) rfl rfl <| lx_nil <| wi_inBlock <| wi_reg rfl <| lx_add (((x + 1 : Nat) : Int)) rfl rfl rfl (by omega) (by omega) (by omega) <| lx_move (.int .i64 ((x + 1 : Nat) : Int)) rfl rfl <| lx_nil <| ?_
          -- L2.3
          refine IH2 _ _ (x + 1, decide (((andNot (dnF p.length (pb p) x) t : Nat) : Int) = (0 : Int))) (agree_ups rfl agree_self) ⟨rfl, rfl, trivial⟩ ⟨rfl, ?_, ?_⟩ ?_
          · try dsimp only
            omega
          · try dsimp only
            rw [rall_succ, ← hw]
            first
            | (rw [show w = false from by assumption]; rfl)
            | (rw [show w = true from by assumption, show t.testBit x = false from bit_zero.1 (by omega)]; rfl)
            | (rw [show w = true from by assumption, show t.testBit x = true from bit_nz (by omega)]; exact incl_D)
          · first | omega | (dsimp only; omega)
    · refine lx_nil <| wi_seq <| wi_false rfl <| wi_exit rfl <| wi_seq <| wi_reg rfl <| lx_move (.bool w) rfl rfl <| lx_nil <| wi_condS (t := w) rfl (fun c5 => ?_) (fun c5 => ?_)
      · refine wi_reg rfl <| lx_move (v) rfl rfl <| lx_move (.int .i64 ((t : Nat) : Int)) rfl rfl <| lx_appendL (E := encI) (B := h.size) [((t : Nat) : Int)] [.int .i64 ((t : Nat) : Int)] rfl rfl (fun _ => rfl) rfl eT25 rfl rfl rfl rfl ho1 (fun _ => rfl) (by show xs.length + 1 ≤ _; omega) (by show (xs.length + 1) * 8 ≤ _; omega) hx0_1.size (fun _ _ => trivial) fun u1 v1 h2 ho2 hc1 hg1 => ?_
        have hx0_2 := hx0_1.trans (ho1.ext hc1 hx0_1.size)
        refine lx_assign (v1) rfl rfl <| lx_nil <| wi_inBlock <| wi_reg rfl <| lx_add (((t + 1 : Nat) : Int)) rfl rfl rfl (by omega) (by omega) (by omega) <| lx_move (.int .i64 ((t + 1 : Nat) : Int)) rfl rfl <| lx_nil <| ?_
        -- L0.1
        refine IH1 _ _ (t + 1, v1, xs ++ [((t : Nat) : Int)]) (agree_ups rfl (agree_mix (rngB_sub (by decide) (by decide) rfl) (agree_ups rfl agree_self))) ⟨rfl, rfl, trivial⟩ ⟨?_, hx0_2, ?_, ?_⟩ ?_
        · first | exact ho2 | (simpa using ho2)
        · try dsimp only
          omega
        · try dsimp only
          rw [hxs]
          have hid : w = idlB p.length (pb p) t := by rw [hw, show x = p.length from by omega]; rfl
          first
          | exact filtF_yes (by rw [← hid]; assumption)
          | exact filtF_no (by rw [← hid]; assumption)
        · first | omega | (dsimp only; omega)
      · refine wi_skip <| wi_inBlock <| wi_reg rfl <| lx_add (((t + 1 : Nat) : Int)) rfl rfl rfl (by omega) (by omega) (by omega) <| lx_move (.int .i64 ((t + 1 : Nat) : Int)) rfl rfl <| lx_nil <| ?_
        -- L0.2
        refine IH1 _ _ (t + 1, v, xs) (agree_ups rfl (agree_mix (rngB_sub (by decide) (by decide) rfl) (agree_ups rfl agree_self))) ⟨rfl, rfl, trivial⟩ ⟨?_, hx0_1, ?_, ?_⟩ ?_
        · first | exact ho1 | (simpa using ho1)
        · try dsimp only
          omega
        · try dsimp only
          rw [hxs]
          have hid : w = idlB p.length (pb p) t := by rw [hw, show x = p.length from by omega]; rfl
          first
          | exact filtF_yes (by rw [← hid]; assumption)
          | exact filtF_no (by rw [← hid]; assumption)
        · first | omega | (dsimp only; omega)
  · refine lx_nil <| wi_seq <| wi_false rfl <| wi_exit rfl <| wi_seq <| wi_reg rfl <| lx_move (v) rfl rfl <| lx_assign (v) rfl rfl <| lx_nil <| ?_
    -- R1
    refine wi_ret ⟨v, (res_one rfl rfl), ⟨v, rfl, ?_, hx0_1⟩⟩
    · rw [show idealsF p.length (pb p) = xs from by rw [hxs, show t = 2 ^ p.length from by omega]; rfl]; exact ho1

set_option maxRecDepth 10000 in
theorem oideals_spec (h : Heap) (vp : Value) (hs : List Hdr) (p : List (List Bool)) (hr_vp : RdE encHd h vp hs) (ht_vp : RT encB h hs p) (hp1 : p.length ≤ 1000000) (hp2 : ∀ i, i < p.length → (gt p i).length ≤ 1000000) : Fx Try.prog 16 [vp] h (fun v h' => ∃ (s : Value) (xs : List Int), v = .tuple #[s, .int .i64 (chkT p)] ∧ OwE encI h' h.size 3 s xs ∧ ((chkT p ≠ 0 ∧ xs = []) ∨ (chkT p = 0 ∧ xs = idealsF p.length (pb p))) ∧ Ext h.size h h') := by
  have hl_vp := ht_vp.1
  refine fx_intro (n := 12) [(0, vp)] Try.func16 rfl rfl (by simp) ⟨rfl, trivial⟩ fun g0 => ?_
  refine wi_seq <| wi_reg rfl <| lx_assign (.slice none 0 0) rfl rfl <| lx_assign (.int .i64 0) rfl rfl <| lx_nil <| wi_seq <| wi_seq <| wi_reg rfl <| lx_move (vp) rfl rfl <| lx_call [vp] rfl rfl Try.call62 rfl (ocheck_spec h vp hs p hr_vp ht_vp (by omega) (by first | with_reducible assumption | omega)) (fun _ _ _ => trivial) ?_
  rintro _ h1 ⟨rfl, hx1⟩
  refine lx_assign (.int .i64 (chkT p)) rfl rfl <| lx_nil <| wi_seq <| wi_reg rfl <| lx_move (.int .i64 (chkT p)) rfl rfl <| lx_neqS rfl rfl rfl (fun c1 => ?_) (fun c1 => ?_)
  · refine lx_nil <| wi_true rfl <| wi_seq <| wi_reg rfl <| lx_move (.int .i64 (chkT p)) rfl rfl <| lx_assign (.slice none 0 0) rfl rfl <| lx_assign (.int .i64 (chkT p)) rfl rfl <| lx_nil <| ?_
    -- R1
    refine wi_ret ⟨.tuple #[.slice none 0 0, .int .i64 (chkT p)], (res_two rfl rfl rfl), ⟨.slice none 0 0, [], rfl, (owE_nil encI _ h.size 3), ?_, hx1⟩⟩
    · exact .inl ⟨by omega, rfl⟩
  · refine lx_nil <| wi_false rfl <| wi_skip <| wi_seq <| wi_reg rfl <| ?_
    have hok := chkT_ok (p := p) (by omega)
    have hp12 : p.length ≤ 12 := hok.2.1
    have hpq : Sq p p.length := isT_sq hok.2.2
    refine lx_move (vp) rfl rfl <| lx_call [vp] rfl rfl Try.call76 rfl (ideals_spec h1 vp hs p (hr_vp.extS hx1) (ht_vp.extS hx1) (by omega) (by first | with_reducible assumption | omega)) (fun _ _ _ => trivial) ?_
    rintro v1 h2 ⟨_, rfl, ho1, hx2⟩
    have hx0_1 := hx1.trans2 hx2 hx1.size
    have ho2 := ho1.base hx1.size
    refine lx_assign (v1) rfl rfl <| lx_assign (.int .i64 0) rfl rfl <| lx_nil <| ?_
    -- R2
    refine wi_ret ⟨.tuple #[v1, .int .i64 0], (res_two rfl rfl rfl), ⟨v1, idealsF p.length (pb p), ?_, ho2, ?_, hx0_1⟩⟩
    · rw [show chkT p = 0 from by omega]
    · exact .inr ⟨by omega, rfl⟩

set_option maxRecDepth 10000 in
theorem inclusion_spec (h : Heap) (vl : Value) (xs : List Int) (hr_vl : RdE encI h vl xs) (hp1 : xs.length ≤ 4096) (hp2 : ∀ i, i < xs.length → 0 ≤ gt xs i ∧ gt xs i < 4096) : Fx Try.prog 77 [vl] h (fun v h' => ∃ (s : Value) (hs : List Hdr), v = s ∧ OwE encHd h' h.size 70 s hs ∧ OT encB h' h.size 4 hs (tabF xs.length (incF xs)) ∧ Ext h.size h h') := by
  refine fx_intro (n := 40) [(0, vl)] Try.func77 rfl rfl (by simp) ⟨rfl, trivial⟩ fun g0 => ?_
  refine wi_seq <| wi_reg rfl <| lx_assign (.slice none 0 0) rfl rfl <| lx_nil <| wi_seq <| wi_reg rfl <| lx_move (vl) rfl rfl <| lx_len rfl Try.underlying25 hr_vl rfl <| lx_make (E := encHd) (n := xs.length) (B := h.size) (default : Hdr) rfl rfl Try.underlying29 (eZ29) rfl rfl (by omega) (by omega) (Nat.le_refl _) (fun _ _ => trivial) fun v1 h1 ho1 hx1 hvb1 => ?_
  have ho2 := ho1.base (Nat.le_refl h.size)
  have hot1 := OT.rep encB h1 h.size 4 xs.length
  have hl_hot1 := hot1.1
  refine lx_assign (v1) rfl rfl <| lx_nil <| wi_seq <| wi_seq <| wi_reg rfl <| lx_move (vl) rfl rfl <| lx_len rfl Try.underlying25 hr_vl rfl <| lx_move (.int .i64 0) rfl rfl <| lx_nil <| wi_block <| ?_
  refine wi_loop (σ := Nat × (List Hdr) × (List (List Bool))) (rngB 13 39 [4, 5, 7]) (fun (ss : Nat × (List Hdr) × (List (List Bool))) => [(13, .int .i64 ((ss.1 : Nat) : Int))]) (fun (ss : Nat × (List Hdr) × (List (List Bool))) (hh : Heap) => OwE encHd hh h.size 70 v1 ss.2.1 ∧ OT encB hh h.size 4 ss.2.1 ss.2.2 ∧ Ext h.size h hh ∧ (ss.1 ≤ xs.length) ∧ (ss.2.2.length = xs.length) ∧ (∀ k, k < xs.length → gt ss.2.2 k = if k < ss.1 then rowF xs.length (incF xs k) else [])) (fun (ss : Nat × (List Hdr) × (List (List Bool))) => xs.length - ss.1) (0, List.replicate xs.length default, List.replicate xs.length []) ⟨rfl, trivial⟩ ⟨?_, ?_, hx1, ?_, ?_, ?_⟩ ?_
  · first | exact ho2 | (simpa using ho2)
  · first | exact hot1 | (simpa using hot1)
  · try dsimp only
    omega
  · try dsimp only
    simp
  · try dsimp only
    intro k hk; rw [gt_replicate hk, if_neg (by omega)]
  rintro g1 ⟨i, hs, r⟩ hh1 ⟨ho3, hot2, hx0_1, hi, hrl, hrw⟩ IH1
  dsimp only at *
  have hl_hot2 := hot2.1
  refine wi_seq <| wi_reg rfl <| lx_lssS rfl rfl rfl (fun c1 => ?_) (fun c1 => ?_)
  · refine lx_nil <| wi_seq <| wi_true rfl <| wi_skip <| wi_seq <| wi_block <| wi_seq <| wi_reg rfl <| ?_
    obtain ⟨a, hga, ha4⟩ : ∃ a : Nat, gt xs i = (a : Int) ∧ a < 4096 := ⟨(gt xs i).toNat, by have := hp2 i (by omega); omega, by have := hp2 i (by omega); omega⟩
    refine lx_move (.int .i64 ((i : Nat) : Int)) rfl rfl <| lx_ix (i := i) rfl eT25 hr_vl rfl rfl (by first | omega | (simp only [List.length_set, List.length_append, List.length_cons, List.length_nil, List.length_replicate, List.length_take, swp_length, exch_length]; omega)) <| lx_ld (i := i) (j := 0) (.int .i64 ((a : Nat) : Int)) rfl rfl fl3 (hr_vl.extS hx0_1) (by first | omega | (simp only [List.length_set, List.length_append, List.length_cons, List.length_nil, List.length_replicate, List.length_take, swp_length, exch_length]; omega)) (by show some (Value.int .i64 (gt xs i)) = _; rw [hga]) rfl <| lx_assign (.int .i64 ((i : Nat) : Int)) rfl rfl <| lx_assign (.int .i64 ((a : Nat) : Int)) rfl rfl <| lx_nil <| wi_seq <| wi_reg rfl <| lx_move (vl) rfl rfl <| lx_len rfl Try.underlying25 hr_vl rfl <| lx_move (.int .i64 0) rfl rfl <| lx_nil <| wi_block <| ?_
    refine wi_loop (σ := Nat × (List Hdr) × (List (List Bool))) (rngB 20 38 [7]) (fun (ss : Nat × (List Hdr) × (List (List Bool))) => [(20, .int .i64 ((ss.1 : Nat) : Int))]) (fun (ss : Nat × (List Hdr) × (List (List Bool))) (hh : Heap) => OwE encHd hh h.size 70 v1 ss.2.1 ∧ OT encB hh h.size 4 ss.2.1 ss.2.2 ∧ Ext h.size h hh ∧ (ss.1 ≤ xs.length) ∧ (ss.2.2.length = xs.length) ∧ (∀ k, k < xs.length → gt ss.2.2 k = if k < i then rowF xs.length (incF xs k) else if k = i then (List.range ss.1).map (incF xs i) else [])) (fun (ss : Nat × (List Hdr) × (List (List Bool))) => xs.length - ss.1) (0, hs, r) ⟨rfl, trivial⟩ ⟨?_, ?_, hx0_1, ?_, ?_, ?_⟩ ?_
    · first | exact ho3 | (simpa using ho3)
    · first | exact hot2 | (simpa using hot2)
    · try dsimp only
      omega
    · try dsimp only
      exact hrl
    · try dsimp only
      intro k hk; rw [hrw k hk]; split
      · rfl
      · split <;> rfl
    rintro g2 ⟨j, hs, r⟩ hh2 ⟨ho4, hot3, hx0_2, hj, hrl, hrw⟩ IH2
    dsimp only at *
    have hl_hot3 := hot3.1
    refine wi_seq <| wi_reg rfl <| lx_lssS rfl rfl rfl (fun c2 => ?_) (fun c2 => ?_)
    · refine lx_nil <| wi_seq <| wi_true rfl <| wi_skip <| wi_seq <| wi_block <| wi_seq <| wi_reg rfl <| ?_
      have hri : gt r i = (List.range j).map (incF xs i) := by rw [hrw i (by omega), if_neg (by omega), if_pos rfl]
      have hrl3 : (gt r i).length = j := by rw [hri]; simp
      obtain ⟨b, hgb, hb4⟩ : ∃ b : Nat, gt xs j = (b : Int) ∧ b < 4096 := ⟨(gt xs j).toNat, by have := hp2 j (by omega); omega, by have := hp2 j (by omega); omega⟩
      have hnl := andNot_le a b
      refine lx_ix (i := j) rfl eT25 hr_vl rfl rfl (by first | omega | (simp only [List.length_set, List.length_append, List.length_cons, List.length_nil, List.length_replicate, List.length_take, swp_length, exch_length]; omega)) <| lx_ld (i := j) (j := 0) (.int .i64 ((b : Nat) : Int)) rfl rfl fl3 (hr_vl.extS hx0_2) (by first | omega | (simp only [List.length_set, List.length_append, List.length_cons, List.length_nil, List.length_replicate, List.length_take, swp_length, exch_length]; omega)) (by show some (Value.int .i64 (gt xs j)) = _; rw [hgb]) rfl <| lx_assign (.int .i64 ((b : Nat) : Int)) rfl rfl <| lx_nil <| wi_reg rfl <| lx_move (v1) rfl rfl <| lx_move (.int .i64 ((i : Nat) : Int)) rfl rfl <| lx_move (v1) rfl rfl <| lx_move (.int .i64 ((i : Nat) : Int)) rfl rfl <| lx_ix (i := i) rfl eT29 ho4.rd rfl rfl (by first | omega | (simp only [List.length_set, List.length_append, List.length_cons, List.length_nil, List.length_replicate, List.length_take, swp_length, exch_length]; omega)) <| lx_ld (i := i) (j := 0) ((gt hs i).v) rfl rfl fl70 ho4.rd (by first | omega | (simp only [List.length_set, List.length_append, List.length_cons, List.length_nil, List.length_replicate, List.length_take, swp_length, exch_length]; omega)) rfl rfl <| lx_move (.int .i64 ((a : Nat) : Int)) rfl rfl <| lx_move (.int .i64 ((b : Nat) : Int)) rfl rfl <| lx_andNot (m := a) (n := b) rfl rfl rfl (by show _ < 2 ^ 64; omega) (by show _ < 2 ^ 64; omega) (wrap_i64 (by omega) (by omega)) <| lx_eql rfl rfl rfl <| lx_appendL (E := encB) (B := h.size) [decide (((andNot a b : Nat) : Int) = (0 : Int))] [.bool (decide (((andNot a b : Nat) : Int) = (0 : Int)))] rfl rfl (fun _ => rfl) rfl eT70 rfl rfl rfl rfl (hot3.2.1 i (by first | omega | (simp only [List.length_set, List.length_append, List.length_cons, List.length_nil, List.length_replicate, List.length_take, swp_length, exch_length]; omega))) (fun _ => rfl) (by show (gt r i).length + 1 ≤ _; omega) (by show ((gt r i).length + 1) * 1 ≤ _; omega) hx0_2.size (fun _ _ => trivial) fun u1 v2 h2 ho5 hc1 hg1 => ?_
      have hx0_3 := hx0_2.trans ((hot3.2.1 i (by first | omega | (simp only [List.length_set, List.length_append, List.length_cons, List.length_nil, List.length_replicate, List.length_take, swp_length, exch_length]; omega))).ext hc1 hx0_2.size)
      have ho6 := ho4.chg hc1 (Dj.symm ((djt_ty hot3 ho4 (by decide)) i (by rw [hot3.1]; exact (by first | omega | (simp only [List.length_set, List.length_append, List.length_cons, List.length_nil, List.length_replicate, List.length_take, swp_length, exch_length]; omega)))))
      have hot4 := OT.app hot3 (by first | omega | (simp only [List.length_set, List.length_append, List.length_cons, List.length_nil, List.length_replicate, List.length_take, swp_length, exch_length]; omega)) hc1 ho5 hg1
      refine lx_ix (i := i) rfl eT29 ho6.rd rfl rfl (by first | omega | (simp only [List.length_set, List.length_append, List.length_cons, List.length_nil, List.length_replicate, List.length_take, swp_length, exch_length]; omega)) <| lx_st (i := i) (hdrOf v2) rfl rfl Try.sizeOf70 ho6 (by first | omega | (simp only [List.length_set, List.length_append, List.length_cons, List.length_nil, List.length_replicate, List.length_take, swp_length, exch_length]; omega)) rfl (hdr_cells ho5.rd) (fun _ _ _ _ _ => trivial) fun h3 ho7 hc2 hsz1 => ?_
      have hx0_4 := hx0_3.trans (ho6.ext hc2 hx0_3.size)
      have hot5 : OT encB h3 h.size 4 (hs.set i (hdrOf v2)) (r.set i ((gt r i) ++ [decide (((andNot a b : Nat) : Int) = (0 : Int))])) := hot4.chg hc2 (djt_ty hot4 ho6 (by decide))
      have hl_hot5 := hot5.1
      have ho7 : OwE encHd h3 h.size 70 v1 (hs.set i (hdrOf v2)) := ho7
      refine lx_nil <| wi_inBlock <| wi_reg rfl <| lx_add (((j + 1 : Nat) : Int)) rfl rfl rfl (by omega) (by omega) (by omega) <| lx_move (.int .i64 ((j + 1 : Nat) : Int)) rfl rfl <| lx_nil <| ?_
      -- L2.1
      refine IH2 _ _ (j + 1, hs.set i (hdrOf v2), r.set i ((gt r i) ++ [decide (((andNot a b : Nat) : Int) = (0 : Int))])) (agree_ups rfl agree_self) ⟨rfl, trivial⟩ ⟨?_, ?_, hx0_4, ?_, ?_, ?_⟩ ?_
      · first | exact ho7 | (simpa using ho7)
      · first | exact hot5 | (simpa using hot5)
      · try dsimp only
        omega
      · try dsimp only
        simpa using hrl
      · try dsimp only
        intro k hk
        rw [gt_set (by omega)]
        by_cases e : k = i
        · subst e; rw [if_pos rfl, if_neg (by omega), if_pos rfl, hri, List.range_succ, List.map_append]
          congr 1
          show [decide _] = [incF xs k j]
          rw [incl_D]; unfold incF; rw [hga, hgb]; rfl
        · rw [if_neg e, hrw k hk]; simp only [if_neg e]
      · first | omega | (dsimp only; omega)
    · refine lx_nil <| wi_seq <| wi_false rfl <| wi_exit rfl <| wi_inBlock <| wi_reg rfl <| lx_add (((i + 1 : Nat) : Int)) rfl rfl rfl (by omega) (by omega) (by omega) <| lx_move (.int .i64 ((i + 1 : Nat) : Int)) rfl rfl <| lx_nil <| ?_
      -- L0.1
      refine IH1 _ _ (i + 1, hs, r) (agree_ups rfl (agree_mix (rngB_sub (by decide) (by decide) rfl) (agree_ups rfl agree_self))) ⟨rfl, trivial⟩ ⟨?_, ?_, hx0_2, ?_, ?_, ?_⟩ ?_
      · first | exact ho4 | (simpa using ho4)
      · first | exact hot3 | (simpa using hot3)
      · try dsimp only
        omega
      · try dsimp only
        exact hrl
      · try dsimp only
        intro k hk
        rw [hrw k hk]
        by_cases e : k < i
        · rw [if_pos e, if_pos (by omega)]
        · rw [if_neg e]
          by_cases e2 : k = i
          · subst e2; rw [if_pos rfl, if_pos (by omega), show j = xs.length from by omega]; rfl
          · rw [if_neg e2, if_neg (by omega)]
      · first | omega | (dsimp only; omega)
  · refine lx_nil <| wi_seq <| wi_false rfl <| wi_exit rfl <| wi_seq <| wi_reg rfl <| lx_move (v1) rfl rfl <| lx_assign (v1) rfl rfl <| lx_nil <| ?_
    -- R1
    refine wi_ret ⟨v1, (res_one rfl rfl), ⟨v1, hs, rfl, ?_, ?_, hx0_1⟩⟩
    · exact ho3
    · rw [← tab_rows hrl (fun k hk => by rw [hrw k hk, if_pos (by omega)])]; exact hot2

end Go.Proofs.Ytdokijbdnajhgaa
