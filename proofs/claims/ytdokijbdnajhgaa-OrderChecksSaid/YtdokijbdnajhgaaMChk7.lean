/-
  Of any table of truths, any integer and any pairs: the law OrderChecks returns true (whether the table is an order; of any that is none every call returns the same error and nothing else; the closure of the pairs, or the errors), and nothing that was there turns.
  Conditions: none beyond the given statement's.
-/
import Derived.Test.YtdokijbdnajhgaaMChk6
import Derived.Test.YtdokijbdnajhgaaRows
set_option linter.unusedSimpArgs false
set_option linter.unusedVariables false
namespace Go.Proofs.Ytdokijbdnajhgaa
open Go Go.X

theorem take30 {α : Type} [Inhabited α] (ls : List α) : (ls.take (min ls.length 30)).length ≤ 30 := by rw [List.length_take]; omega
theorem closE_bad {m : Nat} {ls : List (Int × Int)} (h1 : 1 ≤ m) (h2 : m ≤ 12) (h : ∀ i, i < ls.length → Go.X.inR m (gt ls i) = true) (h3 : ordB m (closW m ls) = false) : closE m ls = 90 := by rw [closE_ok h1 h2 h, h3]; rfl
theorem closE_good {m : Nat} {ls : List (Int × Int)} (h1 : 1 ≤ m) (h2 : m ≤ 12) (h : ∀ i, i < ls.length → Go.X.inR m (gt ls i) = true) (h3 : ordB m (closW m ls) = true) : closE m ls = 0 := by rw [closE_ok h1 h2 h, h3]; rfl
/-- What the law keeps of the code it awaits. -/
abbrev wantP (n : Int) (os : List (Int × Int)) (i : Nat) (w : Int) : Prop := (w = 1 ∧ closE n os = 1) ∨ (w = 0 ∧ 1 ≤ n ∧ n ≤ 12 ∧ ∀ j, j < i → Go.X.inR n (gt os j) = true)
theorem wantP_step {n : Int} {os : List (Int × Int)} {i : Nat} {w : Int} (h : wantP n os i w) (hw : w = 0) (h1 : ¬ (gt os i).1 < 0) (h2 : ¬ n ≤ (gt os i).1) (h3 : ¬ (gt os i).2 < 0) (h4 : ¬ n ≤ (gt os i).2) : wantP n os (i + 1) w := by
  rcases h with ⟨h, _⟩ | ⟨_, h5, h6, h7⟩
  · omega
  · refine .inr ⟨hw, h5, h6, fun j hj => ?_⟩
    by_cases e : j = i
    · subst e; exact Go.X.inR_iff.2 ⟨by omega, by omega, by omega, by omega⟩
    · exact h7 j (by omega)
theorem wantP_end {n : Int} {os : List (Int × Int)} {i : Nat} {w : Int} (h : wantP n os i w) (hi : w = 0 → os.length ≤ i) : wantP n os os.length w := by
  rcases h with h | ⟨h1, h2, h3, h4⟩
  · exact .inl h
  · exact .inr ⟨h1, h2, h3, fun j hj => h4 j (by have := hi h1; omega)⟩
theorem opnC_badE {p : List (List Bool)} (h : chkT p ≠ 0) {o a b c i : Int} : decide (badZ p o a b c i) = false := decide_eq_false fun hz => by have := hz.1; rw [opnC_bad h] at this; exact h this

set_option maxRecDepth 10000 in
set_option maxHeartbeats 800000 in
theorem orderChecks_spec (h : Heap) (vl : Value) (hl : List Hdr) (l : List (List Bool)) (n : Int) (vq : Value) (ls : List (Int × Int)) (hr_vl : RdE encHd h vl hl) (ht_vl : RT encB h hl l) (hr_vq : RdE encP h vq ls) (hp1 : l.length ≤ 9223372036854775807) (hp2 : ∀ i, i < l.length → (gt l i).length ≤ 9223372036854775807) (hp3 : ls.length ≤ 9223372036854775807) : Fx Try.prog 10 [vl, .int .i64 n, vq] h (fun v h' => v = .bool true ∧ Ext h.size h h') := by
  have hl_vl := ht_vl.1
  refine fx_intro (n := 466) [(0, vl), (1, .int .i64 n), (2, vq)] Try.func10 rfl rfl (by simp) ⟨rfl, rfl, rfl, trivial⟩ fun g0 => ?_
  refine wi_seq <| wi_reg rfl <| lx_assign (.bool false) rfl rfl <| lx_nil <| wi_seq <| wi_reg rfl <| lx_assign (.slice none 0 0) rfl rfl <| lx_nil <| wi_seq <| wi_seq <| wi_reg rfl <| lx_assign (.int .i64 0) rfl rfl <| lx_nil <| ?_
  refine wi_cutE (σ := Value × (List Hdr) × (List (List Bool))) (rngB 61 87 [7, 8, 9]) (fun (ss : Value × (List Hdr) × (List (List Bool))) => [(7, ss.1)]) (fun (ss : Value × (List Hdr) × (List (List Bool))) (hh : Heap) => OwE encHd hh h.size 70 ss.1 ss.2.1 ∧ OT encB hh h.size 4 ss.2.1 ss.2.2 ∧ Ext h.size h hh ∧ (ss.2.2.length ≤ 14) ∧ (∀ j, j < ss.2.2.length → (gt ss.2.2 j).length ≤ 14)) (fun J1 => ?_) ?_
  · refine wi_block <| ?_
    refine wi_loop (σ := Nat × Value × (List Hdr) × (List (List Bool))) (rngB 61 87 [7, 8, 9]) (fun (ss : Nat × Value × (List Hdr) × (List (List Bool))) => [(8, .int .i64 ((ss.1 : Nat) : Int)), (7, ss.2.1)]) (fun (ss : Nat × Value × (List Hdr) × (List (List Bool))) (hh : Heap) => OwE encHd hh h.size 70 ss.2.1 ss.2.2.1 ∧ OT encB hh h.size 4 ss.2.2.1 ss.2.2.2 ∧ Ext h.size h hh ∧ (ss.1 ≤ l.length ∧ ss.1 ≤ 14) ∧ (ss.2.2.2.length = ss.1) ∧ (∀ j, j < ss.1 → (gt ss.2.2.2 j).length ≤ 14)) (fun (ss : Nat × Value × (List Hdr) × (List (List Bool))) => l.length - ss.1) (0, .slice none 0 0, [], []) ⟨rfl, rfl, trivial⟩ ⟨?_, ?_, (Ext.refl _ _), ?_, ?_, ?_⟩ ?_
    · first | exact (owE_nil encHd _ h.size 70) | (simpa using (owE_nil encHd _ h.size 70))
    · first | exact (OT.nil encB _ h.size 4) | (simpa using (OT.nil encB _ h.size 4))
    · try dsimp only
      omega
    · try dsimp only
      first | done | rfl
    · try dsimp only
      intro j hj; omega
    rintro g1 ⟨i, v, hv, ts⟩ hh1 ⟨ho1, hot1, hx0_1, hi, htl, htr⟩ IH1
    dsimp only at *
    have hl_hot1 := hot1.1
    refine wi_seq <| wi_seq <| wi_reg rfl <| lx_move (.int .i64 ((i : Nat) : Int)) rfl rfl <| lx_move (vl) rfl rfl <| lx_len rfl Try.underlying23 hr_vl rfl <| lx_lssS rfl rfl rfl (fun c1 => ?_) (fun c1 => ?_)
    · refine lx_move (.bool true) rfl rfl <| lx_move (.int .i64 ((i : Nat) : Int)) rfl rfl <| lx_lssS rfl rfl rfl (fun c2 => ?_) (fun c2 => ?_)
      · refine lx_pick true (.bool true) rfl rfl rfl <| lx_nil <| wi_true rfl <| wi_skip <| wi_seq <| wi_block <| wi_seq <| wi_reg rfl <| lx_assign (.slice none 0 0) rfl rfl <| lx_nil <| wi_draw mo rfl (by decide +kernel) <| ?_
        have hgl := hp2 i (by omega)
        refine lx_move (v) rfl rfl <| lx_move (.slice none 0 0) rfl rfl <| lx_move (vl) rfl rfl <| lx_move (.int .i64 ((i : Nat) : Int)) rfl rfl <| lx_ix (i := i) rfl eT23 hr_vl rfl rfl (by omega) <| lx_ld (i := i) (j := 0) ((gt hl i).v) rfl rfl fl70 (hr_vl.extS hx0_1) (by omega) rfl rfl <| lx_move (vl) rfl rfl <| lx_move (.int .i64 ((i : Nat) : Int)) rfl rfl <| lx_ix (i := i) rfl eT23 hr_vl rfl rfl (by omega) <| lx_ld (i := i) (j := 0) ((gt hl i).v) rfl rfl fl70 (hr_vl.extS hx0_1) (by omega) rfl rfl <| lx_len rfl Try.underlying70 (ht_vl.2 i (by omega)) rfl <| lx_min (((min ((gt l i).length) 14 : Nat) : Int)) rfl rfl rfl (by omega) <| lx_slice (E := encB) 0 (min ((gt l i).length) 14) rfl eT70 rfl rfl ⟨_, rfl⟩ (ht_vl.2 i (by omega)) (by omega) (by omega) fun v1 hs1 hso1 => ?_
        have hr1 := sl_rd ((ht_vl.extS hx0_1).2 i (by omega)) hs1 (by omega)
        refine lx_append (E := encB) (B := h.size) (xs := []) (ys := (gt l i).take (min ((gt l i).length) 14)) rfl rfl eT70 (owE_nil encB _ h.size 4) hr1 rfl rfl (by first | omega | (simp only [List.length_append, List.length_cons, List.length_nil, List.length_take]; omega)) (by first | omega | (simp only [List.length_append, List.length_cons, List.length_nil, List.length_take]; omega)) hx0_1.size (fun _ _ => trivial) fun v2 h1 ho2 hc1 hg1 => ?_
        have hx0_2 := hx0_1.trans ((owE_nil encB _ h.size 4).ext hc1 hx0_1.size)
        have ho3 := ho1.chg hc1 (dj_nil_r _)
        have hot2 := hot1.chg hc1 (djt_nil _)
        rw [List.nil_append] at ho2
        have hot3 : OT encB h1 h.size 4 (hv ++ [hdrOf v2]) (ts ++ [(gt l i).take (min ((gt l i).length) 14)]) := OT.snoc hot2 ho2 (djt_app (djt_nil _) hot1 hg1)
        refine lx_appendL (E := encHd) (B := h.size) [hdrOf v2] [v2] rfl rfl (fun _ => rfl) rfl eT23 rfl rfl (hdr_cells1 ho2.rd) rfl ho3 (fun _ => rfl) (by show hv.length + 1 ≤ _; omega) (by show (hv.length + 1) * 24 ≤ _; omega) hx0_2.size (fun _ _ => trivial) fun u1 v3 h2 ho4 hc2 hg2 => ?_
        have hx0_3 := hx0_2.trans (ho3.ext hc2 hx0_2.size)
        have hot4 : OT encB h2 h.size 4 (hv ++ [hdrOf v2]) (ts ++ [(gt l i).take (min ((gt l i).length) 14)]) := hot3.chg hc2 (djt_ty hot3 ho3 (by decide))
        have hl_hot4 := hot4.1
        refine lx_assign (v3) rfl rfl <| lx_nil <| wi_inBlock <| wi_reg rfl <| lx_move (.int .i64 ((i : Nat) : Int)) rfl rfl <| lx_add (((i + 1 : Nat) : Int)) rfl rfl rfl (by omega) (by omega) (by omega) <| lx_assign (.int .i64 ((i + 1 : Nat) : Int)) rfl rfl <| lx_nil <| ?_
        -- L0.1
        refine IH1 _ _ (i + 1, v3, hv ++ [hdrOf v2], ts ++ [(gt l i).take (min ((gt l i).length) 14)]) (agree_ups rfl agree_self) ⟨rfl, rfl, trivial⟩ ⟨?_, ?_, hx0_3, ?_, ?_, ?_⟩ ?_
        · first | exact ho4 | (simpa using ho4)
        · first | exact hot4 | (simpa using hot4)
        · try dsimp only
          omega
        · try dsimp only
          rw [List.length_append, htl]; rfl
        · try dsimp only
          intro j hj
          by_cases e : j < ts.length
          · rw [gt_append_left e]; exact htr j (by omega)
          · rw [show j = ts.length from by omega, gt_append_right, List.length_take]; omega
        · first | omega | (dsimp only; omega)
      · refine lx_pick true (.bool false) rfl rfl rfl <| lx_nil <| wi_false rfl <| wi_exit rfl <| ?_
        -- J0.1
        refine J1 _ _ (v, hv, ts) (agree_ups rfl (agree_mix (rngB_sub (by decide) (by decide) rfl) (agree_ups rfl agree_upsJ))) ⟨rfl, trivial⟩ ⟨?_, ?_, hx0_1, ?_, ?_⟩
        · first | exact ho1 | (simpa using ho1)
        · first | exact hot1 | (simpa using hot1)
        · try dsimp only
          omega
        · try dsimp only
          exact fun j hj => htr j (by omega)
    · refine lx_move (.bool false) rfl rfl <| lx_skip rfl <| lx_skip rfl <| lx_pick false (.bool false) rfl rfl rfl <| lx_nil <| wi_false rfl <| wi_exit rfl <| ?_
      -- J0.2
      refine J1 _ _ (v, hv, ts) (agree_ups rfl (agree_mix (rngB_sub (by decide) (by decide) rfl) (agree_ups rfl agree_upsJ))) ⟨rfl, trivial⟩ ⟨?_, ?_, hx0_1, ?_, ?_⟩
      · first | exact ho1 | (simpa using ho1)
      · first | exact hot1 | (simpa using hot1)
      · try dsimp only
        omega
      · try dsimp only
        exact fun j hj => htr j (by omega)
  rintro g2 ⟨v, hv, ts⟩ hh2 ⟨ho5, hot5, hx0_4, htl, htr⟩
  dsimp only at *
  have hl_hot5 := hot5.1
  refine wi_seq <| wi_reg rfl <| ?_
  have hle : ∀ i, i < ts.length → (gt ts i).length ≤ 1000000 := fun j hj => by have := htr j (by omega); omega
  refine lx_move (v) rfl rfl <| lx_call [v] rfl rfl Try.call61 rfl (rcheck_spec hh2 v hv ts ho5.rd hot5.rt (by omega) hle) (fun _ _ _ => trivial) ?_
  rintro _ h3 ⟨rfl, rfl⟩
  refine lx_assign (.int .i64 (chkT ts)) rfl rfl <| lx_nil <| wi_seq <| wi_seq <| wi_reg rfl <| lx_move (v) rfl rfl <| lx_call [v] rfl rfl Try.call62 rfl (ocheck_spec hh2 v hv ts ho5.rd hot5.rt (by omega) hle) (fun _ _ _ => trivial) ?_
  rintro _ h4 ⟨rfl, hx1⟩
  have hx0_5 := hx0_4.trans2 hx1 hx0_4.size
  have ho6 := ho5.extS hx1
  have hot6 := hot5.extS hx1
  refine lx_move (.int .i64 (chkT ts)) rfl rfl <| lx_neqF rfl rfl rfl (fun h9 => h9 rfl) <| lx_nil <| wi_false rfl <| wi_skip <| wi_seq <| wi_seq <| wi_reg rfl <| lx_move (.int .i64 (chkT ts)) rfl rfl <| lx_neq rfl rfl rfl <| lx_nil <| ?_
  refine wi_cutE (σ := Unit) (rngB 95 332 [6, 11, 12, 13, 14, 15, 16, 17, 18, 19, 20, 21, 22, 23, 24, 25, 26, 27, 28, 29, 30, 31, 32, 33, 34, 35, 36, 37, 38, 39, 40, 41, 42, 43, 44, 45, 46, 47, 48, 49, 50, 51]) (fun (_ : Unit) => []) (fun (_ : Unit) (hh : Heap) => Ext h.size h hh) (fun J2 => ?_) ?_
  · refine wi_condS (t := decide (chkT ts ≠ (0 : Int))) rfl (fun c3 => ?_) (fun c3 => ?_)
    · refine wi_seq <| wi_reg rfl <| ?_
      have hne : chkT ts ≠ 0 := by have := of_decide_eq_true ‹decide (chkT ts ≠ 0) = true›; exact this
      refine lx_move (v) rfl rfl <| lx_call [v] rfl rfl Try.call52 rfl (coversE_spec h4 v hv ts ho6.rd hot6.rt (by omega) hle hne) (fun _ _ _ => trivial) ?_
      rintro _ h5 ⟨rfl, hx2⟩
      have hx0_6 := hx0_5.trans2 hx2 hx0_5.size
      have ho7 := ho6.extS hx2
      have hot7 := hot6.extS hx2
      refine lx_move (.tuple #[.slice none 0 0, .int .i64 (chkT ts)]) rfl rfl <| lx_extract (.slice none 0 0) rfl rfl rfl <| lx_extract (.int .i64 (chkT ts)) rfl rfl rfl <| lx_assign (.slice none 0 0) rfl rfl <| lx_assign (.int .i64 (chkT ts)) rfl rfl <| lx_nil <| wi_seq <| wi_reg rfl <| lx_move (v) rfl rfl <| lx_call [v] rfl rfl Try.call49 rfl (moebiusE_spec h5 v hv ts ho7.rd hot7.rt (by omega) hle hne) (fun _ _ _ => trivial) ?_
      rintro _ h6 ⟨rfl, hx3⟩
      have hx0_7 := hx0_6.trans2 hx3 hx0_6.size
      have ho8 := ho7.extS hx3
      have hot8 := hot7.extS hx3
      refine lx_move (.tuple #[.slice none 0 0, .int .i64 (chkT ts)]) rfl rfl <| lx_extract (.slice none 0 0) rfl rfl rfl <| lx_extract (.int .i64 (chkT ts)) rfl rfl rfl <| lx_assign (.slice none 0 0) rfl rfl <| lx_assign (.int .i64 (chkT ts)) rfl rfl <| lx_nil <| wi_seq <| wi_reg rfl <| lx_move (v) rfl rfl <| lx_call [v, .slice none 0 0] rfl rfl Try.call47 rfl (sumsE_spec h6 v hv ts ((.slice none 0 0)) ([]) ho8.rd hot8.rt (owE_nil encI _ 0 0).rd (by omega) hle (by simp) hne) (fun _ _ _ => trivial) ?_
      rintro _ h7 ⟨rfl, hx4⟩
      have hx0_8 := hx0_7.trans2 hx4 hx0_7.size
      have ho9 := ho8.extS hx4
      have hot9 := hot8.extS hx4
      refine lx_move (.tuple #[.slice none 0 0, .int .i64 (chkT ts)]) rfl rfl <| lx_extract (.slice none 0 0) rfl rfl rfl <| lx_extract (.int .i64 (chkT ts)) rfl rfl rfl <| lx_assign (.slice none 0 0) rfl rfl <| lx_assign (.int .i64 (chkT ts)) rfl rfl <| lx_nil <| wi_seq <| wi_reg rfl <| lx_move (v) rfl rfl <| lx_call [v, .slice none 0 0] rfl rfl Try.call48 rfl (diffE_spec h7 v hv ts ((.slice none 0 0)) ([]) ho9.rd hot9.rt (owE_nil encI _ 0 0).rd (by omega) hle (by simp) hne) (fun _ _ _ => trivial) ?_
      rintro _ h8 ⟨rfl, hx5⟩
      have hx0_9 := hx0_8.trans2 hx5 hx0_8.size
      have ho10 := ho9.extS hx5
      have hot10 := hot9.extS hx5
      refine lx_move (.tuple #[.slice none 0 0, .int .i64 (chkT ts)]) rfl rfl <| lx_extract (.slice none 0 0) rfl rfl rfl <| lx_extract (.int .i64 (chkT ts)) rfl rfl rfl <| lx_assign (.slice none 0 0) rfl rfl <| lx_assign (.int .i64 (chkT ts)) rfl rfl <| lx_nil <| wi_seq <| wi_reg rfl <| lx_move (v) rfl rfl <| lx_call [v, .int .i64 0, .int .i64 0] rfl rfl Try.call50 rfl (chainsE_spec h8 v hv ts ((0 : Int)) ((0 : Int)) ho10.rd hot10.rt (by omega) hle hne) (fun _ _ _ => trivial) ?_
      rintro _ h9 ⟨rfl, hx6⟩
      have hx0_10 := hx0_9.trans2 hx6 hx0_9.size
      have ho11 := ho10.extS hx6
      have hot11 := hot10.extS hx6
      refine lx_move (.tuple #[.slice none 0 0, .int .i64 (chkT ts)]) rfl rfl <| lx_extract (.slice none 0 0) rfl rfl rfl <| lx_extract (.int .i64 (chkT ts)) rfl rfl rfl <| lx_assign (.slice none 0 0) rfl rfl <| lx_assign (.int .i64 (chkT ts)) rfl rfl <| lx_nil <| wi_seq <| wi_reg rfl <| lx_move (v) rfl rfl <| lx_call [v] rfl rfl Try.call46 rfl (eulerE_spec h9 v hv ts ho11.rd hot11.rt (by omega) hle hne) (fun _ _ _ => trivial) ?_
      rintro _ h10 ⟨rfl, hx7⟩
      have hx0_11 := hx0_10.trans2 hx7 hx0_10.size
      have ho12 := ho11.extS hx7
      have hot12 := hot11.extS hx7
      refine lx_move (.tuple #[.int .i64 0, .int .i64 (chkT ts)]) rfl rfl <| lx_extract (.int .i64 0) rfl rfl rfl <| lx_extract (.int .i64 (chkT ts)) rfl rfl rfl <| lx_assign (.int .i64 0) rfl rfl <| lx_assign (.int .i64 (chkT ts)) rfl rfl <| lx_nil <| wi_seq <| wi_reg rfl <| lx_move (v) rfl rfl <| lx_call [v] rfl rfl Try.call16 rfl (idealsE_spec h10 v hv ts ho12.rd hot12.rt (by omega) hle hne) (fun _ _ _ => trivial) ?_
      rintro _ h11 ⟨rfl, hx8⟩
      have hx0_12 := hx0_11.trans2 hx8 hx0_11.size
      have ho13 := ho12.extS hx8
      have hot13 := hot12.extS hx8
      refine lx_move (.tuple #[.slice none 0 0, .int .i64 (chkT ts)]) rfl rfl <| lx_extract (.slice none 0 0) rfl rfl rfl <| lx_extract (.int .i64 (chkT ts)) rfl rfl rfl <| lx_assign (.slice none 0 0) rfl rfl <| lx_assign (.int .i64 (chkT ts)) rfl rfl <| lx_nil <| wi_seq <| wi_reg rfl <| lx_move (v) rfl rfl <| lx_call [v] rfl rfl Try.call17 rfl (idealOrderE_spec h11 v hv ts ho13.rd hot13.rt (by omega) hle hne) (fun _ _ _ => trivial) ?_
      rintro _ h12 ⟨rfl, hx9⟩
      have hx0_13 := hx0_12.trans2 hx9 hx0_12.size
      have ho14 := ho13.extS hx9
      have hot14 := hot13.extS hx9
      refine lx_move (.tuple #[.slice none 0 0, .int .i64 (chkT ts)]) rfl rfl <| lx_extract (.slice none 0 0) rfl rfl rfl <| lx_extract (.int .i64 (chkT ts)) rfl rfl rfl <| lx_assign (.slice none 0 0) rfl rfl <| lx_assign (.int .i64 (chkT ts)) rfl rfl <| lx_nil <| wi_seq <| wi_reg rfl <| lx_move (v) rfl rfl <| lx_call [v] rfl rfl Try.call29 rfl (latticeE_spec h12 v hv ts ho14.rd hot14.rt (by omega) hle hne) (fun _ _ _ => trivial) ?_
      rintro _ h13 ⟨rfl, hx10⟩
      have hx0_14 := hx0_13.trans2 hx10 hx0_13.size
      have ho15 := ho14.extS hx10
      have hot15 := hot14.extS hx10
      refine lx_move (.tuple #[.slice none 0 0, .slice none 0 0, .bool false, .int .i64 (chkT ts)]) rfl rfl <| lx_extract (.slice none 0 0) rfl rfl rfl <| lx_extract (.slice none 0 0) rfl rfl rfl <| lx_extract (.bool false) rfl rfl rfl <| lx_extract (.int .i64 (chkT ts)) rfl rfl rfl <| lx_assign (.slice none 0 0) rfl rfl <| lx_assign (.slice none 0 0) rfl rfl <| lx_assign (.bool false) rfl rfl <| lx_assign (.int .i64 (chkT ts)) rfl rfl <| lx_nil <| wi_seq <| wi_reg rfl <| lx_move (v) rfl rfl <| lx_call [v] rfl rfl Try.call30 rfl (gapE_spec h13 v hv ts ho15.rd hot15.rt (by omega) hle hne) (fun _ _ _ => trivial) ?_
      rintro _ h14 ⟨rfl, hx11⟩
      have hx0_15 := hx0_14.trans2 hx11 hx0_14.size
      have ho16 := ho15.extS hx11
      have hot16 := hot15.extS hx11
      refine lx_move (.tuple #[.int .i64 0, .int .i64 0, .bool false, .int .i64 (chkT ts)]) rfl rfl <| lx_extract (.int .i64 0) rfl rfl rfl <| lx_extract (.int .i64 0) rfl rfl rfl <| lx_extract (.bool false) rfl rfl rfl <| lx_extract (.int .i64 (chkT ts)) rfl rfl rfl <| lx_assign (.int .i64 0) rfl rfl <| lx_assign (.int .i64 0) rfl rfl <| lx_assign (.bool false) rfl rfl <| lx_assign (.int .i64 (chkT ts)) rfl rfl <| lx_nil <| wi_seq <| wi_reg rfl <| lx_move (v) rfl rfl <| lx_call [v] rfl rfl Try.call32 rfl (joinElsE_spec h14 v hv ts ho16.rd hot16.rt (by omega) hle hne) (fun _ _ _ => trivial) ?_
      rintro _ h15 ⟨rfl, hx12⟩
      have hx0_16 := hx0_15.trans2 hx12 hx0_15.size
      have ho17 := ho16.extS hx12
      have hot17 := hot16.extS hx12
      refine lx_move (.tuple #[.slice none 0 0, .int .i64 (chkT ts)]) rfl rfl <| lx_extract (.slice none 0 0) rfl rfl rfl <| lx_extract (.int .i64 (chkT ts)) rfl rfl rfl <| lx_assign (.slice none 0 0) rfl rfl <| lx_assign (.int .i64 (chkT ts)) rfl rfl <| lx_nil <| wi_seq <| wi_reg rfl <| lx_move (v) rfl rfl <| lx_call [v] rfl rfl Try.call33 rfl (badE_spec h15 v hv ts ho17.rd hot17.rt (by omega) hle hne) (fun _ _ _ => trivial) ?_
      rintro _ h16 ⟨rfl, hx13⟩
      have hx0_17 := hx0_16.trans2 hx13 hx0_16.size
      have ho18 := ho17.extS hx13
      have hot18 := hot17.extS hx13
      refine lx_move (.tuple #[.agg #[.int .i64 0, .int .i64 0, .int .i64 0, .int .i64 0, .int .i64 0], .bool false, .int .i64 (chkT ts)]) rfl rfl <| lx_extract (.agg #[.int .i64 0, .int .i64 0, .int .i64 0, .int .i64 0, .int .i64 0]) rfl rfl rfl <| lx_extract (.bool false) rfl rfl rfl <| lx_extract (.int .i64 (chkT ts)) rfl rfl rfl <| lx_alloc rfl rfl Try.zeroValue48 (fun _ _ _ => trivial) fun bn1 h17 hbn1 hbk1 hx14 hsz1 => ?_
      have hbb1 : h.size ≤ bn1 := by have := hx0_17.size; omega
      have hdj1 : Value.ownBlock v ≠ some bn1 := by intro e; have := (ho18.lt e).2; omega
      have hnb1 : Nbt hv bn1 := nbt_new hot18 (by omega)
      have hx0_18 := hx0_17.trans2 hx14 hx0_17.size
      have ho19 := ho18.extS hx14
      have hot19 := hot18.extS hx14
      have hbk1 : Blk h17 bn1 #[.int .i64 0, .int .i64 0, .int .i64 0, .int .i64 0, .int .i64 0] 48 := hbk1
      refine lx_stBA (#[.int .i64 0, .int .i64 0, .int .i64 0, .int .i64 0, .int .i64 0]) rfl rfl Try.sizeOf48 hbk1 rfl rfl rfl rfl (by simp [Value.oneCell']) (fun _ _ _ _ => trivial) fun h18 hbk2 hc3 => ?_
      have hx0_19 := hx0_18.trans (hc3.ext hbb1)
      have ho20 := hc3.owE ho19 hdj1
      have hot20 := hot19.chgB hc3 hnb1
      refine lx_assign (.bool false) rfl rfl <| lx_assign (.int .i64 (chkT ts)) rfl rfl <| lx_nil <| wi_seq <| wi_reg rfl <| lx_move (v) rfl rfl <| lx_call [v] rfl rfl Try.call34 rfl (birkE_spec h18 v hv ts ho20.rd hot20.rt (by omega) hle hne) (fun _ _ _ => trivial) ?_
      rintro _ h19 ⟨rfl, hx15⟩
      have hx0_20 := hx0_19.trans2 hx15 hx0_19.size
      have ho21 := ho20.extS hx15
      have hot21 := hot20.extS hx15
      have hb1 := hbk2.extS hx15
      refine lx_move (.tuple #[.slice none 0 0, .int .i64 (chkT ts)]) rfl rfl <| lx_extract (.slice none 0 0) rfl rfl rfl <| lx_extract (.int .i64 (chkT ts)) rfl rfl rfl <| lx_assign (.slice none 0 0) rfl rfl <| lx_assign (.int .i64 (chkT ts)) rfl rfl <| lx_nil <| wi_seq <| wi_reg rfl <| lx_move (v) rfl rfl <| lx_call [v] rfl rfl Try.call23 rfl (completionE_spec h19 v hv ts ho21.rd hot21.rt (by omega) hle hne) (fun _ _ _ => trivial) ?_
      rintro _ h20 ⟨rfl, hx16⟩
      have hx0_21 := hx0_20.trans2 hx16 hx0_20.size
      have ho22 := ho21.extS hx16
      have hot22 := hot21.extS hx16
      have hb2 := hb1.extS hx16
      refine lx_move (.tuple #[.slice none 0 0, .slice none 0 0, .slice none 0 0, .int .i64 (chkT ts)]) rfl rfl <| lx_extract (.slice none 0 0) rfl rfl rfl <| lx_extract (.slice none 0 0) rfl rfl rfl <| lx_extract (.slice none 0 0) rfl rfl rfl <| lx_extract (.int .i64 (chkT ts)) rfl rfl rfl <| lx_assign (.slice none 0 0) rfl rfl <| lx_assign (.slice none 0 0) rfl rfl <| lx_assign (.slice none 0 0) rfl rfl <| lx_assign (.int .i64 (chkT ts)) rfl rfl <| lx_nil <| wi_seq <| wi_reg rfl <| lx_move (v) rfl rfl <| lx_call [v, .slice none 0 0] rfl rfl Try.call25 rfl (fixedE_spec h20 v hv ts ((.slice none 0 0)) ([]) ho22.rd hot22.rt (owE_nil encI _ 0 0).rd (by omega) hle (by simp) hne) (fun _ _ _ => trivial) ?_
      rintro _ h21 ⟨rfl, hx17⟩
      have hx0_22 := hx0_21.trans2 hx17 hx0_21.size
      have ho23 := ho22.extS hx17
      have hot23 := hot22.extS hx17
      have hb3 := hb2.extS hx17
      refine lx_move (.tuple #[.slice none 0 0, .int .i64 (chkT ts)]) rfl rfl <| lx_extract (.slice none 0 0) rfl rfl rfl <| lx_extract (.int .i64 (chkT ts)) rfl rfl rfl <| lx_assign (.slice none 0 0) rfl rfl <| lx_assign (.int .i64 (chkT ts)) rfl rfl <| lx_nil <| wi_seq <| wi_reg rfl <| lx_move (v) rfl rfl <| lx_call [v] rfl rfl Try.call35 rfl (crosscutE_spec h21 v hv ts ho23.rd hot23.rt (by omega) hle hne) (fun _ _ _ => trivial) ?_
      rintro _ h22 ⟨rfl, hx18⟩
      have hx0_23 := hx0_22.trans2 hx18 hx0_22.size
      have ho24 := ho23.extS hx18
      have hot24 := hot23.extS hx18
      have hb4 := hb3.extS hx18
      refine lx_move (.tuple #[.slice none 0 0, .int .i64 (chkT ts)]) rfl rfl <| lx_extract (.slice none 0 0) rfl rfl rfl <| lx_extract (.int .i64 (chkT ts)) rfl rfl rfl <| lx_assign (.slice none 0 0) rfl rfl <| lx_assign (.int .i64 (chkT ts)) rfl rfl <| lx_nil <| wi_seq <| wi_reg rfl <| lx_move (v) rfl rfl <| lx_call [v] rfl rfl Try.call45 rfl (linearE_spec h22 v hv ts ho24.rd hot24.rt (by omega) hle hne) (fun _ _ _ => trivial) ?_
      rintro _ h23 ⟨rfl, hx19⟩
      have hx0_24 := hx0_23.trans2 hx19 hx0_23.size
      have ho25 := ho24.extS hx19
      have hot25 := hot24.extS hx19
      have hb5 := hb4.extS hx19
      refine lx_move (.tuple #[.int .i64 0, .int .i64 (chkT ts)]) rfl rfl <| lx_extract (.int .i64 0) rfl rfl rfl <| lx_extract (.int .i64 (chkT ts)) rfl rfl rfl <| lx_assign (.int .i64 0) rfl rfl <| lx_assign (.int .i64 (chkT ts)) rfl rfl <| lx_nil <| wi_seq <| wi_seq <| wi_reg rfl <| lx_move (.int .i64 (chkT ts)) rfl rfl <| lx_move (.int .i64 (chkT ts)) rfl rfl <| lx_neqF rfl rfl rfl (fun h9 => h9 rfl) <| lx_move (.bool false) rfl rfl <| lx_move (.int .i64 (chkT ts)) rfl rfl <| lx_move (.int .i64 (chkT ts)) rfl rfl <| lx_neqF rfl rfl rfl (fun h9 => h9 rfl) <| lx_pick false (.bool false) rfl rfl rfl <| lx_move (.bool false) rfl rfl <| lx_move (.int .i64 (chkT ts)) rfl rfl <| lx_move (.int .i64 (chkT ts)) rfl rfl <| lx_neqF rfl rfl rfl (fun h9 => h9 rfl) <| lx_pick false (.bool false) rfl rfl rfl <| lx_move (.bool false) rfl rfl <| lx_move (.int .i64 (chkT ts)) rfl rfl <| lx_move (.int .i64 (chkT ts)) rfl rfl <| lx_neqF rfl rfl rfl (fun h9 => h9 rfl) <| lx_pick false (.bool false) rfl rfl rfl <| lx_move (.bool false) rfl rfl <| lx_move (.int .i64 (chkT ts)) rfl rfl <| lx_move (.int .i64 (chkT ts)) rfl rfl <| lx_neqF rfl rfl rfl (fun h9 => h9 rfl) <| lx_pick false (.bool false) rfl rfl rfl <| lx_move (.bool false) rfl rfl <| lx_move (.int .i64 (chkT ts)) rfl rfl <| lx_move (.int .i64 (chkT ts)) rfl rfl <| lx_neqF rfl rfl rfl (fun h9 => h9 rfl) <| lx_pick false (.bool false) rfl rfl rfl <| lx_move (.bool false) rfl rfl <| lx_move (.int .i64 (chkT ts)) rfl rfl <| lx_move (.int .i64 (chkT ts)) rfl rfl <| lx_neqF rfl rfl rfl (fun h9 => h9 rfl) <| lx_pick false (.bool false) rfl rfl rfl <| lx_move (.bool false) rfl rfl <| lx_move (.int .i64 (chkT ts)) rfl rfl <| lx_move (.int .i64 (chkT ts)) rfl rfl <| lx_neqF rfl rfl rfl (fun h9 => h9 rfl) <| lx_pick false (.bool false) rfl rfl rfl <| lx_move (.bool false) rfl rfl <| lx_move (.int .i64 (chkT ts)) rfl rfl <| lx_move (.int .i64 (chkT ts)) rfl rfl <| lx_neqF rfl rfl rfl (fun h9 => h9 rfl) <| lx_pick false (.bool false) rfl rfl rfl <| lx_move (.bool false) rfl rfl <| lx_move (.int .i64 (chkT ts)) rfl rfl <| lx_move (.int .i64 (chkT ts)) rfl rfl <| lx_neqF rfl rfl rfl (fun h9 => h9 rfl) <| lx_pick false (.bool false) rfl rfl rfl <| lx_move (.bool false) rfl rfl <| lx_move (.int .i64 (chkT ts)) rfl rfl <| lx_move (.int .i64 (chkT ts)) rfl rfl <| lx_neqF rfl rfl rfl (fun h9 => h9 rfl) <| lx_pick false (.bool false) rfl rfl rfl <| lx_move (.bool false) rfl rfl <| lx_move (.int .i64 (chkT ts)) rfl rfl <| lx_move (.int .i64 (chkT ts)) rfl rfl <| lx_neqF rfl rfl rfl (fun h9 => h9 rfl) <| lx_pick false (.bool false) rfl rfl rfl <| lx_move (.bool false) rfl rfl <| lx_move (.int .i64 (chkT ts)) rfl rfl <| lx_move (.int .i64 (chkT ts)) rfl rfl <| lx_neqF rfl rfl rfl (fun h9 => h9 rfl) <| lx_pick false (.bool false) rfl rfl rfl <| lx_move (.bool false) rfl rfl <| lx_move (.int .i64 (chkT ts)) rfl rfl <| lx_move (.int .i64 (chkT ts)) rfl rfl <| lx_neqF rfl rfl rfl (fun h9 => h9 rfl) <| lx_pick false (.bool false) rfl rfl rfl <| lx_move (.bool false) rfl rfl <| lx_move (.int .i64 (chkT ts)) rfl rfl <| lx_move (.int .i64 (chkT ts)) rfl rfl <| lx_neqF rfl rfl rfl (fun h9 => h9 rfl) <| lx_pick false (.bool false) rfl rfl rfl <| lx_move (.bool false) rfl rfl <| lx_move (.int .i64 (chkT ts)) rfl rfl <| lx_move (.int .i64 (chkT ts)) rfl rfl <| lx_neqF rfl rfl rfl (fun h9 => h9 rfl) <| lx_pick false (.bool false) rfl rfl rfl <| lx_move (.bool false) rfl rfl <| lx_move (.int .i64 (chkT ts)) rfl rfl <| lx_move (.int .i64 (chkT ts)) rfl rfl <| lx_neqF rfl rfl rfl (fun h9 => h9 rfl) <| lx_pick false (.bool false) rfl rfl rfl <| lx_nil <| wi_false rfl <| wi_skip <| wi_seq <| wi_reg rfl <| lx_move (.bool false) rfl rfl <| lx_move (.bool false) rfl rfl <| lx_move (.bool false) rfl rfl <| lx_pick false (.bool false) rfl rfl rfl <| lx_move (.bool false) rfl rfl <| lx_move (.bool false) rfl rfl <| lx_pick false (.bool false) rfl rfl rfl <| lx_move (.bool false) rfl rfl <| lx_move (.slice none 0 0) rfl rfl <| lx_len (E := encP) (xs := []) rfl Try.underlying22 (owE_nil encP h23 0 0).rd rfl <| lx_move (.slice none 0 0) rfl rfl <| lx_len (E := encHd) (xs := []) rfl Try.underlying49 (owE_nil encHd h23 0 0).rd rfl <| lx_add ((0 : Int)) rfl rfl rfl (by simp) (by simp) (by simp) <| lx_move (.slice none 0 0) rfl rfl <| lx_len (E := encI) (xs := []) rfl Try.underlying58 (owE_nil encI h23 0 0).rd rfl <| lx_add ((0 : Int)) rfl rfl rfl (by simp) (by simp) (by simp) <| lx_move (.slice none 0 0) rfl rfl <| lx_len (E := encI) (xs := []) rfl Try.underlying58 (owE_nil encI h23 0 0).rd rfl <| lx_add ((0 : Int)) rfl rfl rfl (by simp) (by simp) (by simp) <| lx_move (.slice none 0 0) rfl rfl <| lx_len (E := encI) (xs := []) rfl Try.underlying58 (owE_nil encI h23 0 0).rd rfl <| lx_add ((0 : Int)) rfl rfl rfl (by simp) (by simp) (by simp) <| lx_move (.slice none 0 0) rfl rfl <| lx_len (E := encI) (xs := []) rfl Try.underlying25 (owE_nil encI h23 0 0).rd rfl <| lx_add ((0 : Int)) rfl rfl rfl (by simp) (by simp) (by simp) <| lx_move (.slice none 0 0) rfl rfl <| lx_len (E := encHd) (xs := []) rfl Try.underlying29 (owE_nil encHd h23 0 0).rd rfl <| lx_add ((0 : Int)) rfl rfl rfl (by simp) (by simp) (by simp) <| lx_move (.slice none 0 0) rfl rfl <| lx_len (E := encHd) (xs := []) rfl Try.underlying49 (owE_nil encHd h23 0 0).rd rfl <| lx_add ((0 : Int)) rfl rfl rfl (by simp) (by simp) (by simp) <| lx_move (.slice none 0 0) rfl rfl <| lx_len (E := encHd) (xs := []) rfl Try.underlying49 (owE_nil encHd h23 0 0).rd rfl <| lx_add ((0 : Int)) rfl rfl rfl (by simp) (by simp) (by simp) <| lx_move (.slice none 0 0) rfl rfl <| lx_len (E := encI) (xs := []) rfl Try.underlying25 (owE_nil encI h23 0 0).rd rfl <| lx_add ((0 : Int)) rfl rfl rfl (by simp) (by simp) (by simp) <| lx_move (.slice none 0 0) rfl rfl <| lx_len (E := encI) (xs := []) rfl Try.underlying25 (owE_nil encI h23 0 0).rd rfl <| lx_add ((0 : Int)) rfl rfl rfl (by simp) (by simp) (by simp) <| lx_move (.slice none 0 0) rfl rfl <| lx_len (E := encI) (xs := []) rfl Try.underlying25 (owE_nil encI h23 0 0).rd rfl <| lx_add ((0 : Int)) rfl rfl rfl (by simp) (by simp) (by simp) <| lx_move (.slice none 0 0) rfl rfl <| lx_len (E := encHd) (xs := []) rfl Try.underlying29 (owE_nil encHd h23 0 0).rd rfl <| lx_add ((0 : Int)) rfl rfl rfl (by simp) (by simp) (by simp) <| lx_move (.slice none 0 0) rfl rfl <| lx_len (E := encI) (xs := []) rfl Try.underlying25 (owE_nil encI h23 0 0).rd rfl <| lx_add ((0 : Int)) rfl rfl rfl (by simp) (by simp) (by simp) <| lx_move (.slice none 0 0) rfl rfl <| lx_len (E := encI) (xs := []) rfl Try.underlying25 (owE_nil encI h23 0 0).rd rfl <| lx_add ((0 : Int)) rfl rfl rfl (by simp) (by simp) (by simp) <| lx_move (.slice none 0 0) rfl rfl <| lx_len (E := encI) (xs := []) rfl Try.underlying58 (owE_nil encI h23 0 0).rd rfl <| lx_add ((0 : Int)) rfl rfl rfl (by simp) (by simp) (by simp) <| lx_neqF rfl rfl rfl (fun h9 => h9 rfl) <| lx_pick false (.bool false) rfl rfl rfl <| lx_move (.bool false) rfl rfl <| lx_move (v) rfl rfl <| lx_build (.agg #[.int .i64 0, .int .i64 1, .int .i64 2, .int .i64 3, .int .i64 4]) [(0, .int .i64 0), (1, .int .i64 1), (2, .int .i64 2), (3, .int .i64 3), (4, .int .i64 4)] rfl rfl (fun w => bld5 Try.underlying48 Try.zeroValue48 Try.sizeOf3 _ _ _ _ _ w) <| lx_call [v, .agg #[.int .i64 0, .int .i64 1, .int .i64 2, .int .i64 3, .int .i64 4]] rfl rfl Try.call36 rfl (oisBad_spec h23 v hv ts ((0 : Int)) ((1 : Int)) ((2 : Int)) ((3 : Int)) ((4 : Int)) ho25.rd hot25.rt (by omega) hle) (fun _ _ _ => trivial) ?_
      rintro _ h24 ⟨rfl, hx20⟩
      have hx0_25 := hx0_24.trans2 hx20 hx0_24.size
      have ho26 := ho25.extS hx20
      have hot26 := hot25.extS hx20
      have hb6 := hb5.extS hx20
      rw [opnC_badE hne]
      refine lx_pick false (.bool false) rfl rfl rfl <| lx_nil <| wi_false rfl <| wi_skip <| ?_
      -- Jt94.1
      refine J2 _ _ () (agree_ups rfl agree_upsJ) trivial hx0_25
    · refine wi_skip <| ?_
      -- Jt94.2
      refine J2 _ _ () (agree_ups rfl agree_upsJ) trivial hx0_5
  rintro g3 _ hh3 hx0_26
  refine wi_seq <| wi_reg rfl <| lx_assign (.slice none 0 0) rfl rfl <| lx_nil <| wi_seq <| wi_reg rfl <| lx_move (.slice none 0 0) rfl rfl <| lx_move (vq) rfl rfl <| lx_move (vq) rfl rfl <| lx_len rfl Try.underlying22 hr_vq rfl <| lx_min (((min ls.length 30 : Nat) : Int)) rfl rfl rfl (by omega) <| lx_slice (E := encP) 0 (min ls.length 30) rfl eT22 rfl rfl ⟨_, rfl⟩ hr_vq (by omega) (by omega) fun v4 hs2 hso2 => ?_
  have hr2 := sl_rd (hr_vq.extS hx0_26) hs2 (by omega)
  refine lx_append (E := encP) (B := h.size) (xs := []) (ys := ls.take (min ls.length 30)) rfl rfl eT22 (owE_nil encP _ h.size 85) hr2 rfl rfl (by first | omega | (simp only [List.length_append, List.length_cons, List.length_nil, List.length_take]; omega)) (by first | omega | (simp only [List.length_append, List.length_cons, List.length_nil, List.length_take]; omega)) hx0_26.size (fun _ _ => trivial) fun v5 h25 ho27 hc4 hg3 => ?_
  have hx0_27 := hx0_26.trans ((owE_nil encP _ h.size 85).ext hc4 hx0_26.size)
  rw [List.nil_append] at ho27
  refine lx_assign (v5) rfl rfl <| lx_nil <| wi_seq <| wi_seq <| wi_reg rfl <| lx_assign (.int .i64 0) rfl rfl <| lx_nil <| wi_block <| ?_
  refine wi_loop (σ := Nat × Int × (List (Int × Int))) (rngB 339 465 [1, 6, 53, 54, 55, 56, 57, 58, 59, 60]) (fun (ss : Nat × Int × (List (Int × Int))) => [(53, .int .i64 ((ss.1 : Nat) : Int)), (1, .int .i64 ss.2.1)]) (fun (ss : Nat × Int × (List (Int × Int))) (hh : Heap) => OwE encP hh h.size 85 v5 ss.2.2 ∧ Ext h.size h hh ∧ (ss.1 ≤ 2) ∧ (ss.2.2.length ≤ 30)) (fun (ss : Nat × Int × (List (Int × Int))) => 2 - ss.1) (0, n, ls.take (min ls.length 30)) ⟨rfl, rfl, trivial⟩ ⟨?_, hx0_27, ?_, ?_⟩ ?_
  · first | exact ho27 | (simpa using ho27)
  · try dsimp only
    omega
  · try dsimp only
    exact take30 _
  rintro g4 ⟨k, m, os⟩ hh4 ⟨ho28, hx0_28, hk, hol⟩ IH2
  dsimp only at *
  refine wi_seq <| wi_seq <| wi_reg rfl <| lx_move (.int .i64 ((k : Nat) : Int)) rfl rfl <| lx_lssS rfl rfl rfl (fun c4 => ?_) (fun c4 => ?_)
  · refine lx_nil <| wi_true rfl <| wi_skip <| wi_seq <| wi_block <| wi_seq <| wi_reg rfl <| lx_move (.int .i64 m) rfl rfl <| lx_move (v5) rfl rfl <| lx_call [.int .i64 m, v5] rfl rfl Try.call63 rfl (oclosure_spec hh4 m v5 os ho28.rd (by omega)) (fun _ _ _ => trivial) ?_
    rintro _ h26 ⟨vc, hc9, pc, rfl, ho29, hot27, hcl, hx21⟩
    have hx0_29 := hx0_28.trans2 hx21 hx0_28.size
    have ho30 := ho28.extS hx21
    have ho31 := ho29.base hx0_28.size
    have hot28 := hot27.base hx0_28.size
    have hl_hot28 := hot28.1
    refine lx_move (.tuple #[vc, .int .i64 (closE m os)]) rfl rfl <| lx_extract (vc) rfl rfl rfl <| lx_extract (.int .i64 (closE m os)) rfl rfl rfl <| lx_assign (vc) rfl rfl <| lx_assign (.int .i64 (closE m os)) rfl rfl <| lx_nil <| wi_seq <| wi_reg rfl <| lx_assign (.int .i64 0) rfl rfl <| lx_nil <| wi_seq <| wi_seq <| wi_reg rfl <| lx_move (.int .i64 m) rfl rfl <| lx_lssS rfl rfl rfl (fun c5 => ?_) (fun c5 => ?_)
    · refine lx_move (.bool true) rfl rfl <| lx_skip rfl <| lx_skip rfl <| lx_pick true (.bool true) rfl rfl rfl <| lx_nil <| wi_true rfl <| wi_reg rfl <| lx_assign (.int .i64 1) rfl rfl <| lx_nil <| wi_seq <| wi_seq <| wi_reg rfl <| lx_assign (.int .i64 0) rfl rfl <| lx_nil <| ?_
      refine wi_cutE (σ := Int) (rngB 355 397 [56, 57]) (fun (w : Int) => [(56, .int .i64 w)]) (fun (w : Int) (hh : Heap) => h26 = hh ∧ (wantP m os os.length w)) (fun J3 => ?_) ?_
      · refine wi_block <| ?_
        refine wi_loop (σ := Nat × Int) (rngB 355 397 [56, 57]) (fun (ss : Nat × Int) => [(57, .int .i64 ((ss.1 : Nat) : Int)), (56, .int .i64 ss.2)]) (fun (ss : Nat × Int) (hh : Heap) => h26 = hh ∧ (ss.1 ≤ os.length) ∧ (wantP m os ss.1 ss.2)) (fun (ss : Nat × Int) => os.length - ss.1) (0, 1) ⟨rfl, rfl, trivial⟩ ⟨rfl, ?_, ?_⟩ ?_
        · try dsimp only
          omega
        · try dsimp only
          first | exact .inl ⟨rfl, closE_size (by omega)⟩ | exact .inr ⟨rfl, by omega, by omega, fun j hj => absurd hj (by omega)⟩
        rintro g5 ⟨i, w⟩ hh5 ⟨rfl, hi, hw⟩ IH3
        dsimp only at *
        refine wi_seq <| wi_seq <| wi_reg rfl <| lx_move (.int .i64 ((i : Nat) : Int)) rfl rfl <| lx_move (v5) rfl rfl <| lx_len rfl Try.underlying22 ho30.rd rfl <| lx_lssS rfl rfl rfl (fun c6 => ?_) (fun c6 => ?_)
        · refine lx_move (.bool true) rfl rfl <| lx_move (.int .i64 w) rfl rfl <| lx_eqlS rfl rfl rfl (fun c7 => ?_) (fun c7 => ?_)
          · refine lx_pick true (.bool true) rfl rfl rfl <| lx_nil <| wi_true rfl <| wi_skip <| wi_seq <| wi_block <| wi_seq <| wi_reg rfl <| lx_move (v5) rfl rfl <| lx_move (.int .i64 ((i : Nat) : Int)) rfl rfl <| lx_ix (i := i) rfl eT22 ho30.rd rfl rfl (by omega) <| lx_ixP (i := i) (c := 0) rfl Try.underlying85 Try.sizeOf3 ho30.rd (by omega) rfl rfl (by decide) <| lx_ld (i := i) (j := 0) (.int .i64 ((gt os i).1)) rfl rfl fl3 ho30.rd (by omega) rfl rfl <| lx_lssS rfl rfl rfl (fun c8 => ?_) (fun c8 => ?_)
            · refine lx_move (.bool true) rfl rfl <| lx_skip rfl <| lx_skip rfl <| lx_skip rfl <| lx_skip rfl <| lx_skip rfl <| lx_skip rfl <| lx_skip rfl <| lx_pick true (.bool true) rfl rfl rfl <| lx_move (.bool true) rfl rfl <| lx_skip rfl <| lx_skip rfl <| lx_skip rfl <| lx_skip rfl <| lx_skip rfl <| lx_skip rfl <| lx_pick true (.bool true) rfl rfl rfl <| lx_move (.bool true) rfl rfl <| lx_skip rfl <| lx_skip rfl <| lx_skip rfl <| lx_skip rfl <| lx_skip rfl <| lx_skip rfl <| lx_skip rfl <| lx_pick true (.bool true) rfl rfl rfl <| lx_nil <| wi_true rfl <| wi_reg rfl <| lx_assign (.int .i64 1) rfl rfl <| lx_nil <| wi_inBlock <| wi_reg rfl <| lx_move (.int .i64 ((i : Nat) : Int)) rfl rfl <| lx_add (((i + 1 : Nat) : Int)) rfl rfl rfl (by omega) (by omega) (by omega) <| lx_assign (.int .i64 ((i + 1 : Nat) : Int)) rfl rfl <| lx_nil <| ?_
              -- L4.1
              refine IH3 _ _ (i + 1, (1 : Int)) (agree_ups rfl agree_self) ⟨rfl, rfl, trivial⟩ ⟨rfl, ?_, ?_⟩ ?_
              · try dsimp only
                omega
              · try dsimp only
                first | exact wantP_step hw (by omega) (by omega) (by omega) (by omega) (by omega) | exact .inl ⟨rfl, closE_out (i := i) (by omega) (by omega)⟩
              · first | omega | (dsimp only; omega)
            · refine lx_move (.bool false) rfl rfl <| lx_move (v5) rfl rfl <| lx_move (.int .i64 ((i : Nat) : Int)) rfl rfl <| lx_ix (i := i) rfl eT22 ho30.rd rfl rfl (by omega) <| lx_ixP (i := i) (c := 0) rfl Try.underlying85 Try.sizeOf3 ho30.rd (by omega) rfl rfl (by decide) <| lx_ld (i := i) (j := 0) (.int .i64 ((gt os i).1)) rfl rfl fl3 ho30.rd (by omega) rfl rfl <| lx_move (.int .i64 m) rfl rfl <| lx_geqS rfl rfl rfl (fun c9 => ?_) (fun c9 => ?_)
              · refine lx_pick false (.bool true) rfl rfl rfl <| lx_move (.bool true) rfl rfl <| lx_skip rfl <| lx_skip rfl <| lx_skip rfl <| lx_skip rfl <| lx_skip rfl <| lx_skip rfl <| lx_pick true (.bool true) rfl rfl rfl <| lx_move (.bool true) rfl rfl <| lx_skip rfl <| lx_skip rfl <| lx_skip rfl <| lx_skip rfl <| lx_skip rfl <| lx_skip rfl <| lx_skip rfl <| lx_pick true (.bool true) rfl rfl rfl <| lx_nil <| wi_true rfl <| wi_reg rfl <| lx_assign (.int .i64 1) rfl rfl <| lx_nil <| wi_inBlock <| wi_reg rfl <| lx_move (.int .i64 ((i : Nat) : Int)) rfl rfl <| lx_add (((i + 1 : Nat) : Int)) rfl rfl rfl (by omega) (by omega) (by omega) <| lx_assign (.int .i64 ((i + 1 : Nat) : Int)) rfl rfl <| lx_nil <| ?_
                -- L4.2
                refine IH3 _ _ (i + 1, (1 : Int)) (agree_ups rfl agree_self) ⟨rfl, rfl, trivial⟩ ⟨rfl, ?_, ?_⟩ ?_
                · try dsimp only
                  omega
                · try dsimp only
                  first | exact wantP_step hw (by omega) (by omega) (by omega) (by omega) (by omega) | exact .inl ⟨rfl, closE_out (i := i) (by omega) (by omega)⟩
                · first | omega | (dsimp only; omega)
              · refine lx_pick false (.bool false) rfl rfl rfl <| lx_move (.bool false) rfl rfl <| lx_move (v5) rfl rfl <| lx_move (.int .i64 ((i : Nat) : Int)) rfl rfl <| lx_ix (i := i) rfl eT22 ho30.rd rfl rfl (by omega) <| lx_ixP (i := i) (c := 1) rfl Try.underlying85 Try.sizeOf3 ho30.rd (by omega) rfl rfl (by decide) <| lx_ld (i := i) (j := 1) (.int .i64 ((gt os i).2)) rfl rfl fl3 ho30.rd (by omega) rfl rfl <| lx_lssS rfl rfl rfl (fun c10 => ?_) (fun c10 => ?_)
                · refine lx_pick false (.bool true) rfl rfl rfl <| lx_move (.bool true) rfl rfl <| lx_skip rfl <| lx_skip rfl <| lx_skip rfl <| lx_skip rfl <| lx_skip rfl <| lx_skip rfl <| lx_skip rfl <| lx_pick true (.bool true) rfl rfl rfl <| lx_nil <| wi_true rfl <| wi_reg rfl <| lx_assign (.int .i64 1) rfl rfl <| lx_nil <| wi_inBlock <| wi_reg rfl <| lx_move (.int .i64 ((i : Nat) : Int)) rfl rfl <| lx_add (((i + 1 : Nat) : Int)) rfl rfl rfl (by omega) (by omega) (by omega) <| lx_assign (.int .i64 ((i + 1 : Nat) : Int)) rfl rfl <| lx_nil <| ?_
                  -- L4.3
                  refine IH3 _ _ (i + 1, (1 : Int)) (agree_ups rfl agree_self) ⟨rfl, rfl, trivial⟩ ⟨rfl, ?_, ?_⟩ ?_
                  · try dsimp only
                    omega
                  · try dsimp only
                    first | exact wantP_step hw (by omega) (by omega) (by omega) (by omega) (by omega) | exact .inl ⟨rfl, closE_out (i := i) (by omega) (by omega)⟩
                  · first | omega | (dsimp only; omega)
                · refine lx_pick false (.bool false) rfl rfl rfl <| lx_move (.bool false) rfl rfl <| lx_move (v5) rfl rfl <| lx_move (.int .i64 ((i : Nat) : Int)) rfl rfl <| lx_ix (i := i) rfl eT22 ho30.rd rfl rfl (by omega) <| lx_ixP (i := i) (c := 1) rfl Try.underlying85 Try.sizeOf3 ho30.rd (by omega) rfl rfl (by decide) <| lx_ld (i := i) (j := 1) (.int .i64 ((gt os i).2)) rfl rfl fl3 ho30.rd (by omega) rfl rfl <| lx_move (.int .i64 m) rfl rfl <| lx_geqS rfl rfl rfl (fun c11 => ?_) (fun c11 => ?_)
                  · refine lx_pick false (.bool true) rfl rfl rfl <| lx_nil <| wi_true rfl <| wi_reg rfl <| lx_assign (.int .i64 1) rfl rfl <| lx_nil <| wi_inBlock <| wi_reg rfl <| lx_move (.int .i64 ((i : Nat) : Int)) rfl rfl <| lx_add (((i + 1 : Nat) : Int)) rfl rfl rfl (by omega) (by omega) (by omega) <| lx_assign (.int .i64 ((i + 1 : Nat) : Int)) rfl rfl <| lx_nil <| ?_
                    -- L4.4
                    refine IH3 _ _ (i + 1, (1 : Int)) (agree_ups rfl agree_self) ⟨rfl, rfl, trivial⟩ ⟨rfl, ?_, ?_⟩ ?_
                    · try dsimp only
                      omega
                    · try dsimp only
                      first | exact wantP_step hw (by omega) (by omega) (by omega) (by omega) (by omega) | exact .inl ⟨rfl, closE_out (i := i) (by omega) (by omega)⟩
                    · first | omega | (dsimp only; omega)
                  · refine lx_pick false (.bool false) rfl rfl rfl <| lx_nil <| wi_false rfl <| wi_skip <| wi_inBlock <| wi_reg rfl <| lx_move (.int .i64 ((i : Nat) : Int)) rfl rfl <| lx_add (((i + 1 : Nat) : Int)) rfl rfl rfl (by omega) (by omega) (by omega) <| lx_assign (.int .i64 ((i + 1 : Nat) : Int)) rfl rfl <| lx_nil <| ?_
                    -- L4.5
                    refine IH3 _ _ (i + 1, w) (agree_ups rfl agree_self) ⟨rfl, rfl, trivial⟩ ⟨rfl, ?_, ?_⟩ ?_
                    · try dsimp only
                      omega
                    · try dsimp only
                      first | exact wantP_step hw (by omega) (by omega) (by omega) (by omega) (by omega) | exact .inl ⟨rfl, closE_out (i := i) (by omega) (by omega)⟩
                    · first | omega | (dsimp only; omega)
          · refine lx_pick true (.bool false) rfl rfl rfl <| lx_nil <| wi_false rfl <| wi_exit rfl <| ?_
            -- J4.1
            refine J3 _ _ (w) (agree_ups rfl (agree_mix (rngB_sub (by decide) (by decide) rfl) (agree_ups rfl agree_upsJ))) ⟨rfl, trivial⟩ ⟨rfl, ?_⟩
            · try dsimp only
              exact wantP_end hw (fun h9 => by omega)
        · refine lx_move (.bool false) rfl rfl <| lx_skip rfl <| lx_skip rfl <| lx_pick false (.bool false) rfl rfl rfl <| lx_nil <| wi_false rfl <| wi_exit rfl <| ?_
          -- J4.2
          refine J3 _ _ (w) (agree_ups rfl (agree_mix (rngB_sub (by decide) (by decide) rfl) (agree_ups rfl agree_upsJ))) ⟨rfl, trivial⟩ ⟨rfl, ?_⟩
          · try dsimp only
            exact wantP_end hw (fun h9 => by omega)
      rintro g6 w hh6 ⟨rfl, hw⟩
      refine wi_seq <| wi_seq <| wi_reg rfl <| lx_move (.int .i64 w) rfl rfl <| lx_neq rfl rfl rfl <| lx_nil <| ?_
      refine wi_cutE (σ := Unit) (rngB 399 430 [6, 58, 59]) (fun (_ : Unit) => []) (fun (_ : Unit) (hh : Heap) => OwE encP hh h.size 85 v5 os ∧ Ext h.size h hh) (fun J4 => ?_) ?_
      · refine wi_condS (t := decide (w ≠ (0 : Int))) rfl (fun c12 => ?_) (fun c12 => ?_)
        · refine wi_seq <| wi_reg rfl <| ?_
          have hw9 : w ≠ 0 := of_decide_eq_true ‹decide (w ≠ 0) = true›
          obtain ⟨hw1, hce1⟩ : w = 1 ∧ closE m os = 1 := hw.elim id fun h => absurd h.1 hw9
          have hpc : pc = [] := hcl.elim (fun h => h.2) fun h => absurd h.1 (by omega)
          have hpc0 : hc9.length = 0 := by have := congrArg List.length hpc; rw [List.length_nil] at this; omega
          refine lx_move (.int .i64 (closE m os)) rfl rfl <| lx_move (.int .i64 w) rfl rfl <| lx_neqF rfl rfl rfl (fun h9 => h9 (by omega)) <| lx_move (.bool false) rfl rfl <| lx_move (vc) rfl rfl <| lx_len rfl Try.underlying29 ho31.rd rfl <| lx_neqF rfl rfl rfl (by omega) <| lx_pick false (.bool false) rfl rfl rfl <| lx_nil <| wi_false rfl <| wi_skip <| ?_
          -- Jt398.1
          refine J4 _ _ () (agree_ups rfl agree_upsJ) trivial ⟨?_, hx0_29⟩
          · first | exact ho30 | (simpa using ho30)
        · refine wi_seq <| wi_reg rfl <| ?_
          have hw0 : w = 0 := by have := of_decide_eq_false ‹decide (w ≠ 0) = false›; omega
          obtain ⟨hm1, hm12, hin⟩ : 1 ≤ m ∧ m ≤ 12 ∧ ∀ j, j < os.length → Go.X.inR m (gt os j) = true := hw.elim (fun h => absurd h.1 (by omega)) fun h => h.2
          have hin9 : ∀ j, j < os.length → Go.X.inR m (gt os j) = true := hin
          obtain ⟨mN, rfl⟩ : ∃ mN : Nat, m = ((mN : Nat) : Int) := ⟨m.toNat, by omega⟩
          refine lx_move (.int .i64 ((mN : Nat) : Int)) rfl rfl <| lx_move (v5) rfl rfl <| lx_call [.int .i64 ((mN : Nat) : Int), v5] rfl rfl Try.call64 rfl (rclosure_spec h26 mN v5 os ho30.rd (by omega) (by omega) hin9) (fun _ _ _ => trivial) ?_
          rintro _ h27 ⟨vr, hr9, rfl, ho32, hot29, hx22⟩
          have hx0_30 := hx0_29.trans2 hx22 hx0_29.size
          have ho33 := ho30.extS hx22
          have ho34 := ho31.extS hx22
          have hot30 := hot28.extS hx22
          have ho35 := ho32.base hx0_29.size
          have hot31 := hot29.base hx0_29.size
          have hl_hot31 := hot31.1
          refine lx_move (.tuple #[vr, .bool (ordB mN (closW mN os))]) rfl rfl <| lx_extract (vr) rfl rfl rfl <| lx_extract (.bool (ordB mN (closW mN os))) rfl rfl rfl <| lx_assign (vr) rfl rfl <| lx_assign (.bool (ordB mN (closW mN os))) rfl rfl <| lx_nil <| wi_seq <| wi_reg rfl <| lx_move (.bool (ordB mN (closW mN os))) rfl rfl <| lx_not rfl rfl <| lx_nil <| wi_condS (t := !(ordB mN (closW mN os))) rfl (fun c13 => ?_) (fun c13 => ?_)
          · refine wi_seq <| wi_reg rfl <| ?_
            have hcb := closE_bad (by omega) (by omega) hin9 (by simpa using ‹(!ordB mN (closW mN os)) = true›)
            have hpc : pc = [] := hcl.elim (fun h => h.2) fun h => absurd h.1 (by omega)
            have hpc0 : hc9.length = 0 := by have := congrArg List.length hpc; rw [List.length_nil] at this; omega
            refine lx_move (.int .i64 (closE ((mN : Nat) : Int) os)) rfl rfl <| lx_neqF rfl rfl rfl (fun h9 => h9 hcb) <| lx_move (.bool false) rfl rfl <| lx_move (vc) rfl rfl <| lx_len rfl Try.underlying29 ho34.rd rfl <| lx_neqF rfl rfl rfl (by omega) <| lx_pick false (.bool false) rfl rfl rfl <| lx_nil <| wi_false rfl <| wi_skip <| ?_
            -- Jt398.2
            refine J4 _ _ () (agree_ups rfl agree_upsJ) trivial ⟨?_, hx0_30⟩
            · first | exact ho33 | (simpa using ho33)
          · refine wi_seq <| wi_reg rfl <| ?_
            have hcb := closE_good (by omega) (by omega) hin9 (by simpa using ‹(!ordB mN (closW mN os)) = false›)
            have hpc := goodA hcl hcb
            rw [Int.toNat_natCast] at hpc
            refine lx_move (.int .i64 (closE ((mN : Nat) : Int) os)) rfl rfl <| lx_neqF rfl rfl rfl (fun h9 => h9 hcb) <| lx_move (.bool false) rfl rfl <| lx_move (vc) rfl rfl <| lx_move (vr) rfl rfl <| lx_call [vc, vr] rfl rfl Try.call21 rfl (tables9_spec h27 vc hc9 pc vr hr9 (tabF mN (closW mN os)) ho34.rd hot30.rt ho35.rd hot31.rt (tab_le hpc (by omega)).1 (tab_le rfl (by omega)).1 (tab_le hpc (by omega)).2 (tab_le rfl (by omega)).2) (fun _ _ _ => trivial) ?_
            rintro _ h28 ⟨rfl, rfl⟩
            rw [decide_eq_true hpc]
            refine lx_notB false rfl rfl rfl <| lx_pick false (.bool false) rfl rfl rfl <| lx_nil <| wi_false rfl <| wi_skip <| ?_
            -- Jt398.3
            refine J4 _ _ () (agree_ups rfl agree_upsJ) trivial ⟨?_, hx0_30⟩
            · first | exact ho33 | (simpa using ho33)
      rintro g7 _ hh7 ⟨ho36, hx0_31⟩
      refine wi_seq <| wi_reg rfl <| lx_move (.int .i64 m) rfl rfl <| lx_conv ((ur m : Nat) : Int) rfl Try.underlying3 Try.underlying45 rfl (wrap_ur _) <| lx_rem (m := ur m) (n := 12) rfl rfl rfl (by omega) <| lx_conv (((ur m) % 12 : Nat) : Int) rfl Try.underlying45 Try.underlying3 rfl (wrap_i64 (by omega) (by omega)) <| lx_add (((1 + ((ur m) % 12) : Nat) : Int)) rfl rfl rfl (by omega) (by omega) (by omega) <| lx_assign (.int .i64 ((1 + ((ur m) % 12) : Nat) : Int)) rfl rfl <| lx_nil <| wi_seq <| wi_reg rfl <| lx_assign (.int .i64 0) rfl rfl <| lx_nil <| wi_block <| ?_
      refine wi_loop (σ := Nat × (List (Int × Int))) (rngB 435 465 [60]) (fun (ss : Nat × (List (Int × Int))) => [(60, .int .i64 ((ss.1 : Nat) : Int))]) (fun (ss : Nat × (List (Int × Int))) (hh : Heap) => OwE encP hh h.size 85 v5 ss.2 ∧ Ext h.size h hh ∧ (ss.1 ≤ os.length) ∧ (ss.2.length = os.length)) (fun (ss : Nat × (List (Int × Int))) => os.length - ss.1) (0, os) ⟨rfl, trivial⟩ ⟨?_, hx0_31, ?_, ?_⟩ ?_
      · first | exact ho36 | (simpa using ho36)
      · try dsimp only
        omega
      · try dsimp only
        first | done | rfl
      rintro g8 ⟨i, os2⟩ hh8 ⟨ho37, hx0_32, hi, hol2⟩ IH4
      dsimp only at *
      refine wi_seq <| wi_seq <| wi_reg rfl <| lx_move (.int .i64 ((i : Nat) : Int)) rfl rfl <| lx_move (v5) rfl rfl <| lx_len rfl Try.underlying22 ho37.rd rfl <| lx_lssS rfl rfl rfl (fun c14 => ?_) (fun c14 => ?_)
      · refine lx_nil <| wi_true rfl <| wi_skip <| wi_seq <| wi_block <| wi_draw mo rfl (by decide +kernel) <| ?_
        have hmd0 := Nat.mod_lt (ur m) (show 0 < 12 by omega)
        have hmd1 := Nat.mod_lt (ur (gt os2 i).1) (show 0 < 1 + ur m % 12 by omega)
        have hmd2 := Nat.mod_lt (ur (gt os2 i).2) (show 0 < 1 + ur m % 12 by omega)
        refine lx_move (v5) rfl rfl <| lx_move (.int .i64 ((i : Nat) : Int)) rfl rfl <| lx_move (v5) rfl rfl <| lx_move (.int .i64 ((i : Nat) : Int)) rfl rfl <| lx_ix (i := i) rfl eT22 ho37.rd rfl rfl (by omega) <| lx_ixP (i := i) (c := 0) rfl Try.underlying85 Try.sizeOf3 ho37.rd (by omega) rfl rfl (by decide) <| lx_ld (i := i) (j := 0) (.int .i64 ((gt os2 i).1)) rfl rfl fl3 ho37.rd (by omega) rfl rfl <| lx_conv ((ur ((gt os2 i).1) : Nat) : Int) rfl Try.underlying3 Try.underlying45 rfl (wrap_ur _) <| lx_move (.int .i64 ((1 + ((ur m) % 12) : Nat) : Int)) rfl rfl <| lx_conv ((1 + ((ur m) % 12) : Nat) : Int) rfl Try.underlying3 Try.underlying45 rfl (wrap_u64 (by omega) (by omega)) <| lx_rem (m := ur ((gt os2 i).1)) (n := 1 + ((ur m) % 12)) rfl rfl rfl (by omega) <| lx_conv (((ur ((gt os2 i).1)) % (1 + ((ur m) % 12)) : Nat) : Int) rfl Try.underlying45 Try.underlying3 rfl (wrap_i64 (by omega) (by omega)) <| lx_move (v5) rfl rfl <| lx_move (.int .i64 ((i : Nat) : Int)) rfl rfl <| lx_ix (i := i) rfl eT22 ho37.rd rfl rfl (by omega) <| lx_ixP (i := i) (c := 1) rfl Try.underlying85 Try.sizeOf3 ho37.rd (by omega) rfl rfl (by decide) <| lx_ld (i := i) (j := 1) (.int .i64 ((gt os2 i).2)) rfl rfl fl3 ho37.rd (by omega) rfl rfl <| lx_conv ((ur ((gt os2 i).2) : Nat) : Int) rfl Try.underlying3 Try.underlying45 rfl (wrap_ur _) <| lx_move (.int .i64 ((1 + ((ur m) % 12) : Nat) : Int)) rfl rfl <| lx_conv ((1 + ((ur m) % 12) : Nat) : Int) rfl Try.underlying3 Try.underlying45 rfl (wrap_u64 (by omega) (by omega)) <| lx_rem (m := ur ((gt os2 i).2)) (n := 1 + ((ur m) % 12)) rfl rfl rfl (by omega) <| lx_conv (((ur ((gt os2 i).2)) % (1 + ((ur m) % 12)) : Nat) : Int) rfl Try.underlying45 Try.underlying3 rfl (wrap_i64 (by omega) (by omega)) <| lx_build (.agg #[.int .i64 (((ur ((gt os2 i).1)) % (1 + ((ur m) % 12)) : Nat) : Int), .int .i64 (((ur ((gt os2 i).2)) % (1 + ((ur m) % 12)) : Nat) : Int)]) [(0, .int .i64 (((ur ((gt os2 i).1)) % (1 + ((ur m) % 12)) : Nat) : Int)), (1, .int .i64 (((ur ((gt os2 i).2)) % (1 + ((ur m) % 12)) : Nat) : Int))] rfl rfl (fun w => bld85_2 _ _ w) <| lx_ix (i := i) rfl eT22 ho37.rd rfl rfl (by omega) <| lx_st (i := i) (((((ur ((gt os2 i).1)) % (1 + ((ur m) % 12)) : Nat) : Int), (((ur ((gt os2 i).2)) % (1 + ((ur m) % 12)) : Nat) : Int))) rfl rfl Try.sizeOf85 ho37 (by omega) rfl rfl (fun _ _ _ _ _ => trivial) fun h29 ho38 hc5 hsz2 => ?_
        have hx0_33 := hx0_32.trans (ho37.ext hc5 hx0_32.size)
        refine lx_nil <| wi_inBlock <| wi_reg rfl <| lx_move (.int .i64 ((i : Nat) : Int)) rfl rfl <| lx_add (((i + 1 : Nat) : Int)) rfl rfl rfl (by omega) (by omega) (by omega) <| lx_assign (.int .i64 ((i + 1 : Nat) : Int)) rfl rfl <| lx_nil <| ?_
        -- L6.1
        refine IH4 _ _ (i + 1, os2.set i (((((ur ((gt os2 i).1)) % (1 + ((ur m) % 12)) : Nat) : Int), (((ur ((gt os2 i).2)) % (1 + ((ur m) % 12)) : Nat) : Int)))) (agree_ups rfl agree_self) ⟨rfl, trivial⟩ ⟨?_, hx0_33, ?_, ?_⟩ ?_
        · first | exact ho38 | (simpa using ho38)
        · try dsimp only
          omega
        · try dsimp only
          rw [List.length_set]; exact hol2
        · first | omega | (dsimp only; omega)
      · refine lx_nil <| wi_false rfl <| wi_exit rfl <| wi_inBlock <| wi_reg rfl <| lx_move (.int .i64 ((k : Nat) : Int)) rfl rfl <| lx_add (((k + 1 : Nat) : Int)) rfl rfl rfl (by omega) (by omega) (by omega) <| lx_assign (.int .i64 ((k + 1 : Nat) : Int)) rfl rfl <| lx_nil <| ?_
        -- L2.1
        refine IH2 _ _ (k + 1, ((1 + ((ur m) % 12) : Nat) : Int), os2) (agree_ups rfl (agree_mix (rngB_sub (by decide) (by decide) rfl) (agree_ups rfl (agree_mix (rngB_sub (by decide) (by decide) rfl) (agree_ups rfl (agree_mix (rngB_sub (by decide) (by decide) rfl) (agree_ups rfl agree_self))))))) ⟨rfl, rfl, trivial⟩ ⟨?_, hx0_32, ?_, ?_⟩ ?_
        · first | exact ho37 | (simpa using ho37)
        · try dsimp only
          omega
        · try dsimp only
          omega
        · first | omega | (dsimp only; omega)
    · refine lx_move (.bool false) rfl rfl <| lx_move (.int .i64 m) rfl rfl <| lx_gtrS rfl rfl rfl (fun c15 => ?_) (fun c15 => ?_)
      · refine lx_pick false (.bool true) rfl rfl rfl <| lx_nil <| wi_true rfl <| wi_reg rfl <| lx_assign (.int .i64 1) rfl rfl <| lx_nil <| wi_seq <| wi_seq <| wi_reg rfl <| lx_assign (.int .i64 0) rfl rfl <| lx_nil <| ?_
        refine wi_cutE (σ := Int) (rngB 355 397 [56, 57]) (fun (w : Int) => [(56, .int .i64 w)]) (fun (w : Int) (hh : Heap) => h26 = hh ∧ (wantP m os os.length w)) (fun J5 => ?_) ?_
        · refine wi_block <| ?_
          refine wi_loop (σ := Nat × Int) (rngB 355 397 [56, 57]) (fun (ss : Nat × Int) => [(57, .int .i64 ((ss.1 : Nat) : Int)), (56, .int .i64 ss.2)]) (fun (ss : Nat × Int) (hh : Heap) => h26 = hh ∧ (ss.1 ≤ os.length) ∧ (wantP m os ss.1 ss.2)) (fun (ss : Nat × Int) => os.length - ss.1) (0, 1) ⟨rfl, rfl, trivial⟩ ⟨rfl, ?_, ?_⟩ ?_
          · try dsimp only
            omega
          · try dsimp only
            first | exact .inl ⟨rfl, closE_size (by omega)⟩ | exact .inr ⟨rfl, by omega, by omega, fun j hj => absurd hj (by omega)⟩
          rintro g9 ⟨i, w⟩ hh9 ⟨rfl, hi, hw⟩ IH5
          dsimp only at *
          refine wi_seq <| wi_seq <| wi_reg rfl <| lx_move (.int .i64 ((i : Nat) : Int)) rfl rfl <| lx_move (v5) rfl rfl <| lx_len rfl Try.underlying22 ho30.rd rfl <| lx_lssS rfl rfl rfl (fun c16 => ?_) (fun c16 => ?_)
          · refine lx_move (.bool true) rfl rfl <| lx_move (.int .i64 w) rfl rfl <| lx_eqlS rfl rfl rfl (fun c17 => ?_) (fun c17 => ?_)
            · refine lx_pick true (.bool true) rfl rfl rfl <| lx_nil <| wi_true rfl <| wi_skip <| wi_seq <| wi_block <| wi_seq <| wi_reg rfl <| lx_move (v5) rfl rfl <| lx_move (.int .i64 ((i : Nat) : Int)) rfl rfl <| lx_ix (i := i) rfl eT22 ho30.rd rfl rfl (by omega) <| lx_ixP (i := i) (c := 0) rfl Try.underlying85 Try.sizeOf3 ho30.rd (by omega) rfl rfl (by decide) <| lx_ld (i := i) (j := 0) (.int .i64 ((gt os i).1)) rfl rfl fl3 ho30.rd (by omega) rfl rfl <| lx_lssS rfl rfl rfl (fun c18 => ?_) (fun c18 => ?_)
              · refine lx_move (.bool true) rfl rfl <| lx_skip rfl <| lx_skip rfl <| lx_skip rfl <| lx_skip rfl <| lx_skip rfl <| lx_skip rfl <| lx_skip rfl <| lx_pick true (.bool true) rfl rfl rfl <| lx_move (.bool true) rfl rfl <| lx_skip rfl <| lx_skip rfl <| lx_skip rfl <| lx_skip rfl <| lx_skip rfl <| lx_skip rfl <| lx_pick true (.bool true) rfl rfl rfl <| lx_move (.bool true) rfl rfl <| lx_skip rfl <| lx_skip rfl <| lx_skip rfl <| lx_skip rfl <| lx_skip rfl <| lx_skip rfl <| lx_skip rfl <| lx_pick true (.bool true) rfl rfl rfl <| lx_nil <| wi_true rfl <| wi_reg rfl <| lx_assign (.int .i64 1) rfl rfl <| lx_nil <| wi_inBlock <| wi_reg rfl <| lx_move (.int .i64 ((i : Nat) : Int)) rfl rfl <| lx_add (((i + 1 : Nat) : Int)) rfl rfl rfl (by omega) (by omega) (by omega) <| lx_assign (.int .i64 ((i + 1 : Nat) : Int)) rfl rfl <| lx_nil <| ?_
                -- L4.1
                refine IH5 _ _ (i + 1, (1 : Int)) (agree_ups rfl agree_self) ⟨rfl, rfl, trivial⟩ ⟨rfl, ?_, ?_⟩ ?_
                · try dsimp only
                  omega
                · try dsimp only
                  first | exact wantP_step hw (by omega) (by omega) (by omega) (by omega) (by omega) | exact .inl ⟨rfl, closE_out (i := i) (by omega) (by omega)⟩
                · first | omega | (dsimp only; omega)
              · refine lx_move (.bool false) rfl rfl <| lx_move (v5) rfl rfl <| lx_move (.int .i64 ((i : Nat) : Int)) rfl rfl <| lx_ix (i := i) rfl eT22 ho30.rd rfl rfl (by omega) <| lx_ixP (i := i) (c := 0) rfl Try.underlying85 Try.sizeOf3 ho30.rd (by omega) rfl rfl (by decide) <| lx_ld (i := i) (j := 0) (.int .i64 ((gt os i).1)) rfl rfl fl3 ho30.rd (by omega) rfl rfl <| lx_move (.int .i64 m) rfl rfl <| lx_geqS rfl rfl rfl (fun c19 => ?_) (fun c19 => ?_)
                · refine lx_pick false (.bool true) rfl rfl rfl <| lx_move (.bool true) rfl rfl <| lx_skip rfl <| lx_skip rfl <| lx_skip rfl <| lx_skip rfl <| lx_skip rfl <| lx_skip rfl <| lx_pick true (.bool true) rfl rfl rfl <| lx_move (.bool true) rfl rfl <| lx_skip rfl <| lx_skip rfl <| lx_skip rfl <| lx_skip rfl <| lx_skip rfl <| lx_skip rfl <| lx_skip rfl <| lx_pick true (.bool true) rfl rfl rfl <| lx_nil <| wi_true rfl <| wi_reg rfl <| lx_assign (.int .i64 1) rfl rfl <| lx_nil <| wi_inBlock <| wi_reg rfl <| lx_move (.int .i64 ((i : Nat) : Int)) rfl rfl <| lx_add (((i + 1 : Nat) : Int)) rfl rfl rfl (by omega) (by omega) (by omega) <| lx_assign (.int .i64 ((i + 1 : Nat) : Int)) rfl rfl <| lx_nil <| ?_
                  -- L4.2
                  refine IH5 _ _ (i + 1, (1 : Int)) (agree_ups rfl agree_self) ⟨rfl, rfl, trivial⟩ ⟨rfl, ?_, ?_⟩ ?_
                  · try dsimp only
                    omega
                  · try dsimp only
                    first | exact wantP_step hw (by omega) (by omega) (by omega) (by omega) (by omega) | exact .inl ⟨rfl, closE_out (i := i) (by omega) (by omega)⟩
                  · first | omega | (dsimp only; omega)
                · refine lx_pick false (.bool false) rfl rfl rfl <| lx_move (.bool false) rfl rfl <| lx_move (v5) rfl rfl <| lx_move (.int .i64 ((i : Nat) : Int)) rfl rfl <| lx_ix (i := i) rfl eT22 ho30.rd rfl rfl (by omega) <| lx_ixP (i := i) (c := 1) rfl Try.underlying85 Try.sizeOf3 ho30.rd (by omega) rfl rfl (by decide) <| lx_ld (i := i) (j := 1) (.int .i64 ((gt os i).2)) rfl rfl fl3 ho30.rd (by omega) rfl rfl <| lx_lssS rfl rfl rfl (fun c20 => ?_) (fun c20 => ?_)
                  · refine lx_pick false (.bool true) rfl rfl rfl <| lx_move (.bool true) rfl rfl <| lx_skip rfl <| lx_skip rfl <| lx_skip rfl <| lx_skip rfl <| lx_skip rfl <| lx_skip rfl <| lx_skip rfl <| lx_pick true (.bool true) rfl rfl rfl <| lx_nil <| wi_true rfl <| wi_reg rfl <| lx_assign (.int .i64 1) rfl rfl <| lx_nil <| wi_inBlock <| wi_reg rfl <| lx_move (.int .i64 ((i : Nat) : Int)) rfl rfl <| lx_add (((i + 1 : Nat) : Int)) rfl rfl rfl (by omega) (by omega) (by omega) <| lx_assign (.int .i64 ((i + 1 : Nat) : Int)) rfl rfl <| lx_nil <| ?_
                    -- L4.3
                    refine IH5 _ _ (i + 1, (1 : Int)) (agree_ups rfl agree_self) ⟨rfl, rfl, trivial⟩ ⟨rfl, ?_, ?_⟩ ?_
                    · try dsimp only
                      omega
                    · try dsimp only
                      first | exact wantP_step hw (by omega) (by omega) (by omega) (by omega) (by omega) | exact .inl ⟨rfl, closE_out (i := i) (by omega) (by omega)⟩
                    · first | omega | (dsimp only; omega)
                  · refine lx_pick false (.bool false) rfl rfl rfl <| lx_move (.bool false) rfl rfl <| lx_move (v5) rfl rfl <| lx_move (.int .i64 ((i : Nat) : Int)) rfl rfl <| lx_ix (i := i) rfl eT22 ho30.rd rfl rfl (by omega) <| lx_ixP (i := i) (c := 1) rfl Try.underlying85 Try.sizeOf3 ho30.rd (by omega) rfl rfl (by decide) <| lx_ld (i := i) (j := 1) (.int .i64 ((gt os i).2)) rfl rfl fl3 ho30.rd (by omega) rfl rfl <| lx_move (.int .i64 m) rfl rfl <| lx_geqS rfl rfl rfl (fun c21 => ?_) (fun c21 => ?_)
                    · refine lx_pick false (.bool true) rfl rfl rfl <| lx_nil <| wi_true rfl <| wi_reg rfl <| lx_assign (.int .i64 1) rfl rfl <| lx_nil <| wi_inBlock <| wi_reg rfl <| lx_move (.int .i64 ((i : Nat) : Int)) rfl rfl <| lx_add (((i + 1 : Nat) : Int)) rfl rfl rfl (by omega) (by omega) (by omega) <| lx_assign (.int .i64 ((i + 1 : Nat) : Int)) rfl rfl <| lx_nil <| ?_
                      -- L4.4
                      refine IH5 _ _ (i + 1, (1 : Int)) (agree_ups rfl agree_self) ⟨rfl, rfl, trivial⟩ ⟨rfl, ?_, ?_⟩ ?_
                      · try dsimp only
                        omega
                      · try dsimp only
                        first | exact wantP_step hw (by omega) (by omega) (by omega) (by omega) (by omega) | exact .inl ⟨rfl, closE_out (i := i) (by omega) (by omega)⟩
                      · first | omega | (dsimp only; omega)
                    · refine lx_pick false (.bool false) rfl rfl rfl <| lx_nil <| wi_false rfl <| wi_skip <| wi_inBlock <| wi_reg rfl <| lx_move (.int .i64 ((i : Nat) : Int)) rfl rfl <| lx_add (((i + 1 : Nat) : Int)) rfl rfl rfl (by omega) (by omega) (by omega) <| lx_assign (.int .i64 ((i + 1 : Nat) : Int)) rfl rfl <| lx_nil <| ?_
                      -- L4.5
                      refine IH5 _ _ (i + 1, w) (agree_ups rfl agree_self) ⟨rfl, rfl, trivial⟩ ⟨rfl, ?_, ?_⟩ ?_
                      · try dsimp only
                        omega
                      · try dsimp only
                        first | exact wantP_step hw (by omega) (by omega) (by omega) (by omega) (by omega) | exact .inl ⟨rfl, closE_out (i := i) (by omega) (by omega)⟩
                      · first | omega | (dsimp only; omega)
            · refine lx_pick true (.bool false) rfl rfl rfl <| lx_nil <| wi_false rfl <| wi_exit rfl <| ?_
              -- J4.1
              refine J5 _ _ (w) (agree_ups rfl (agree_mix (rngB_sub (by decide) (by decide) rfl) (agree_ups rfl agree_upsJ))) ⟨rfl, trivial⟩ ⟨rfl, ?_⟩
              · try dsimp only
                exact wantP_end hw (fun h9 => by omega)
          · refine lx_move (.bool false) rfl rfl <| lx_skip rfl <| lx_skip rfl <| lx_pick false (.bool false) rfl rfl rfl <| lx_nil <| wi_false rfl <| wi_exit rfl <| ?_
            -- J4.2
            refine J5 _ _ (w) (agree_ups rfl (agree_mix (rngB_sub (by decide) (by decide) rfl) (agree_ups rfl agree_upsJ))) ⟨rfl, trivial⟩ ⟨rfl, ?_⟩
            · try dsimp only
              exact wantP_end hw (fun h9 => by omega)
        rintro g10 w hh10 ⟨rfl, hw⟩
        refine wi_seq <| wi_seq <| wi_reg rfl <| lx_move (.int .i64 w) rfl rfl <| lx_neq rfl rfl rfl <| lx_nil <| ?_
        refine wi_cutE (σ := Unit) (rngB 399 430 [6, 58, 59]) (fun (_ : Unit) => []) (fun (_ : Unit) (hh : Heap) => OwE encP hh h.size 85 v5 os ∧ Ext h.size h hh) (fun J6 => ?_) ?_
        · refine wi_condS (t := decide (w ≠ (0 : Int))) rfl (fun c22 => ?_) (fun c22 => ?_)
          · refine wi_seq <| wi_reg rfl <| ?_
            have hw9 : w ≠ 0 := of_decide_eq_true ‹decide (w ≠ 0) = true›
            obtain ⟨hw1, hce1⟩ : w = 1 ∧ closE m os = 1 := hw.elim id fun h => absurd h.1 hw9
            have hpc : pc = [] := hcl.elim (fun h => h.2) fun h => absurd h.1 (by omega)
            have hpc0 : hc9.length = 0 := by have := congrArg List.length hpc; rw [List.length_nil] at this; omega
            refine lx_move (.int .i64 (closE m os)) rfl rfl <| lx_move (.int .i64 w) rfl rfl <| lx_neqF rfl rfl rfl (fun h9 => h9 (by omega)) <| lx_move (.bool false) rfl rfl <| lx_move (vc) rfl rfl <| lx_len rfl Try.underlying29 ho31.rd rfl <| lx_neqF rfl rfl rfl (by omega) <| lx_pick false (.bool false) rfl rfl rfl <| lx_nil <| wi_false rfl <| wi_skip <| ?_
            -- Jt398.1
            refine J6 _ _ () (agree_ups rfl agree_upsJ) trivial ⟨?_, hx0_29⟩
            · first | exact ho30 | (simpa using ho30)
          · refine wi_seq <| wi_reg rfl <| ?_
            have hw0 : w = 0 := by have := of_decide_eq_false ‹decide (w ≠ 0) = false›; omega
            obtain ⟨hm1, hm12, hin⟩ : 1 ≤ m ∧ m ≤ 12 ∧ ∀ j, j < os.length → Go.X.inR m (gt os j) = true := hw.elim (fun h => absurd h.1 (by omega)) fun h => h.2
            have hin9 : ∀ j, j < os.length → Go.X.inR m (gt os j) = true := hin
            obtain ⟨mN, rfl⟩ : ∃ mN : Nat, m = ((mN : Nat) : Int) := ⟨m.toNat, by omega⟩
            refine lx_move (.int .i64 ((mN : Nat) : Int)) rfl rfl <| lx_move (v5) rfl rfl <| lx_call [.int .i64 ((mN : Nat) : Int), v5] rfl rfl Try.call64 rfl (rclosure_spec h26 mN v5 os ho30.rd (by omega) (by omega) hin9) (fun _ _ _ => trivial) ?_
            rintro _ h30 ⟨vr, hr9, rfl, ho39, hot32, hx23⟩
            have hx0_34 := hx0_29.trans2 hx23 hx0_29.size
            have ho40 := ho30.extS hx23
            have ho41 := ho31.extS hx23
            have hot33 := hot28.extS hx23
            have ho42 := ho39.base hx0_29.size
            have hot34 := hot32.base hx0_29.size
            have hl_hot34 := hot34.1
            refine lx_move (.tuple #[vr, .bool (ordB mN (closW mN os))]) rfl rfl <| lx_extract (vr) rfl rfl rfl <| lx_extract (.bool (ordB mN (closW mN os))) rfl rfl rfl <| lx_assign (vr) rfl rfl <| lx_assign (.bool (ordB mN (closW mN os))) rfl rfl <| lx_nil <| wi_seq <| wi_reg rfl <| lx_move (.bool (ordB mN (closW mN os))) rfl rfl <| lx_not rfl rfl <| lx_nil <| wi_condS (t := !(ordB mN (closW mN os))) rfl (fun c23 => ?_) (fun c23 => ?_)
            · refine wi_seq <| wi_reg rfl <| ?_
              have hcb := closE_bad (by omega) (by omega) hin9 (by simpa using ‹(!ordB mN (closW mN os)) = true›)
              have hpc : pc = [] := hcl.elim (fun h => h.2) fun h => absurd h.1 (by omega)
              have hpc0 : hc9.length = 0 := by have := congrArg List.length hpc; rw [List.length_nil] at this; omega
              refine lx_move (.int .i64 (closE ((mN : Nat) : Int) os)) rfl rfl <| lx_neqF rfl rfl rfl (fun h9 => h9 hcb) <| lx_move (.bool false) rfl rfl <| lx_move (vc) rfl rfl <| lx_len rfl Try.underlying29 ho41.rd rfl <| lx_neqF rfl rfl rfl (by omega) <| lx_pick false (.bool false) rfl rfl rfl <| lx_nil <| wi_false rfl <| wi_skip <| ?_
              -- Jt398.2
              refine J6 _ _ () (agree_ups rfl agree_upsJ) trivial ⟨?_, hx0_34⟩
              · first | exact ho40 | (simpa using ho40)
            · refine wi_seq <| wi_reg rfl <| ?_
              have hcb := closE_good (by omega) (by omega) hin9 (by simpa using ‹(!ordB mN (closW mN os)) = false›)
              have hpc := goodA hcl hcb
              rw [Int.toNat_natCast] at hpc
              refine lx_move (.int .i64 (closE ((mN : Nat) : Int) os)) rfl rfl <| lx_neqF rfl rfl rfl (fun h9 => h9 hcb) <| lx_move (.bool false) rfl rfl <| lx_move (vc) rfl rfl <| lx_move (vr) rfl rfl <| lx_call [vc, vr] rfl rfl Try.call21 rfl (tables9_spec h30 vc hc9 pc vr hr9 (tabF mN (closW mN os)) ho41.rd hot33.rt ho42.rd hot34.rt (tab_le hpc (by omega)).1 (tab_le rfl (by omega)).1 (tab_le hpc (by omega)).2 (tab_le rfl (by omega)).2) (fun _ _ _ => trivial) ?_
              rintro _ h31 ⟨rfl, rfl⟩
              rw [decide_eq_true hpc]
              refine lx_notB false rfl rfl rfl <| lx_pick false (.bool false) rfl rfl rfl <| lx_nil <| wi_false rfl <| wi_skip <| ?_
              -- Jt398.3
              refine J6 _ _ () (agree_ups rfl agree_upsJ) trivial ⟨?_, hx0_34⟩
              · first | exact ho40 | (simpa using ho40)
        rintro g11 _ hh11 ⟨ho43, hx0_35⟩
        refine wi_seq <| wi_reg rfl <| lx_move (.int .i64 m) rfl rfl <| lx_conv ((ur m : Nat) : Int) rfl Try.underlying3 Try.underlying45 rfl (wrap_ur _) <| lx_rem (m := ur m) (n := 12) rfl rfl rfl (by omega) <| lx_conv (((ur m) % 12 : Nat) : Int) rfl Try.underlying45 Try.underlying3 rfl (wrap_i64 (by omega) (by omega)) <| lx_add (((1 + ((ur m) % 12) : Nat) : Int)) rfl rfl rfl (by omega) (by omega) (by omega) <| lx_assign (.int .i64 ((1 + ((ur m) % 12) : Nat) : Int)) rfl rfl <| lx_nil <| wi_seq <| wi_reg rfl <| lx_assign (.int .i64 0) rfl rfl <| lx_nil <| wi_block <| ?_
        refine wi_loop (σ := Nat × (List (Int × Int))) (rngB 435 465 [60]) (fun (ss : Nat × (List (Int × Int))) => [(60, .int .i64 ((ss.1 : Nat) : Int))]) (fun (ss : Nat × (List (Int × Int))) (hh : Heap) => OwE encP hh h.size 85 v5 ss.2 ∧ Ext h.size h hh ∧ (ss.1 ≤ os.length) ∧ (ss.2.length = os.length)) (fun (ss : Nat × (List (Int × Int))) => os.length - ss.1) (0, os) ⟨rfl, trivial⟩ ⟨?_, hx0_35, ?_, ?_⟩ ?_
        · first | exact ho43 | (simpa using ho43)
        · try dsimp only
          omega
        · try dsimp only
          first | done | rfl
        rintro g12 ⟨i, os2⟩ hh12 ⟨ho44, hx0_36, hi, hol2⟩ IH6
        dsimp only at *
        refine wi_seq <| wi_seq <| wi_reg rfl <| lx_move (.int .i64 ((i : Nat) : Int)) rfl rfl <| lx_move (v5) rfl rfl <| lx_len rfl Try.underlying22 ho44.rd rfl <| lx_lssS rfl rfl rfl (fun c24 => ?_) (fun c24 => ?_)
        · refine lx_nil <| wi_true rfl <| wi_skip <| wi_seq <| wi_block <| wi_draw mo rfl (by decide +kernel) <| ?_
          have hmd0 := Nat.mod_lt (ur m) (show 0 < 12 by omega)
          have hmd1 := Nat.mod_lt (ur (gt os2 i).1) (show 0 < 1 + ur m % 12 by omega)
          have hmd2 := Nat.mod_lt (ur (gt os2 i).2) (show 0 < 1 + ur m % 12 by omega)
          refine lx_move (v5) rfl rfl <| lx_move (.int .i64 ((i : Nat) : Int)) rfl rfl <| lx_move (v5) rfl rfl <| lx_move (.int .i64 ((i : Nat) : Int)) rfl rfl <| lx_ix (i := i) rfl eT22 ho44.rd rfl rfl (by omega) <| lx_ixP (i := i) (c := 0) rfl Try.underlying85 Try.sizeOf3 ho44.rd (by omega) rfl rfl (by decide) <| lx_ld (i := i) (j := 0) (.int .i64 ((gt os2 i).1)) rfl rfl fl3 ho44.rd (by omega) rfl rfl <| lx_conv ((ur ((gt os2 i).1) : Nat) : Int) rfl Try.underlying3 Try.underlying45 rfl (wrap_ur _) <| lx_move (.int .i64 ((1 + ((ur m) % 12) : Nat) : Int)) rfl rfl <| lx_conv ((1 + ((ur m) % 12) : Nat) : Int) rfl Try.underlying3 Try.underlying45 rfl (wrap_u64 (by omega) (by omega)) <| lx_rem (m := ur ((gt os2 i).1)) (n := 1 + ((ur m) % 12)) rfl rfl rfl (by omega) <| lx_conv (((ur ((gt os2 i).1)) % (1 + ((ur m) % 12)) : Nat) : Int) rfl Try.underlying45 Try.underlying3 rfl (wrap_i64 (by omega) (by omega)) <| lx_move (v5) rfl rfl <| lx_move (.int .i64 ((i : Nat) : Int)) rfl rfl <| lx_ix (i := i) rfl eT22 ho44.rd rfl rfl (by omega) <| lx_ixP (i := i) (c := 1) rfl Try.underlying85 Try.sizeOf3 ho44.rd (by omega) rfl rfl (by decide) <| lx_ld (i := i) (j := 1) (.int .i64 ((gt os2 i).2)) rfl rfl fl3 ho44.rd (by omega) rfl rfl <| lx_conv ((ur ((gt os2 i).2) : Nat) : Int) rfl Try.underlying3 Try.underlying45 rfl (wrap_ur _) <| lx_move (.int .i64 ((1 + ((ur m) % 12) : Nat) : Int)) rfl rfl <| lx_conv ((1 + ((ur m) % 12) : Nat) : Int) rfl Try.underlying3 Try.underlying45 rfl (wrap_u64 (by omega) (by omega)) <| lx_rem (m := ur ((gt os2 i).2)) (n := 1 + ((ur m) % 12)) rfl rfl rfl (by omega) <| lx_conv (((ur ((gt os2 i).2)) % (1 + ((ur m) % 12)) : Nat) : Int) rfl Try.underlying45 Try.underlying3 rfl (wrap_i64 (by omega) (by omega)) <| lx_build (.agg #[.int .i64 (((ur ((gt os2 i).1)) % (1 + ((ur m) % 12)) : Nat) : Int), .int .i64 (((ur ((gt os2 i).2)) % (1 + ((ur m) % 12)) : Nat) : Int)]) [(0, .int .i64 (((ur ((gt os2 i).1)) % (1 + ((ur m) % 12)) : Nat) : Int)), (1, .int .i64 (((ur ((gt os2 i).2)) % (1 + ((ur m) % 12)) : Nat) : Int))] rfl rfl (fun w => bld85_2 _ _ w) <| lx_ix (i := i) rfl eT22 ho44.rd rfl rfl (by omega) <| lx_st (i := i) (((((ur ((gt os2 i).1)) % (1 + ((ur m) % 12)) : Nat) : Int), (((ur ((gt os2 i).2)) % (1 + ((ur m) % 12)) : Nat) : Int))) rfl rfl Try.sizeOf85 ho44 (by omega) rfl rfl (fun _ _ _ _ _ => trivial) fun h32 ho45 hc6 hsz3 => ?_
          have hx0_37 := hx0_36.trans (ho44.ext hc6 hx0_36.size)
          refine lx_nil <| wi_inBlock <| wi_reg rfl <| lx_move (.int .i64 ((i : Nat) : Int)) rfl rfl <| lx_add (((i + 1 : Nat) : Int)) rfl rfl rfl (by omega) (by omega) (by omega) <| lx_assign (.int .i64 ((i + 1 : Nat) : Int)) rfl rfl <| lx_nil <| ?_
          -- L6.1
          refine IH6 _ _ (i + 1, os2.set i (((((ur ((gt os2 i).1)) % (1 + ((ur m) % 12)) : Nat) : Int), (((ur ((gt os2 i).2)) % (1 + ((ur m) % 12)) : Nat) : Int)))) (agree_ups rfl agree_self) ⟨rfl, trivial⟩ ⟨?_, hx0_37, ?_, ?_⟩ ?_
          · first | exact ho45 | (simpa using ho45)
          · try dsimp only
            omega
          · try dsimp only
            rw [List.length_set]; exact hol2
          · first | omega | (dsimp only; omega)
        · refine lx_nil <| wi_false rfl <| wi_exit rfl <| wi_inBlock <| wi_reg rfl <| lx_move (.int .i64 ((k : Nat) : Int)) rfl rfl <| lx_add (((k + 1 : Nat) : Int)) rfl rfl rfl (by omega) (by omega) (by omega) <| lx_assign (.int .i64 ((k + 1 : Nat) : Int)) rfl rfl <| lx_nil <| ?_
          -- L2.2
          refine IH2 _ _ (k + 1, ((1 + ((ur m) % 12) : Nat) : Int), os2) (agree_ups rfl (agree_mix (rngB_sub (by decide) (by decide) rfl) (agree_ups rfl (agree_mix (rngB_sub (by decide) (by decide) rfl) (agree_ups rfl (agree_mix (rngB_sub (by decide) (by decide) rfl) (agree_ups rfl agree_self))))))) ⟨rfl, rfl, trivial⟩ ⟨?_, hx0_36, ?_, ?_⟩ ?_
          · first | exact ho44 | (simpa using ho44)
          · try dsimp only
            omega
          · try dsimp only
            omega
          · first | omega | (dsimp only; omega)
      · refine lx_pick false (.bool false) rfl rfl rfl <| lx_nil <| wi_false rfl <| wi_skip <| wi_seq <| wi_seq <| wi_reg rfl <| lx_assign (.int .i64 0) rfl rfl <| lx_nil <| ?_
        refine wi_cutE (σ := Int) (rngB 355 397 [56, 57]) (fun (w : Int) => [(56, .int .i64 w)]) (fun (w : Int) (hh : Heap) => h26 = hh ∧ (wantP m os os.length w)) (fun J7 => ?_) ?_
        · refine wi_block <| ?_
          refine wi_loop (σ := Nat × Int) (rngB 355 397 [56, 57]) (fun (ss : Nat × Int) => [(57, .int .i64 ((ss.1 : Nat) : Int)), (56, .int .i64 ss.2)]) (fun (ss : Nat × Int) (hh : Heap) => h26 = hh ∧ (ss.1 ≤ os.length) ∧ (wantP m os ss.1 ss.2)) (fun (ss : Nat × Int) => os.length - ss.1) (0, 0) ⟨rfl, rfl, trivial⟩ ⟨rfl, ?_, ?_⟩ ?_
          · try dsimp only
            omega
          · try dsimp only
            first | exact .inl ⟨rfl, closE_size (by omega)⟩ | exact .inr ⟨rfl, by omega, by omega, fun j hj => absurd hj (by omega)⟩
          rintro g13 ⟨i, w⟩ hh13 ⟨rfl, hi, hw⟩ IH7
          dsimp only at *
          refine wi_seq <| wi_seq <| wi_reg rfl <| lx_move (.int .i64 ((i : Nat) : Int)) rfl rfl <| lx_move (v5) rfl rfl <| lx_len rfl Try.underlying22 ho30.rd rfl <| lx_lssS rfl rfl rfl (fun c25 => ?_) (fun c25 => ?_)
          · refine lx_move (.bool true) rfl rfl <| lx_move (.int .i64 w) rfl rfl <| lx_eqlS rfl rfl rfl (fun c26 => ?_) (fun c26 => ?_)
            · refine lx_pick true (.bool true) rfl rfl rfl <| lx_nil <| wi_true rfl <| wi_skip <| wi_seq <| wi_block <| wi_seq <| wi_reg rfl <| lx_move (v5) rfl rfl <| lx_move (.int .i64 ((i : Nat) : Int)) rfl rfl <| lx_ix (i := i) rfl eT22 ho30.rd rfl rfl (by omega) <| lx_ixP (i := i) (c := 0) rfl Try.underlying85 Try.sizeOf3 ho30.rd (by omega) rfl rfl (by decide) <| lx_ld (i := i) (j := 0) (.int .i64 ((gt os i).1)) rfl rfl fl3 ho30.rd (by omega) rfl rfl <| lx_lssS rfl rfl rfl (fun c27 => ?_) (fun c27 => ?_)
              · refine lx_move (.bool true) rfl rfl <| lx_skip rfl <| lx_skip rfl <| lx_skip rfl <| lx_skip rfl <| lx_skip rfl <| lx_skip rfl <| lx_skip rfl <| lx_pick true (.bool true) rfl rfl rfl <| lx_move (.bool true) rfl rfl <| lx_skip rfl <| lx_skip rfl <| lx_skip rfl <| lx_skip rfl <| lx_skip rfl <| lx_skip rfl <| lx_pick true (.bool true) rfl rfl rfl <| lx_move (.bool true) rfl rfl <| lx_skip rfl <| lx_skip rfl <| lx_skip rfl <| lx_skip rfl <| lx_skip rfl <| lx_skip rfl <| lx_skip rfl <| lx_pick true (.bool true) rfl rfl rfl <| lx_nil <| wi_true rfl <| wi_reg rfl <| lx_assign (.int .i64 1) rfl rfl <| lx_nil <| wi_inBlock <| wi_reg rfl <| lx_move (.int .i64 ((i : Nat) : Int)) rfl rfl <| lx_add (((i + 1 : Nat) : Int)) rfl rfl rfl (by omega) (by omega) (by omega) <| lx_assign (.int .i64 ((i + 1 : Nat) : Int)) rfl rfl <| lx_nil <| ?_
                -- L4.1
                refine IH7 _ _ (i + 1, (1 : Int)) (agree_ups rfl agree_self) ⟨rfl, rfl, trivial⟩ ⟨rfl, ?_, ?_⟩ ?_
                · try dsimp only
                  omega
                · try dsimp only
                  first | exact wantP_step hw (by omega) (by omega) (by omega) (by omega) (by omega) | exact .inl ⟨rfl, closE_out (i := i) (by omega) (by omega)⟩
                · first | omega | (dsimp only; omega)
              · refine lx_move (.bool false) rfl rfl <| lx_move (v5) rfl rfl <| lx_move (.int .i64 ((i : Nat) : Int)) rfl rfl <| lx_ix (i := i) rfl eT22 ho30.rd rfl rfl (by omega) <| lx_ixP (i := i) (c := 0) rfl Try.underlying85 Try.sizeOf3 ho30.rd (by omega) rfl rfl (by decide) <| lx_ld (i := i) (j := 0) (.int .i64 ((gt os i).1)) rfl rfl fl3 ho30.rd (by omega) rfl rfl <| lx_move (.int .i64 m) rfl rfl <| lx_geqS rfl rfl rfl (fun c28 => ?_) (fun c28 => ?_)
                · refine lx_pick false (.bool true) rfl rfl rfl <| lx_move (.bool true) rfl rfl <| lx_skip rfl <| lx_skip rfl <| lx_skip rfl <| lx_skip rfl <| lx_skip rfl <| lx_skip rfl <| lx_pick true (.bool true) rfl rfl rfl <| lx_move (.bool true) rfl rfl <| lx_skip rfl <| lx_skip rfl <| lx_skip rfl <| lx_skip rfl <| lx_skip rfl <| lx_skip rfl <| lx_skip rfl <| lx_pick true (.bool true) rfl rfl rfl <| lx_nil <| wi_true rfl <| wi_reg rfl <| lx_assign (.int .i64 1) rfl rfl <| lx_nil <| wi_inBlock <| wi_reg rfl <| lx_move (.int .i64 ((i : Nat) : Int)) rfl rfl <| lx_add (((i + 1 : Nat) : Int)) rfl rfl rfl (by omega) (by omega) (by omega) <| lx_assign (.int .i64 ((i + 1 : Nat) : Int)) rfl rfl <| lx_nil <| ?_
                  -- L4.2
                  refine IH7 _ _ (i + 1, (1 : Int)) (agree_ups rfl agree_self) ⟨rfl, rfl, trivial⟩ ⟨rfl, ?_, ?_⟩ ?_
                  · try dsimp only
                    omega
                  · try dsimp only
                    first | exact wantP_step hw (by omega) (by omega) (by omega) (by omega) (by omega) | exact .inl ⟨rfl, closE_out (i := i) (by omega) (by omega)⟩
                  · first | omega | (dsimp only; omega)
                · refine lx_pick false (.bool false) rfl rfl rfl <| lx_move (.bool false) rfl rfl <| lx_move (v5) rfl rfl <| lx_move (.int .i64 ((i : Nat) : Int)) rfl rfl <| lx_ix (i := i) rfl eT22 ho30.rd rfl rfl (by omega) <| lx_ixP (i := i) (c := 1) rfl Try.underlying85 Try.sizeOf3 ho30.rd (by omega) rfl rfl (by decide) <| lx_ld (i := i) (j := 1) (.int .i64 ((gt os i).2)) rfl rfl fl3 ho30.rd (by omega) rfl rfl <| lx_lssS rfl rfl rfl (fun c29 => ?_) (fun c29 => ?_)
                  · refine lx_pick false (.bool true) rfl rfl rfl <| lx_move (.bool true) rfl rfl <| lx_skip rfl <| lx_skip rfl <| lx_skip rfl <| lx_skip rfl <| lx_skip rfl <| lx_skip rfl <| lx_skip rfl <| lx_pick true (.bool true) rfl rfl rfl <| lx_nil <| wi_true rfl <| wi_reg rfl <| lx_assign (.int .i64 1) rfl rfl <| lx_nil <| wi_inBlock <| wi_reg rfl <| lx_move (.int .i64 ((i : Nat) : Int)) rfl rfl <| lx_add (((i + 1 : Nat) : Int)) rfl rfl rfl (by omega) (by omega) (by omega) <| lx_assign (.int .i64 ((i + 1 : Nat) : Int)) rfl rfl <| lx_nil <| ?_
                    -- L4.3
                    refine IH7 _ _ (i + 1, (1 : Int)) (agree_ups rfl agree_self) ⟨rfl, rfl, trivial⟩ ⟨rfl, ?_, ?_⟩ ?_
                    · try dsimp only
                      omega
                    · try dsimp only
                      first | exact wantP_step hw (by omega) (by omega) (by omega) (by omega) (by omega) | exact .inl ⟨rfl, closE_out (i := i) (by omega) (by omega)⟩
                    · first | omega | (dsimp only; omega)
                  · refine lx_pick false (.bool false) rfl rfl rfl <| lx_move (.bool false) rfl rfl <| lx_move (v5) rfl rfl <| lx_move (.int .i64 ((i : Nat) : Int)) rfl rfl <| lx_ix (i := i) rfl eT22 ho30.rd rfl rfl (by omega) <| lx_ixP (i := i) (c := 1) rfl Try.underlying85 Try.sizeOf3 ho30.rd (by omega) rfl rfl (by decide) <| lx_ld (i := i) (j := 1) (.int .i64 ((gt os i).2)) rfl rfl fl3 ho30.rd (by omega) rfl rfl <| lx_move (.int .i64 m) rfl rfl <| lx_geqS rfl rfl rfl (fun c30 => ?_) (fun c30 => ?_)
                    · refine lx_pick false (.bool true) rfl rfl rfl <| lx_nil <| wi_true rfl <| wi_reg rfl <| lx_assign (.int .i64 1) rfl rfl <| lx_nil <| wi_inBlock <| wi_reg rfl <| lx_move (.int .i64 ((i : Nat) : Int)) rfl rfl <| lx_add (((i + 1 : Nat) : Int)) rfl rfl rfl (by omega) (by omega) (by omega) <| lx_assign (.int .i64 ((i + 1 : Nat) : Int)) rfl rfl <| lx_nil <| ?_
                      -- L4.4
                      refine IH7 _ _ (i + 1, (1 : Int)) (agree_ups rfl agree_self) ⟨rfl, rfl, trivial⟩ ⟨rfl, ?_, ?_⟩ ?_
                      · try dsimp only
                        omega
                      · try dsimp only
                        first | exact wantP_step hw (by omega) (by omega) (by omega) (by omega) (by omega) | exact .inl ⟨rfl, closE_out (i := i) (by omega) (by omega)⟩
                      · first | omega | (dsimp only; omega)
                    · refine lx_pick false (.bool false) rfl rfl rfl <| lx_nil <| wi_false rfl <| wi_skip <| wi_inBlock <| wi_reg rfl <| lx_move (.int .i64 ((i : Nat) : Int)) rfl rfl <| lx_add (((i + 1 : Nat) : Int)) rfl rfl rfl (by omega) (by omega) (by omega) <| lx_assign (.int .i64 ((i + 1 : Nat) : Int)) rfl rfl <| lx_nil <| ?_
                      -- L4.5
                      refine IH7 _ _ (i + 1, w) (agree_ups rfl agree_self) ⟨rfl, rfl, trivial⟩ ⟨rfl, ?_, ?_⟩ ?_
                      · try dsimp only
                        omega
                      · try dsimp only
                        first | exact wantP_step hw (by omega) (by omega) (by omega) (by omega) (by omega) | exact .inl ⟨rfl, closE_out (i := i) (by omega) (by omega)⟩
                      · first | omega | (dsimp only; omega)
            · refine lx_pick true (.bool false) rfl rfl rfl <| lx_nil <| wi_false rfl <| wi_exit rfl <| ?_
              -- J4.1
              refine J7 _ _ (w) (agree_ups rfl (agree_mix (rngB_sub (by decide) (by decide) rfl) (agree_ups rfl agree_upsJ))) ⟨rfl, trivial⟩ ⟨rfl, ?_⟩
              · try dsimp only
                exact wantP_end hw (fun h9 => by omega)
          · refine lx_move (.bool false) rfl rfl <| lx_skip rfl <| lx_skip rfl <| lx_pick false (.bool false) rfl rfl rfl <| lx_nil <| wi_false rfl <| wi_exit rfl <| ?_
            -- J4.2
            refine J7 _ _ (w) (agree_ups rfl (agree_mix (rngB_sub (by decide) (by decide) rfl) (agree_ups rfl agree_upsJ))) ⟨rfl, trivial⟩ ⟨rfl, ?_⟩
            · try dsimp only
              exact wantP_end hw (fun h9 => by omega)
        rintro g14 w hh14 ⟨rfl, hw⟩
        refine wi_seq <| wi_seq <| wi_reg rfl <| lx_move (.int .i64 w) rfl rfl <| lx_neq rfl rfl rfl <| lx_nil <| ?_
        refine wi_cutE (σ := Unit) (rngB 399 430 [6, 58, 59]) (fun (_ : Unit) => []) (fun (_ : Unit) (hh : Heap) => OwE encP hh h.size 85 v5 os ∧ Ext h.size h hh) (fun J8 => ?_) ?_
        · refine wi_condS (t := decide (w ≠ (0 : Int))) rfl (fun c31 => ?_) (fun c31 => ?_)
          · refine wi_seq <| wi_reg rfl <| ?_
            have hw9 : w ≠ 0 := of_decide_eq_true ‹decide (w ≠ 0) = true›
            obtain ⟨hw1, hce1⟩ : w = 1 ∧ closE m os = 1 := hw.elim id fun h => absurd h.1 hw9
            have hpc : pc = [] := hcl.elim (fun h => h.2) fun h => absurd h.1 (by omega)
            have hpc0 : hc9.length = 0 := by have := congrArg List.length hpc; rw [List.length_nil] at this; omega
            refine lx_move (.int .i64 (closE m os)) rfl rfl <| lx_move (.int .i64 w) rfl rfl <| lx_neqF rfl rfl rfl (fun h9 => h9 (by omega)) <| lx_move (.bool false) rfl rfl <| lx_move (vc) rfl rfl <| lx_len rfl Try.underlying29 ho31.rd rfl <| lx_neqF rfl rfl rfl (by omega) <| lx_pick false (.bool false) rfl rfl rfl <| lx_nil <| wi_false rfl <| wi_skip <| ?_
            -- Jt398.1
            refine J8 _ _ () (agree_ups rfl agree_upsJ) trivial ⟨?_, hx0_29⟩
            · first | exact ho30 | (simpa using ho30)
          · refine wi_seq <| wi_reg rfl <| ?_
            have hw0 : w = 0 := by have := of_decide_eq_false ‹decide (w ≠ 0) = false›; omega
            obtain ⟨hm1, hm12, hin⟩ : 1 ≤ m ∧ m ≤ 12 ∧ ∀ j, j < os.length → Go.X.inR m (gt os j) = true := hw.elim (fun h => absurd h.1 (by omega)) fun h => h.2
            have hin9 : ∀ j, j < os.length → Go.X.inR m (gt os j) = true := hin
            obtain ⟨mN, rfl⟩ : ∃ mN : Nat, m = ((mN : Nat) : Int) := ⟨m.toNat, by omega⟩
            refine lx_move (.int .i64 ((mN : Nat) : Int)) rfl rfl <| lx_move (v5) rfl rfl <| lx_call [.int .i64 ((mN : Nat) : Int), v5] rfl rfl Try.call64 rfl (rclosure_spec h26 mN v5 os ho30.rd (by omega) (by omega) hin9) (fun _ _ _ => trivial) ?_
            rintro _ h33 ⟨vr, hr9, rfl, ho46, hot35, hx24⟩
            have hx0_38 := hx0_29.trans2 hx24 hx0_29.size
            have ho47 := ho30.extS hx24
            have ho48 := ho31.extS hx24
            have hot36 := hot28.extS hx24
            have ho49 := ho46.base hx0_29.size
            have hot37 := hot35.base hx0_29.size
            have hl_hot37 := hot37.1
            refine lx_move (.tuple #[vr, .bool (ordB mN (closW mN os))]) rfl rfl <| lx_extract (vr) rfl rfl rfl <| lx_extract (.bool (ordB mN (closW mN os))) rfl rfl rfl <| lx_assign (vr) rfl rfl <| lx_assign (.bool (ordB mN (closW mN os))) rfl rfl <| lx_nil <| wi_seq <| wi_reg rfl <| lx_move (.bool (ordB mN (closW mN os))) rfl rfl <| lx_not rfl rfl <| lx_nil <| wi_condS (t := !(ordB mN (closW mN os))) rfl (fun c32 => ?_) (fun c32 => ?_)
            · refine wi_seq <| wi_reg rfl <| ?_
              have hcb := closE_bad (by omega) (by omega) hin9 (by simpa using ‹(!ordB mN (closW mN os)) = true›)
              have hpc : pc = [] := hcl.elim (fun h => h.2) fun h => absurd h.1 (by omega)
              have hpc0 : hc9.length = 0 := by have := congrArg List.length hpc; rw [List.length_nil] at this; omega
              refine lx_move (.int .i64 (closE ((mN : Nat) : Int) os)) rfl rfl <| lx_neqF rfl rfl rfl (fun h9 => h9 hcb) <| lx_move (.bool false) rfl rfl <| lx_move (vc) rfl rfl <| lx_len rfl Try.underlying29 ho48.rd rfl <| lx_neqF rfl rfl rfl (by omega) <| lx_pick false (.bool false) rfl rfl rfl <| lx_nil <| wi_false rfl <| wi_skip <| ?_
              -- Jt398.2
              refine J8 _ _ () (agree_ups rfl agree_upsJ) trivial ⟨?_, hx0_38⟩
              · first | exact ho47 | (simpa using ho47)
            · refine wi_seq <| wi_reg rfl <| ?_
              have hcb := closE_good (by omega) (by omega) hin9 (by simpa using ‹(!ordB mN (closW mN os)) = false›)
              have hpc := goodA hcl hcb
              rw [Int.toNat_natCast] at hpc
              refine lx_move (.int .i64 (closE ((mN : Nat) : Int) os)) rfl rfl <| lx_neqF rfl rfl rfl (fun h9 => h9 hcb) <| lx_move (.bool false) rfl rfl <| lx_move (vc) rfl rfl <| lx_move (vr) rfl rfl <| lx_call [vc, vr] rfl rfl Try.call21 rfl (tables9_spec h33 vc hc9 pc vr hr9 (tabF mN (closW mN os)) ho48.rd hot36.rt ho49.rd hot37.rt (tab_le hpc (by omega)).1 (tab_le rfl (by omega)).1 (tab_le hpc (by omega)).2 (tab_le rfl (by omega)).2) (fun _ _ _ => trivial) ?_
              rintro _ h34 ⟨rfl, rfl⟩
              rw [decide_eq_true hpc]
              refine lx_notB false rfl rfl rfl <| lx_pick false (.bool false) rfl rfl rfl <| lx_nil <| wi_false rfl <| wi_skip <| ?_
              -- Jt398.3
              refine J8 _ _ () (agree_ups rfl agree_upsJ) trivial ⟨?_, hx0_38⟩
              · first | exact ho47 | (simpa using ho47)
        rintro g15 _ hh15 ⟨ho50, hx0_39⟩
        refine wi_seq <| wi_reg rfl <| lx_move (.int .i64 m) rfl rfl <| lx_conv ((ur m : Nat) : Int) rfl Try.underlying3 Try.underlying45 rfl (wrap_ur _) <| lx_rem (m := ur m) (n := 12) rfl rfl rfl (by omega) <| lx_conv (((ur m) % 12 : Nat) : Int) rfl Try.underlying45 Try.underlying3 rfl (wrap_i64 (by omega) (by omega)) <| lx_add (((1 + ((ur m) % 12) : Nat) : Int)) rfl rfl rfl (by omega) (by omega) (by omega) <| lx_assign (.int .i64 ((1 + ((ur m) % 12) : Nat) : Int)) rfl rfl <| lx_nil <| wi_seq <| wi_reg rfl <| lx_assign (.int .i64 0) rfl rfl <| lx_nil <| wi_block <| ?_
        refine wi_loop (σ := Nat × (List (Int × Int))) (rngB 435 465 [60]) (fun (ss : Nat × (List (Int × Int))) => [(60, .int .i64 ((ss.1 : Nat) : Int))]) (fun (ss : Nat × (List (Int × Int))) (hh : Heap) => OwE encP hh h.size 85 v5 ss.2 ∧ Ext h.size h hh ∧ (ss.1 ≤ os.length) ∧ (ss.2.length = os.length)) (fun (ss : Nat × (List (Int × Int))) => os.length - ss.1) (0, os) ⟨rfl, trivial⟩ ⟨?_, hx0_39, ?_, ?_⟩ ?_
        · first | exact ho50 | (simpa using ho50)
        · try dsimp only
          omega
        · try dsimp only
          first | done | rfl
        rintro g16 ⟨i, os2⟩ hh16 ⟨ho51, hx0_40, hi, hol2⟩ IH8
        dsimp only at *
        refine wi_seq <| wi_seq <| wi_reg rfl <| lx_move (.int .i64 ((i : Nat) : Int)) rfl rfl <| lx_move (v5) rfl rfl <| lx_len rfl Try.underlying22 ho51.rd rfl <| lx_lssS rfl rfl rfl (fun c33 => ?_) (fun c33 => ?_)
        · refine lx_nil <| wi_true rfl <| wi_skip <| wi_seq <| wi_block <| wi_draw mo rfl (by decide +kernel) <| ?_
          have hmd0 := Nat.mod_lt (ur m) (show 0 < 12 by omega)
          have hmd1 := Nat.mod_lt (ur (gt os2 i).1) (show 0 < 1 + ur m % 12 by omega)
          have hmd2 := Nat.mod_lt (ur (gt os2 i).2) (show 0 < 1 + ur m % 12 by omega)
          refine lx_move (v5) rfl rfl <| lx_move (.int .i64 ((i : Nat) : Int)) rfl rfl <| lx_move (v5) rfl rfl <| lx_move (.int .i64 ((i : Nat) : Int)) rfl rfl <| lx_ix (i := i) rfl eT22 ho51.rd rfl rfl (by omega) <| lx_ixP (i := i) (c := 0) rfl Try.underlying85 Try.sizeOf3 ho51.rd (by omega) rfl rfl (by decide) <| lx_ld (i := i) (j := 0) (.int .i64 ((gt os2 i).1)) rfl rfl fl3 ho51.rd (by omega) rfl rfl <| lx_conv ((ur ((gt os2 i).1) : Nat) : Int) rfl Try.underlying3 Try.underlying45 rfl (wrap_ur _) <| lx_move (.int .i64 ((1 + ((ur m) % 12) : Nat) : Int)) rfl rfl <| lx_conv ((1 + ((ur m) % 12) : Nat) : Int) rfl Try.underlying3 Try.underlying45 rfl (wrap_u64 (by omega) (by omega)) <| lx_rem (m := ur ((gt os2 i).1)) (n := 1 + ((ur m) % 12)) rfl rfl rfl (by omega) <| lx_conv (((ur ((gt os2 i).1)) % (1 + ((ur m) % 12)) : Nat) : Int) rfl Try.underlying45 Try.underlying3 rfl (wrap_i64 (by omega) (by omega)) <| lx_move (v5) rfl rfl <| lx_move (.int .i64 ((i : Nat) : Int)) rfl rfl <| lx_ix (i := i) rfl eT22 ho51.rd rfl rfl (by omega) <| lx_ixP (i := i) (c := 1) rfl Try.underlying85 Try.sizeOf3 ho51.rd (by omega) rfl rfl (by decide) <| lx_ld (i := i) (j := 1) (.int .i64 ((gt os2 i).2)) rfl rfl fl3 ho51.rd (by omega) rfl rfl <| lx_conv ((ur ((gt os2 i).2) : Nat) : Int) rfl Try.underlying3 Try.underlying45 rfl (wrap_ur _) <| lx_move (.int .i64 ((1 + ((ur m) % 12) : Nat) : Int)) rfl rfl <| lx_conv ((1 + ((ur m) % 12) : Nat) : Int) rfl Try.underlying3 Try.underlying45 rfl (wrap_u64 (by omega) (by omega)) <| lx_rem (m := ur ((gt os2 i).2)) (n := 1 + ((ur m) % 12)) rfl rfl rfl (by omega) <| lx_conv (((ur ((gt os2 i).2)) % (1 + ((ur m) % 12)) : Nat) : Int) rfl Try.underlying45 Try.underlying3 rfl (wrap_i64 (by omega) (by omega)) <| lx_build (.agg #[.int .i64 (((ur ((gt os2 i).1)) % (1 + ((ur m) % 12)) : Nat) : Int), .int .i64 (((ur ((gt os2 i).2)) % (1 + ((ur m) % 12)) : Nat) : Int)]) [(0, .int .i64 (((ur ((gt os2 i).1)) % (1 + ((ur m) % 12)) : Nat) : Int)), (1, .int .i64 (((ur ((gt os2 i).2)) % (1 + ((ur m) % 12)) : Nat) : Int))] rfl rfl (fun w => bld85_2 _ _ w) <| lx_ix (i := i) rfl eT22 ho51.rd rfl rfl (by omega) <| lx_st (i := i) (((((ur ((gt os2 i).1)) % (1 + ((ur m) % 12)) : Nat) : Int), (((ur ((gt os2 i).2)) % (1 + ((ur m) % 12)) : Nat) : Int))) rfl rfl Try.sizeOf85 ho51 (by omega) rfl rfl (fun _ _ _ _ _ => trivial) fun h35 ho52 hc7 hsz4 => ?_
          have hx0_41 := hx0_40.trans (ho51.ext hc7 hx0_40.size)
          refine lx_nil <| wi_inBlock <| wi_reg rfl <| lx_move (.int .i64 ((i : Nat) : Int)) rfl rfl <| lx_add (((i + 1 : Nat) : Int)) rfl rfl rfl (by omega) (by omega) (by omega) <| lx_assign (.int .i64 ((i + 1 : Nat) : Int)) rfl rfl <| lx_nil <| ?_
          -- L6.1
          refine IH8 _ _ (i + 1, os2.set i (((((ur ((gt os2 i).1)) % (1 + ((ur m) % 12)) : Nat) : Int), (((ur ((gt os2 i).2)) % (1 + ((ur m) % 12)) : Nat) : Int)))) (agree_ups rfl agree_self) ⟨rfl, trivial⟩ ⟨?_, hx0_41, ?_, ?_⟩ ?_
          · first | exact ho52 | (simpa using ho52)
          · try dsimp only
            omega
          · try dsimp only
            rw [List.length_set]; exact hol2
          · first | omega | (dsimp only; omega)
        · refine lx_nil <| wi_false rfl <| wi_exit rfl <| wi_inBlock <| wi_reg rfl <| lx_move (.int .i64 ((k : Nat) : Int)) rfl rfl <| lx_add (((k + 1 : Nat) : Int)) rfl rfl rfl (by omega) (by omega) (by omega) <| lx_assign (.int .i64 ((k + 1 : Nat) : Int)) rfl rfl <| lx_nil <| ?_
          -- L2.3
          refine IH2 _ _ (k + 1, ((1 + ((ur m) % 12) : Nat) : Int), os2) (agree_ups rfl (agree_mix (rngB_sub (by decide) (by decide) rfl) (agree_ups rfl (agree_mix (rngB_sub (by decide) (by decide) rfl) (agree_ups rfl (agree_mix (rngB_sub (by decide) (by decide) rfl) (agree_ups rfl agree_self))))))) ⟨rfl, rfl, trivial⟩ ⟨?_, hx0_40, ?_, ?_⟩ ?_
          · first | exact ho51 | (simpa using ho51)
          · try dsimp only
            omega
          · try dsimp only
            omega
          · first | omega | (dsimp only; omega)
  · refine lx_nil <| wi_false rfl <| wi_exit rfl <| wi_seq <| wi_reg rfl <| lx_call [] rfl rfl Try.call20 rfl (awake_spec hh4 ) (fun _ _ _ => trivial) ?_
    rintro _ h36 ⟨rfl, hx25⟩
    have hx0_42 := hx0_28.trans2 hx25 hx0_28.size
    have ho53 := ho28.extS hx25
    refine lx_assign (.bool true) rfl rfl <| lx_nil <| ?_
    -- R1
    refine wi_ret ⟨.bool true, (res_one rfl rfl), ⟨rfl, hx0_42⟩⟩

end Go.Proofs.Ytdokijbdnajhgaa
namespace Go.Proofs.Ytdokijbdnajhgaa
open Go Go.X Go.ChangeShapes Go.WideShapes Go.ChangeAt Go.RowKit

theorem orderChecks_own : ownKnob Try.prog.godebug = none := by kernel_rfl
theorem orderChecks_laidOut : laidOutB Try.prog = true := by kernel_rfl

set_option maxRecDepth 100000 in
theorem orderChecks_lifted (os : Os) (started : os.Started) (H : Type) (enc : TypeId × Value → H) :
    ReturnsInHanded {} Try.checked os 10 .any (Rows.orderChecksSpec.pre6 enc Try.prog Try.f10 Rows.orderChecksRow.domain false) (Rows.orderChecksSpec.post enc Try.prog Try.f10 false true false false) := by
  refine returnsInHanded_of_change (C := Try.checked) orderChecks_own started (by kernel_rfl) Try.func10
    (ChangeSpec.witness6 (enc := enc) (C := Try.checked) false ⟨#[], #[.slice none 0 0, .int .i64 0, .slice none 0 0], []⟩ 8 (by kernel_rfl) (by kernel_rfl) (by kernel_rfl) (by kernel_rfl)) ?_
  intro W base args ds gs before hval0 hW hcnd _
  have hval : ∀ (j : Nat) t v, Try.f10.params[j]? = some t → args[j]? = some v → Value.okWide Try.prog W .any base t v := hval0
  have hW' := hW
  obtain ⟨p, q, hA0, hV, rfl, hfz, hnd⟩ := hW
  have hA : DataW.TrodAll enc Try.prog W 0 (fun _ => true) true Try.f10.params.toList args.toList ds p := hA0
  rw [Try.params10] at hA hval
  obtain ⟨v0, vs0, d0, ds0, p0, q0, hargs, rfl, rfl, h0, r0⟩ := trodAll_cons hA
  obtain ⟨v1, vs1, d1, ds1, p1, q1, rfl, rfl, rfl, h1, r1⟩ := trodAll_cons r0
  obtain ⟨v2, vs2, d2, ds2, p2, q2, rfl, rfl, rfl, h2, r2⟩ := trodAll_cons r1
  obtain ⟨rfl, rfl, rfl⟩ := trodAll_nil r2
  obtain rfl : args = #[v0, v1, v2] := by cases args; simp_all
  obtain ⟨rfl, rfl⟩ := trodVars_none hV
  have k0 := h0
  have lt0 : ∀ x ∈ p0, x.block < W.heap.size := by obtain ⟨m, hm⟩ := k0; exact DataW.trod_lt m _ _ _ hm
  obtain ⟨h_p, p, hr_p, ht_p, hl_p, hb_p⟩ := lift_rows Try.underlying23 Try.underlying70 Try.underlying4 (by kernel_rfl) (by kernel_rfl) (hval 0 23 v0 rfl rfl) h0
  obtain ⟨n, rfl, rfl, rfl, w1⟩ := open_int Try.underlying3 (hval 1 3 v1 rfl rfl) h1
  have hb_n := bounds_i64 w1
  have k2 := h2
  have lt2 : ∀ x ∈ p2, x.block < W.heap.size := by obtain ⟨m, hm⟩ := k2; exact DataW.trod_lt m _ _ _ hm
  obtain ⟨l, hr_l, hl_l, hb_l⟩ := lift_pairs Try.underlying22 Try.underlying85 Try.underlying3 (by kernel_rfl) (by kernel_rfl) (hval 2 22 v2 rfl rfl) h2
  clear hA0 hval0
  refine (lift_walk (args := [v0, .int .i64 n, v2]) (orderChecks_spec W.heap v0 h_p p n v2 l hr_p ht_p hr_l hl_p hb_p hl_l)).mono fun e W' ⟨he, bel⟩ => ?_
  subst he
  exact ⟨_, rfl, _, _, _, [], _, [], hW', trodAll_mk1 (shut_bool Try.underlying4 _), (trodAll_cons_mk (Below.trod orderChecks_laidOut (by kernel_rfl) (of_decide_eq_true (by kernel_rfl)) k0 bel lt0) (trodAll_cons_mk (shut_int Try.underlying3 w1) (trodAll_cons_mk (Below.trod orderChecks_laidOut (by kernel_rfl) (of_decide_eq_true (by kernel_rfl)) k2 bel lt2) trodAll_mk0))), rfl, bel.frame _, fun h => by cases h⟩

theorem orderChecks_holds : Rows.OrderChecksSaid :=
  OpenClaim.holds_of_wide 10 Try.f10 rfl rfl rfl rfl rfl rfl rfl ⟨rfl, rfl, rfl, rfl, rfl⟩ rfl rfl rfl rfl rfl (by kernel_rfl) Try.func10 (by kernel_rfl)
    (of_decide_eq_true (by kernel_rfl)) (by unfold Func.isWrapper; first | (rw [if_pos (by decide +kernel)]; kernel_rfl) | (rw [if_neg (by decide +kernel)]; exact ⟨rfl, rfl⟩))
    (fun os started H enc _ => orderChecks_lifted os started H enc)
#print axioms orderChecks_holds
end Go.Proofs.Ytdokijbdnajhgaa
