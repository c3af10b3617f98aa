/-
  Texts in one: PE, PF, PG, PH, PI, PK, PL, PN, PS, PT.
-/
import Derived.Test.YtdokijbdnajhgaaMChk5
set_option linter.unusedSimpArgs false
set_option linter.unusedVariables false
namespace Go.Proofs.Ytdokijbdnajhgaa
open Go Go.X

/-- Whether these three are the middle of a bad five. -/
abbrev badAt (n : Nat) (f : Nat → Nat → Bool) (a b c : Nat) : Prop := badP n f (mN n f a c) a b c (jN n f a c)
def badR (n : Nat) (f : Nat → Nat → Bool) (o a b c i : Nat) (bb : Bool) : Prop :=
  (bb = true ∧ badP n f o a b c i ∧ o < n ∧ a < n ∧ b < n ∧ c < n ∧ i < n) ∨ (bb = false ∧ (o = 0 ∧ a = 0 ∧ b = 0 ∧ c = 0 ∧ i = 0) ∧ ∀ q r s, q < n → r < n → s < n → ¬ badAt n f q r s)

set_option maxRecDepth 10000 in
theorem bad_spec (h : Heap) (vp : Value) (hs : List Hdr) (p : List (List Bool)) (vj : Value) (hj : List Hdr) (rj : List (List Int)) (vm : Value) (hm : List Hdr) (rm : List (List Int)) (hr_vj : RdE encHd h vj hj) (ht_vj : RT encI h hj rj) (hr_vm : RdE encHd h vm hm) (ht_vm : RT encI h hm rm) (hr_vp : RdE encHd h vp hs) (ht_vp : RT encB h hs p) (hp1 : p.length ≤ 12) (hp2 : Sq p p.length) (hp3 : IsO p.length (pb p)) (hp4 : noGap p.length (pb p)) (hp5 : rj = tabI p.length (joinF p.length (pb p))) (hp6 : rm = tabI p.length (meetF p.length (pb p))) : Fx Try.prog 94 [.agg #[vj, vm], vp] h (fun v h' => ∃ (o : Nat) (a : Nat) (b : Nat) (c : Nat) (i : Nat) (bb : Bool), v = .tuple #[.agg #[.int .i64 ((o : Nat) : Int), .int .i64 ((a : Nat) : Int), .int .i64 ((b : Nat) : Int), .int .i64 ((c : Nat) : Int), .int .i64 ((i : Nat) : Int)], .bool bb] ∧ (badR p.length (pb p) o a b c i bb) ∧ Ext h.size h h') := by
  have hl_vp := ht_vp.1
  have hl_vj := ht_vj.1
  have hl_vm := ht_vm.1
  refine fx_intro (n := 56) [(0, .agg #[vj, vm]), (1, vp)] Try.func94 rfl rfl (by simp) ⟨rfl, rfl, trivial⟩ fun g0 => ?_
  refine wi_seq <| wi_reg rfl <| lx_box #[vj, vm] rfl rfl rfl (fun _ _ _ => trivial) fun bn1 h1 hbn1 hbk1 hx1 hsz1 => ?_
  have hbb1 : h.size ≤ bn1 := by have := (Nat.le_refl h.size); omega
  refine lx_alloc rfl rfl Try.zeroValue48 (fun _ _ _ => trivial) fun bn2 h2 hbn2 hbk2 hx2 hsz2 => ?_
  have hbb2 : h.size ≤ bn2 := by have := hx1.size; omega
  have hne1 : bn2 ≠ bn1 := by have := hbk1.lt; omega
  have hx0_1 := hx1.trans2 hx2 hx1.size
  have hb1 := hbk1.extS hx2
  have hbk2 : Blk h2 bn2 #[.int .i64 0, .int .i64 0, .int .i64 0, .int .i64 0, .int .i64 0] 48 := hbk2
  refine lx_assign (.bool false) rfl rfl <| lx_nil <| wi_scope <| wi_seq <| wi_label <| wi_seq <| wi_seq <| wi_reg rfl <| lx_move (vp) rfl rfl <| lx_len rfl Try.underlying29 hr_vp rfl <| lx_move (.int .i64 0) rfl rfl <| lx_nil <| wi_block <| ?_
  refine wi_loop (σ := Nat × Nat × Nat × Nat × Nat × Nat × Bool) (rngB 11 52 [5, 6, 7, 8]) (fun (ss : Nat × Nat × Nat × Nat × Nat × Nat × Bool) => [(11, .int .i64 ((ss.1 : Nat) : Int)), (5, .bool ss.2.2.2.2.2.2)]) (fun (ss : Nat × Nat × Nat × Nat × Nat × Nat × Bool) (hh : Heap) => Blk hh bn1 #[vj, vm] 119 ∧ Blk hh bn2 #[.int .i64 ((ss.2.1 : Nat) : Int), .int .i64 ((ss.2.2.1 : Nat) : Int), .int .i64 ((ss.2.2.2.1 : Nat) : Int), .int .i64 ((ss.2.2.2.2.1 : Nat) : Int), .int .i64 ((ss.2.2.2.2.2.1 : Nat) : Int)] 48 ∧ Ext h.size h hh ∧ (ss.1 ≤ p.length) ∧ (ss.2.2.2.2.2.2 = false) ∧ (∀ q r s, q < ss.1 → r < p.length → s < p.length → ¬ badAt p.length (pb p) q r s)) (fun (ss : Nat × Nat × Nat × Nat × Nat × Nat × Bool) => p.length - ss.1) (0, 0, 0, 0, 0, 0, false) ⟨rfl, rfl, trivial⟩ ⟨?_, ?_, hx0_1, ?_, ?_, ?_⟩ ?_
  · exact hb1
  · exact hbk2
  · try dsimp only
    omega
  · try dsimp only
    first | done | rfl
  · try dsimp only
    intro q r s hq; omega
  rintro g1 ⟨x, vo, va, vb, vc, vi, bb⟩ hh1 ⟨hbk3, hbk4, hx0_2, hx, hbb, ha⟩ IH1
  dsimp only at *
  refine wi_seq <| wi_reg rfl <| lx_lssS rfl rfl rfl (fun c1 => ?_) (fun c1 => ?_)
  · refine lx_nil <| wi_seq <| wi_true rfl <| wi_skip <| wi_seq <| wi_block <| wi_seq <| wi_reg rfl <| lx_move (.int .i64 ((x : Nat) : Int)) rfl rfl <| lx_assign (.int .i64 ((x : Nat) : Int)) rfl rfl <| lx_nil <| wi_seq <| wi_reg rfl <| lx_move (vp) rfl rfl <| lx_len rfl Try.underlying29 hr_vp rfl <| lx_move (.int .i64 0) rfl rfl <| lx_nil <| wi_block <| ?_
    refine wi_loop (σ := Nat × Nat × Nat × Nat × Nat × Nat × Bool) (rngB 16 51 [5, 7, 8]) (fun (ss : Nat × Nat × Nat × Nat × Nat × Nat × Bool) => [(16, .int .i64 ((ss.1 : Nat) : Int)), (5, .bool ss.2.2.2.2.2.2)]) (fun (ss : Nat × Nat × Nat × Nat × Nat × Nat × Bool) (hh : Heap) => Blk hh bn1 #[vj, vm] 119 ∧ Blk hh bn2 #[.int .i64 ((ss.2.1 : Nat) : Int), .int .i64 ((ss.2.2.1 : Nat) : Int), .int .i64 ((ss.2.2.2.1 : Nat) : Int), .int .i64 ((ss.2.2.2.2.1 : Nat) : Int), .int .i64 ((ss.2.2.2.2.2.1 : Nat) : Int)] 48 ∧ Ext h.size h hh ∧ (ss.1 ≤ p.length) ∧ (ss.2.2.2.2.2.2 = false) ∧ (∀ r s, r < ss.1 → s < p.length → ¬ badAt p.length (pb p) x r s)) (fun (ss : Nat × Nat × Nat × Nat × Nat × Nat × Bool) => p.length - ss.1) (0, vo, va, vb, vc, vi, bb) ⟨rfl, rfl, trivial⟩ ⟨?_, ?_, hx0_2, ?_, ?_, ?_⟩ ?_
    · exact hbk3
    · exact hbk4
    · try dsimp only
      omega
    · try dsimp only
      exact hbb
    · try dsimp only
      intro r s hr; omega
    rintro g2 ⟨y, vo, va, vb, vc, vi, bb⟩ hh2 ⟨hbk5, hbk6, hx0_3, hy, hbb, hb⟩ IH2
    dsimp only at *
    refine wi_seq <| wi_reg rfl <| lx_lssS rfl rfl rfl (fun c2 => ?_) (fun c2 => ?_)
    · refine lx_nil <| wi_seq <| wi_true rfl <| wi_skip <| wi_seq <| wi_block <| wi_seq <| wi_reg rfl <| lx_move (.int .i64 ((y : Nat) : Int)) rfl rfl <| lx_assign (.int .i64 ((y : Nat) : Int)) rfl rfl <| lx_nil <| wi_seq <| wi_reg rfl <| lx_move (vp) rfl rfl <| lx_len rfl Try.underlying29 hr_vp rfl <| lx_move (.int .i64 0) rfl rfl <| lx_nil <| wi_block <| ?_
      refine wi_loop (σ := Nat × Nat × Nat × Nat × Nat × Nat × Bool) (rngB 21 50 [5, 8]) (fun (ss : Nat × Nat × Nat × Nat × Nat × Nat × Bool) => [(21, .int .i64 ((ss.1 : Nat) : Int)), (5, .bool ss.2.2.2.2.2.2)]) (fun (ss : Nat × Nat × Nat × Nat × Nat × Nat × Bool) (hh : Heap) => Blk hh bn1 #[vj, vm] 119 ∧ Blk hh bn2 #[.int .i64 ((ss.2.1 : Nat) : Int), .int .i64 ((ss.2.2.1 : Nat) : Int), .int .i64 ((ss.2.2.2.1 : Nat) : Int), .int .i64 ((ss.2.2.2.2.1 : Nat) : Int), .int .i64 ((ss.2.2.2.2.2.1 : Nat) : Int)] 48 ∧ Ext h.size h hh ∧ (ss.1 ≤ p.length) ∧ (ss.2.2.2.2.2.2 = false) ∧ (∀ s, s < ss.1 → ¬ badAt p.length (pb p) x y s)) (fun (ss : Nat × Nat × Nat × Nat × Nat × Nat × Bool) => p.length - ss.1) (0, vo, va, vb, vc, vi, bb) ⟨rfl, rfl, trivial⟩ ⟨?_, ?_, hx0_3, ?_, ?_, ?_⟩ ?_
      · exact hbk5
      · exact hbk6
      · try dsimp only
        omega
      · try dsimp only
        exact hbb
      · try dsimp only
        intro s hs9; omega
      rintro g3 ⟨z, vo, va, vb, vc, vi, bb⟩ hh3 ⟨hbk7, hbk8, hx0_4, hz, hbb, hc⟩ IH3
      dsimp only at *
      refine wi_seq <| wi_reg rfl <| lx_lssS rfl rfl rfl (fun c3 => ?_) (fun c3 => ?_)
      · refine lx_nil <| wi_seq <| wi_true rfl <| wi_skip <| wi_seq <| wi_block <| wi_seq <| wi_reg rfl <| lx_move (.int .i64 ((z : Nat) : Int)) rfl rfl <| lx_assign (.int .i64 ((z : Nat) : Int)) rfl rfl <| lx_nil <| wi_seq <| wi_draw mo rfl (by decide +kernel) <| ?_
        have hjl : rj.length = p.length := by rw [hp5]; exact tabI_len _ _
        have hml : rm.length = p.length := by rw [hp6]; exact tabI_len _ _
        have hjr : gt rj x = mapR p.length (joinF p.length (pb p) x) := by rw [hp5, gt_tabI (by omega)]
        have hmr : gt rm x = mapR p.length (meetF p.length (pb p) x) := by rw [hp6, gt_tabI (by omega)]
        have hjl2 : (gt rj x).length = p.length := by rw [hjr]; exact mapR_len _ _
        have hml2 : (gt rm x).length = p.length := by rw [hmr]; exact mapR_len _ _
        have hJ := jN_at hp3 hp4 (x := x) (y := z) (by omega) (by omega)
        have hM := mN_at hp3 hp4 (x := x) (y := z) (by omega) (by omega)
        have hje : gt (gt rj x) z = ((jN p.length (pb p) x z : Nat) : Int) := by rw [hjr, gt_mapR (by omega)]; exact hJ.1
        have hme : gt (gt rm x) z = ((mN p.length (pb p) x z : Nat) : Int) := by rw [hmr, gt_mapR (by omega)]; exact hM.1
        have hjn := hJ.2.1
        have hmn := hM.2.1
        refine lx_fieldL (i := 1) rfl st119 (.inr rfl) rfl <| lx_ldB (vm) rfl rfl fl49 hbk7 rfl rfl <| lx_move (.int .i64 ((x : Nat) : Int)) rfl rfl <| lx_ix (i := x) rfl eT49 hr_vm rfl rfl (by omega) <| lx_ld (i := x) (j := 0) ((gt hm x).v) rfl rfl fl25 (hr_vm.extS hx0_4) (by omega) rfl rfl <| lx_move (.int .i64 ((z : Nat) : Int)) rfl rfl <| lx_ix (i := z) rfl eT25 (ht_vm.2 x (by omega)) rfl rfl (by omega) <| lx_ld (i := z) (j := 0) (.int .i64 ((mN p.length (pb p) x z : Nat) : Int)) rfl rfl fl3 ((ht_vm.extS hx0_4).2 x (by omega)) (by omega) (by show some (Value.int .i64 (gt (gt rm x) z)) = _; rw [hme]) rfl <| lx_move (.int .i64 ((x : Nat) : Int)) rfl rfl <| lx_move (.int .i64 ((y : Nat) : Int)) rfl rfl <| lx_move (.int .i64 ((z : Nat) : Int)) rfl rfl <| lx_fieldL (i := 0) rfl st119 (.inl rfl) rfl <| lx_ldB (vj) rfl rfl fl49 hbk7 rfl rfl <| lx_move (.int .i64 ((x : Nat) : Int)) rfl rfl <| lx_ix (i := x) rfl eT49 hr_vj rfl rfl (by omega) <| lx_ld (i := x) (j := 0) ((gt hj x).v) rfl rfl fl25 (hr_vj.extS hx0_4) (by omega) rfl rfl <| lx_move (.int .i64 ((z : Nat) : Int)) rfl rfl <| lx_ix (i := z) rfl eT25 (ht_vj.2 x (by omega)) rfl rfl (by omega) <| lx_ld (i := z) (j := 0) (.int .i64 ((jN p.length (pb p) x z : Nat) : Int)) rfl rfl fl3 ((ht_vj.extS hx0_4).2 x (by omega)) (by omega) (by show some (Value.int .i64 (gt (gt rj x) z)) = _; rw [hje]) rfl <| lx_build (.agg #[.int .i64 ((mN p.length (pb p) x z : Nat) : Int), .int .i64 ((x : Nat) : Int), .int .i64 ((y : Nat) : Int), .int .i64 ((z : Nat) : Int), .int .i64 ((jN p.length (pb p) x z : Nat) : Int)]) [(0, .int .i64 ((mN p.length (pb p) x z : Nat) : Int)), (1, .int .i64 ((x : Nat) : Int)), (2, .int .i64 ((y : Nat) : Int)), (3, .int .i64 ((z : Nat) : Int)), (4, .int .i64 ((jN p.length (pb p) x z : Nat) : Int))] rfl rfl (fun w => bld5 Try.underlying48 Try.zeroValue48 Try.sizeOf3 _ _ _ _ _ w) <| lx_stBA (#[.int .i64 ((mN p.length (pb p) x z : Nat) : Int), .int .i64 ((x : Nat) : Int), .int .i64 ((y : Nat) : Int), .int .i64 ((z : Nat) : Int), .int .i64 ((jN p.length (pb p) x z : Nat) : Int)]) rfl rfl Try.sizeOf48 hbk8 rfl rfl rfl rfl (by simp [Value.oneCell']) (fun _ _ _ _ => trivial) fun h3 hbk9 hc1 => ?_
        have hx0_5 := hx0_4.trans (hc1.ext hbb2)
        have hb2 := hc1.blk hbk7 (Ne.symm hne1)
        refine lx_nil <| wi_seq <| wi_reg rfl <| lx_ldBA rfl rfl wd119 hb2 rfl rfl <| lx_move (vp) rfl rfl <| lx_ldBA rfl rfl wd48 hbk9 rfl rfl <| lx_call [.agg #[vj, vm], vp, .agg #[.int .i64 ((mN p.length (pb p) x z : Nat) : Int), .int .i64 ((x : Nat) : Int), .int .i64 ((y : Nat) : Int), .int .i64 ((z : Nat) : Int), .int .i64 ((jN p.length (pb p) x z : Nat) : Int)]] rfl rfl Try.call99 rfl (isBad_spec h3 vp hs p (mN p.length (pb p) x z) x y z (jN p.length (pb p) x z) vj hj rj vm hm rm (hr_vj.extS hx0_5) (ht_vj.extS hx0_5) (hr_vm.extS hx0_5) (ht_vm.extS hx0_5) (hr_vp.extS hx0_5) (ht_vp.extS hx0_5) (by omega) (by first | with_reducible assumption | omega) (by first | with_reducible assumption | omega) (by omega) (by omega) (by omega) (by omega) (by omega) (by omega) (by omega) (by omega)) (fun _ _ _ => trivial) ?_
        rintro _ h4 ⟨rfl, hx3⟩
        have hx0_6 := hx0_5.trans2 hx3 hx0_5.size
        have hb3 := hb2.extS hx3
        have hb4 := hbk9.extS hx3
        refine lx_assign (.bool (decide (badP p.length (pb p) (mN p.length (pb p) x z) x y z (jN p.length (pb p) x z)))) rfl rfl <| lx_nil <| wi_seq <| wi_reg rfl <| lx_move (.bool (decide (badP p.length (pb p) (mN p.length (pb p) x z) x y z (jN p.length (pb p) x z)))) rfl rfl <| lx_nil <| wi_condS (t := decide (badP p.length (pb p) (mN p.length (pb p) x z) x y z (jN p.length (pb p) x z))) rfl (fun c4 => ?_) (fun c4 => ?_)
        · refine wi_exit rfl <| wi_seq <| wi_seq <| wi_reg rfl <| lx_move (.bool (decide (badP p.length (pb p) (mN p.length (pb p) x z) x y z (jN p.length (pb p) x z)))) rfl rfl <| lx_not rfl rfl <| lx_nil <| wi_condS (t := !(decide (badP p.length (pb p) (mN p.length (pb p) x z) x y z (jN p.length (pb p) x z)))) rfl (fun c5 => ?_) (fun c5 => ?_)
          · refine wi_seq <| wi_reg rfl <| lx_build (.agg #[.int .i64 0, .int .i64 0, .int .i64 0, .int .i64 0, .int .i64 0]) [] rfl rfl (fun w => bld5z Try.underlying48 Try.zeroValue48 Try.sizeOf3 w) <| lx_stBA (#[.int .i64 0, .int .i64 0, .int .i64 0, .int .i64 0, .int .i64 0]) rfl rfl Try.sizeOf48 hb4 rfl rfl rfl rfl (by simp [Value.oneCell']) (fun _ _ _ _ => trivial) fun h5 hbk10 hc2 => ?_
            have hx0_7 := hx0_6.trans (hc2.ext hbb2)
            have hb5 := hc2.blk hb3 (Ne.symm hne1)
            refine lx_assign (.bool false) rfl rfl <| lx_nil <| ?_
            -- R1
            refine wi_ret ⟨.tuple #[.agg #[.int .i64 0, .int .i64 0, .int .i64 0, .int .i64 0, .int .i64 0], .bool false], (res_cell2 rfl rfl hbk10 wd48 rfl rfl), ⟨0, 0, 0, 0, 0, false, ?_, ?_, hx0_7⟩⟩
            · first | rfl | (simp; done) | (simp; omega)
            · exact absurd c4 (by simpa using c5)
          · refine wi_skip <| wi_seq <| wi_reg rfl <| lx_ldBA rfl rfl wd48 hb4 rfl rfl <| lx_stBA (#[.int .i64 ((mN p.length (pb p) x z : Nat) : Int), .int .i64 ((x : Nat) : Int), .int .i64 ((y : Nat) : Int), .int .i64 ((z : Nat) : Int), .int .i64 ((jN p.length (pb p) x z : Nat) : Int)]) rfl rfl Try.sizeOf48 hb4 rfl rfl rfl rfl (by simp [Value.oneCell']) (fun _ _ _ _ => trivial) fun h6 hbk11 hc3 => ?_
            have hx0_8 := hx0_6.trans (hc3.ext hbb2)
            have hb6 := hc3.blk hb3 (Ne.symm hne1)
            refine lx_assign (.bool true) rfl rfl <| lx_nil <| ?_
            -- R2
            refine wi_ret ⟨.tuple #[.agg #[.int .i64 ((mN p.length (pb p) x z : Nat) : Int), .int .i64 ((x : Nat) : Int), .int .i64 ((y : Nat) : Int), .int .i64 ((z : Nat) : Int), .int .i64 ((jN p.length (pb p) x z : Nat) : Int)], .bool true], (res_cell2 rfl rfl hbk11 wd48 rfl rfl), ⟨mN p.length (pb p) x z, x, y, z, jN p.length (pb p) x z, true, ?_, ?_, hx0_8⟩⟩
            · first | rfl | (simp; done) | (simp; omega)
            · exact .inl ⟨rfl, of_decide_eq_true c4, by omega, by omega, by omega, by omega, by omega⟩
        · refine wi_skip <| wi_inBlock <| wi_reg rfl <| lx_add (((z + 1 : Nat) : Int)) rfl rfl rfl (by omega) (by omega) (by omega) <| lx_move (.int .i64 ((z + 1 : Nat) : Int)) rfl rfl <| lx_nil <| ?_
          -- L4.1
          refine IH3 _ _ (z + 1, mN p.length (pb p) x z, x, y, z, jN p.length (pb p) x z, decide (badP p.length (pb p) (mN p.length (pb p) x z) x y z (jN p.length (pb p) x z))) (agree_ups rfl agree_self) ⟨rfl, rfl, trivial⟩ ⟨?_, ?_, hx0_6, ?_, ?_, ?_⟩ ?_
          · exact hb3
          · exact hb4
          · try dsimp only
            omega
          · try dsimp only
            exact c4
          · try dsimp only
            intro s hs9
            by_cases e : s = z
            · subst e; exact of_decide_eq_false c4
            · exact hc s (by omega)
          · first | omega | (dsimp only; omega)
      · refine lx_nil <| wi_seq <| wi_false rfl <| wi_exit rfl <| wi_inBlock <| wi_reg rfl <| lx_add (((y + 1 : Nat) : Int)) rfl rfl rfl (by omega) (by omega) (by omega) <| lx_move (.int .i64 ((y + 1 : Nat) : Int)) rfl rfl <| lx_nil <| ?_
        -- L2.1
        refine IH2 _ _ (y + 1, vo, va, vb, vc, vi, bb) (agree_ups rfl (agree_mix (rngB_sub (by decide) (by decide) rfl) (agree_ups rfl agree_self))) ⟨rfl, rfl, trivial⟩ ⟨?_, ?_, hx0_4, ?_, ?_, ?_⟩ ?_
        · exact hbk7
        · exact hbk8
        · try dsimp only
          omega
        · try dsimp only
          exact hbb
        · try dsimp only
          intro r s hr hs9
          by_cases e : r = y
          · subst e; exact hc s (by omega)
          · exact hb r s (by omega) hs9
        · first | omega | (dsimp only; omega)
    · refine lx_nil <| wi_seq <| wi_false rfl <| wi_exit rfl <| wi_inBlock <| wi_reg rfl <| lx_add (((x + 1 : Nat) : Int)) rfl rfl rfl (by omega) (by omega) (by omega) <| lx_move (.int .i64 ((x + 1 : Nat) : Int)) rfl rfl <| lx_nil <| ?_
      -- L0.1
      refine IH1 _ _ (x + 1, vo, va, vb, vc, vi, bb) (agree_ups rfl (agree_mix (rngB_sub (by decide) (by decide) rfl) (agree_ups rfl agree_self))) ⟨rfl, rfl, trivial⟩ ⟨?_, ?_, hx0_3, ?_, ?_, ?_⟩ ?_
      · exact hbk5
      · exact hbk6
      · try dsimp only
        omega
      · try dsimp only
        exact hbb
      · try dsimp only
        intro q r s hq hr hs9
        by_cases e : q = x
        · subst e; exact hb r s (by omega) hs9
        · exact ha q r s (by omega) hr hs9
      · first | omega | (dsimp only; omega)
  · refine lx_nil <| wi_seq <| wi_false rfl <| wi_exit rfl <| wi_seq <| wi_seq <| wi_reg rfl <| lx_move (.bool bb) rfl rfl <| lx_not rfl rfl <| lx_nil <| wi_condS (t := !bb) rfl (fun c6 => ?_) (fun c6 => ?_)
    · refine wi_seq <| wi_reg rfl <| lx_build (.agg #[.int .i64 0, .int .i64 0, .int .i64 0, .int .i64 0, .int .i64 0]) [] rfl rfl (fun w => bld5z Try.underlying48 Try.zeroValue48 Try.sizeOf3 w) <| lx_stBA (#[.int .i64 0, .int .i64 0, .int .i64 0, .int .i64 0, .int .i64 0]) rfl rfl Try.sizeOf48 hbk4 rfl rfl rfl rfl (by simp [Value.oneCell']) (fun _ _ _ _ => trivial) fun h7 hbk12 hc4 => ?_
      have hx0_9 := hx0_2.trans (hc4.ext hbb2)
      have hb7 := hc4.blk hbk3 (Ne.symm hne1)
      refine lx_assign (.bool false) rfl rfl <| lx_nil <| ?_
      -- R3
      refine wi_ret ⟨.tuple #[.agg #[.int .i64 0, .int .i64 0, .int .i64 0, .int .i64 0, .int .i64 0], .bool false], (res_cell2 rfl rfl hbk12 wd48 rfl rfl), ⟨0, 0, 0, 0, 0, false, ?_, ?_, hx0_9⟩⟩
      · first | rfl | (simp; done) | (simp; omega)
      · exact .inr ⟨rfl, ⟨rfl, rfl, rfl, rfl, rfl⟩, fun q r s hq hr hs9 => ha q r s (by omega) hr hs9⟩
    · refine wi_skip <| wi_seq <| wi_reg rfl <| lx_ldBA rfl rfl wd48 hbk4 rfl rfl <| lx_stBA (#[.int .i64 ((vo : Nat) : Int), .int .i64 ((va : Nat) : Int), .int .i64 ((vb : Nat) : Int), .int .i64 ((vc : Nat) : Int), .int .i64 ((vi : Nat) : Int)]) rfl rfl Try.sizeOf48 hbk4 rfl rfl rfl rfl (by simp [Value.oneCell']) (fun _ _ _ _ => trivial) fun h8 hbk13 hc5 => ?_
      have hx0_10 := hx0_2.trans (hc5.ext hbb2)
      have hb8 := hc5.blk hbk3 (Ne.symm hne1)
      refine lx_assign (.bool true) rfl rfl <| lx_nil <| ?_
      -- R4
      refine wi_ret ⟨.tuple #[.agg #[.int .i64 ((vo : Nat) : Int), .int .i64 ((va : Nat) : Int), .int .i64 ((vb : Nat) : Int), .int .i64 ((vc : Nat) : Int), .int .i64 ((vi : Nat) : Int)], .bool true], (res_cell2 rfl rfl hbk13 wd48 rfl rfl), ⟨vo, va, vb, vc, vi, true, rfl, ?_, hx0_10⟩⟩
      · rw [hbb] at c6; cases c6

set_option maxRecDepth 10000 in
theorem obad_spec (h : Heap) (vp : Value) (hs : List Hdr) (p : List (List Bool)) (hr_vp : RdE encHd h vp hs) (ht_vp : RT encB h hs p) (hp1 : p.length ≤ 1000000) (hp2 : ∀ i, i < p.length → (gt p i).length ≤ 1000000) : Fx Try.prog 33 [vp] h (fun v h' => ∃ (o : Nat) (a : Nat) (b : Nat) (c : Nat) (i : Nat) (bb : Bool), v = .tuple #[.agg #[.int .i64 ((o : Nat) : Int), .int .i64 ((a : Nat) : Int), .int .i64 ((b : Nat) : Int), .int .i64 ((c : Nat) : Int), .int .i64 ((i : Nat) : Int)], .bool bb, .int .i64 (opnC p)] ∧ ((opnC p ≠ 0 ∧ (o = 0 ∧ a = 0 ∧ b = 0 ∧ c = 0 ∧ i = 0) ∧ bb = false) ∨ (opnC p = 0 ∧ badR p.length (pb p) o a b c i bb)) ∧ Ext h.size h h') := by
  have hl_vp := ht_vp.1
  refine fx_intro (n := 26) [(0, vp)] Try.func33 rfl rfl (by simp) ⟨rfl, trivial⟩ fun g0 => ?_
  refine wi_seq <| wi_reg rfl <| lx_alloc rfl rfl Try.zeroValue48 (fun _ _ _ => trivial) fun bn1 h1 hbn1 hbk1 hx1 hsz1 => ?_
  have hbb1 : h.size ≤ bn1 := by have := (Nat.le_refl h.size); omega
  have hbk1 : Blk h1 bn1 #[.int .i64 0, .int .i64 0, .int .i64 0, .int .i64 0, .int .i64 0] 48 := hbk1
  refine lx_assign (.bool false) rfl rfl <| lx_assign (.int .i64 0) rfl rfl <| lx_nil <| wi_seq <| wi_reg rfl <| lx_move (vp) rfl rfl <| lx_call [vp] rfl rfl Try.call92 rfl (open_spec h1 vp hs p (hr_vp.extS hx1) (ht_vp.extS hx1) (by omega) (by first | with_reducible assumption | omega)) (fun _ _ _ => trivial) ?_
  rintro _ h2 ⟨vj, vm, hj, hm, rj, rm, rfl, ho1, hot1, ho2, hot2, hop, hx2⟩
  have hx0_1 := hx1.trans2 hx2 hx1.size
  have hb1 := hbk1.extS hx2
  have ho3 := ho1.base hx1.size
  have hot3 := hot1.base hx1.size
  have hl_hot3 := hot3.1
  have ho4 := ho2.base hx1.size
  have hot4 := hot2.base hx1.size
  have hl_hot4 := hot4.1
  refine lx_move (.tuple #[.agg #[vj, vm], .int .i64 (opnC p)]) rfl rfl <| lx_extract (.agg #[vj, vm]) rfl rfl rfl <| lx_extract (.int .i64 (opnC p)) rfl rfl rfl <| lx_alloc rfl rfl Try.zeroValue119 (fun _ _ _ => trivial) fun bn2 h3 hbn2 hbk2 hx3 hsz2 => ?_
  have hbb2 : h.size ≤ bn2 := by have := hx0_1.size; omega
  have hne1 : bn2 ≠ bn1 := by have := hb1.lt; omega
  have hdj1 : Value.ownBlock vj ≠ some bn2 := by intro e; have := (ho3.lt e).2; omega
  have hnb1 : Nbt hj bn2 := nbt_new hot3 (by omega)
  have hdj2 : Value.ownBlock vm ≠ some bn2 := by intro e; have := (ho4.lt e).2; omega
  have hnb2 : Nbt hm bn2 := nbt_new hot4 (by omega)
  have hx0_2 := hx0_1.trans2 hx3 hx0_1.size
  have ho5 := ho3.extS hx3
  have hot5 := hot3.extS hx3
  have ho6 := ho4.extS hx3
  have hot6 := hot4.extS hx3
  have hb2 := hb1.extS hx3
  have hbk2 : Blk h3 bn2 #[.slice none 0 0, .slice none 0 0] 119 := hbk2
  refine lx_stBA (#[vj, vm]) rfl rfl Try.sizeOf119 hbk2 rfl rfl rfl rfl (one2 (sl_one ho5.rd) (sl_one ho6.rd)) (fun _ _ _ _ => trivial) fun h4 hbk3 hc1 => ?_
  have hx0_3 := hx0_2.trans (hc1.ext hbb2)
  have ho7 := hc1.owE ho5 hdj1
  have hot7 := hot5.chgB hc1 hnb1
  have ho8 := hc1.owE ho6 hdj2
  have hot8 := hot6.chgB hc1 hnb2
  have hb3 := hc1.blk hb2 (Ne.symm hne1)
  refine lx_assign (.int .i64 (opnC p)) rfl rfl <| lx_nil <| wi_seq <| wi_seq <| wi_reg rfl <| lx_move (.int .i64 (opnC p)) rfl rfl <| lx_neqS rfl rfl rfl (fun c1 => ?_) (fun c1 => ?_)
  · refine lx_nil <| wi_true rfl <| wi_seq <| wi_reg rfl <| lx_build (.agg #[.int .i64 0, .int .i64 0, .int .i64 0, .int .i64 0, .int .i64 0]) [] rfl rfl (fun w => bld5z Try.underlying48 Try.zeroValue48 Try.sizeOf3 w) <| lx_move (.int .i64 (opnC p)) rfl rfl <| lx_stBA (#[.int .i64 0, .int .i64 0, .int .i64 0, .int .i64 0, .int .i64 0]) rfl rfl Try.sizeOf48 hb3 rfl rfl rfl rfl (by simp [Value.oneCell']) (fun _ _ _ _ => trivial) fun h5 hbk4 hc2 => ?_
    have hx0_4 := hx0_3.trans (hc2.ext hbb1)
    have ho9 := hc2.owE ho7 (nb_new hbk1 ho1)
    have hot9 := hot7.chgB hc2 (nbt_ty hot7 hb3 (by decide))
    have ho10 := hc2.owE ho8 (nb_new hbk1 ho2)
    have hot10 := hot8.chgB hc2 (nbt_ty hot8 hb3 (by decide))
    have hb4 := hc2.blk hbk3 hne1
    refine lx_assign (.bool false) rfl rfl <| lx_assign (.int .i64 (opnC p)) rfl rfl <| lx_nil <| ?_
    -- R1
    refine wi_ret ⟨.tuple #[.agg #[.int .i64 0, .int .i64 0, .int .i64 0, .int .i64 0, .int .i64 0], .bool false, .int .i64 (opnC p)], (res_cell3 rfl rfl hbk4 wd48 rfl rfl rfl), ⟨0, 0, 0, 0, 0, false, ?_, ?_, hx0_4⟩⟩
    · first | rfl | (simp; done) | (simp; omega)
    · exact .inl ⟨by omega, ⟨rfl, rfl, rfl, rfl, rfl⟩, rfl⟩
  · refine lx_nil <| wi_false rfl <| wi_skip <| wi_seq <| wi_reg rfl <| ?_
    have hz := opnC_zero (p := p) (by omega)
    have hok := chkT_ok (p := p) hz.1
    have hp12 : p.length ≤ 12 := hok.2.1
    have hpq : Sq p p.length := isT_sq hok.2.2
    have hio := isT_o hok.2.2
    have hng : noGap p.length (pb p) := ngB_iff.1 hz.2
    obtain ⟨hrj, hrm⟩ : rj = tabI p.length (joinF p.length (pb p)) ∧ rm = tabI p.length (meetF p.length (pb p)) := opnP_ok hop (by omega)
    refine lx_ldBA rfl rfl wd119 hbk3 rfl rfl <| lx_move (vp) rfl rfl <| lx_call [.agg #[vj, vm], vp] rfl rfl Try.call94 rfl (bad_spec h4 vp hs p vj hj rj vm hm rm ho7.rd hot7.rt ho8.rd hot8.rt (hr_vp.extS hx0_3) (ht_vp.extS hx0_3) (by omega) (by first | with_reducible assumption | omega) hio hng hrj hrm) (fun _ _ _ => trivial) ?_
    rintro _ h6 ⟨xo, xa, xb, xc, xi, xbb, rfl, hxb, hx4⟩
    have hx0_5 := hx0_3.trans2 hx4 hx0_3.size
    have ho11 := ho7.extS hx4
    have hot11 := hot7.extS hx4
    have ho12 := ho8.extS hx4
    have hot12 := hot8.extS hx4
    have hb5 := hb3.extS hx4
    have hb6 := hbk3.extS hx4
    refine lx_move (.tuple #[.agg #[.int .i64 ((xo : Nat) : Int), .int .i64 ((xa : Nat) : Int), .int .i64 ((xb : Nat) : Int), .int .i64 ((xc : Nat) : Int), .int .i64 ((xi : Nat) : Int)], .bool xbb]) rfl rfl <| lx_extract (.agg #[.int .i64 ((xo : Nat) : Int), .int .i64 ((xa : Nat) : Int), .int .i64 ((xb : Nat) : Int), .int .i64 ((xc : Nat) : Int), .int .i64 ((xi : Nat) : Int)]) rfl rfl rfl <| lx_extract (.bool xbb) rfl rfl rfl <| lx_alloc rfl rfl Try.zeroValue48 (fun _ _ _ => trivial) fun bn3 h7 hbn3 hbk5 hx5 hsz3 => ?_
    have hbb3 : h.size ≤ bn3 := by have := hx0_5.size; omega
    have hne2 : bn3 ≠ bn1 := by have := hb5.lt; omega
    have hne3 : bn3 ≠ bn2 := by have := hb6.lt; omega
    have hdj3 : Value.ownBlock vj ≠ some bn3 := by intro e; have := (ho11.lt e).2; omega
    have hnb3 : Nbt hj bn3 := nbt_new hot11 (by omega)
    have hdj4 : Value.ownBlock vm ≠ some bn3 := by intro e; have := (ho12.lt e).2; omega
    have hnb4 : Nbt hm bn3 := nbt_new hot12 (by omega)
    have hx0_6 := hx0_5.trans2 hx5 hx0_5.size
    have ho13 := ho11.extS hx5
    have hot13 := hot11.extS hx5
    have ho14 := ho12.extS hx5
    have hot14 := hot12.extS hx5
    have hb7 := hb5.extS hx5
    have hb8 := hb6.extS hx5
    have hbk5 : Blk h7 bn3 #[.int .i64 0, .int .i64 0, .int .i64 0, .int .i64 0, .int .i64 0] 48 := hbk5
    refine lx_stBA (#[.int .i64 ((xo : Nat) : Int), .int .i64 ((xa : Nat) : Int), .int .i64 ((xb : Nat) : Int), .int .i64 ((xc : Nat) : Int), .int .i64 ((xi : Nat) : Int)]) rfl rfl Try.sizeOf48 hbk5 rfl rfl rfl rfl (by simp [Value.oneCell']) (fun _ _ _ _ => trivial) fun h8 hbk6 hc3 => ?_
    have hx0_7 := hx0_6.trans (hc3.ext hbb3)
    have ho15 := hc3.owE ho13 hdj3
    have hot15 := hot13.chgB hc3 hnb3
    have ho16 := hc3.owE ho14 hdj4
    have hot16 := hot14.chgB hc3 hnb4
    have hb9 := hc3.blk hb7 (Ne.symm hne2)
    have hb10 := hc3.blk hb8 (Ne.symm hne3)
    refine lx_assign (.bool xbb) rfl rfl <| lx_nil <| wi_seq <| wi_reg rfl <| lx_ldBA rfl rfl wd48 hbk6 rfl rfl <| lx_move (.bool xbb) rfl rfl <| lx_stBA (#[.int .i64 ((xo : Nat) : Int), .int .i64 ((xa : Nat) : Int), .int .i64 ((xb : Nat) : Int), .int .i64 ((xc : Nat) : Int), .int .i64 ((xi : Nat) : Int)]) rfl rfl Try.sizeOf48 hb9 rfl rfl rfl rfl (by simp [Value.oneCell']) (fun _ _ _ _ => trivial) fun h9 hbk7 hc4 => ?_
    have hx0_8 := hx0_7.trans (hc4.ext hbb1)
    have ho17 := hc4.owE ho15 (nb_new hbk1 ho1)
    have hot17 := hot15.chgB hc4 (nbt_ty hot15 hb9 (by decide))
    have ho18 := hc4.owE ho16 (nb_new hbk1 ho2)
    have hot18 := hot16.chgB hc4 (nbt_ty hot16 hb9 (by decide))
    have hb11 := hc4.blk hb10 hne1
    have hb12 := hc4.blk hbk6 hne2
    refine lx_assign (.bool xbb) rfl rfl <| lx_assign (.int .i64 0) rfl rfl <| lx_nil <| ?_
    -- R2
    refine wi_ret ⟨.tuple #[.agg #[.int .i64 ((xo : Nat) : Int), .int .i64 ((xa : Nat) : Int), .int .i64 ((xb : Nat) : Int), .int .i64 ((xc : Nat) : Int), .int .i64 ((xi : Nat) : Int)], .bool xbb, .int .i64 0], (res_cell3 rfl rfl hbk7 wd48 rfl rfl rfl), ⟨xo, xa, xb, xc, xi, xbb, ?_, ?_, hx0_8⟩⟩
    · rw [show opnC p = 0 from by omega]
    · exact .inr ⟨by omega, hxb⟩

abbrev inR (n : Nat) (x : Int) : Prop := 0 ≤ x ∧ x < n
theorem min5 {a b c d e : Int} (h : 0 ≤ Lib.minOf [a, b, c, d, e]) : 0 ≤ a ∧ 0 ≤ b ∧ 0 ≤ c ∧ 0 ≤ d ∧ 0 ≤ e := by
  have h1 : Lib.minOf [a, b, c, d, e] = min (min (min (min (min a a) b) c) d) e := rfl
  rw [h1] at h
  omega
theorem max5 {a b c d e n : Int} (h : Lib.maxOf [a, b, c, d, e] < n) : a < n ∧ b < n ∧ c < n ∧ d < n ∧ e < n := by
  have h1 : Lib.maxOf [a, b, c, d, e] = max (max (max (max (max a a) b) c) d) e := rfl
  rw [h1] at h
  omega
theorem min5' {a b c d e : Int} (h : ¬ 0 ≤ Lib.minOf [a, b, c, d, e]) : ¬ (0 ≤ a ∧ 0 ≤ b ∧ 0 ≤ c ∧ 0 ≤ d ∧ 0 ≤ e) := by
  have h1 : Lib.minOf [a, b, c, d, e] = min (min (min (min (min a a) b) c) d) e := rfl
  rw [h1] at h
  omega
theorem max5' {a b c d e n : Int} (h : ¬ Lib.maxOf [a, b, c, d, e] < n) : ¬ (a < n ∧ b < n ∧ c < n ∧ d < n ∧ e < n) := by
  have h1 : Lib.maxOf [a, b, c, d, e] = max (max (max (max (max a a) b) c) d) e := rfl
  rw [h1] at h
  omega
/-- Whether an order is a lattice and these are a bad five. -/
abbrev badZ (p : List (List Bool)) (o a b c i : Int) : Prop := opnC p = 0 ∧ (inR p.length o ∧ inR p.length a ∧ inR p.length b ∧ inR p.length c ∧ inR p.length i) ∧ badP p.length (pb p) o.toNat a.toNat b.toNat c.toNat i.toNat
set_option maxRecDepth 10000 in
theorem oisBad_spec (h : Heap) (vp : Value) (hs : List Hdr) (p : List (List Bool)) (o : Int) (a : Int) (b : Int) (c : Int) (i : Int) (hr_vp : RdE encHd h vp hs) (ht_vp : RT encB h hs p) (hp1 : p.length ≤ 1000000) (hp2 : ∀ i, i < p.length → (gt p i).length ≤ 1000000) : Fx Try.prog 36 [vp, .agg #[.int .i64 o, .int .i64 a, .int .i64 b, .int .i64 c, .int .i64 i]] h (fun v h' => v = .bool (decide (badZ p o a b c i)) ∧ Ext h.size h h') := by
  have hl_vp := ht_vp.1
  refine fx_intro (n := 32) [(0, vp), (1, .agg #[.int .i64 o, .int .i64 a, .int .i64 b, .int .i64 c, .int .i64 i])] Try.func36 rfl rfl (by simp) ⟨rfl, rfl, trivial⟩ fun g0 => ?_
  refine wi_seq <| wi_reg rfl <| lx_box #[.int .i64 o, .int .i64 a, .int .i64 b, .int .i64 c, .int .i64 i] rfl rfl rfl (fun _ _ _ => trivial) fun bn1 h1 hbn1 hbk1 hx1 hsz1 => ?_
  have hbb1 : h.size ≤ bn1 := by have := (Nat.le_refl h.size); omega
  refine lx_assign (.bool false) rfl rfl <| lx_nil <| wi_seq <| wi_reg rfl <| lx_move (vp) rfl rfl <| lx_call [vp] rfl rfl Try.call92 rfl (open_spec h1 vp hs p (hr_vp.extS hx1) (ht_vp.extS hx1) (by omega) (by first | with_reducible assumption | omega)) (fun _ _ _ => trivial) ?_
  rintro _ h2 ⟨vj, vm, hj, hm, rj, rm, rfl, ho1, hot1, ho2, hot2, hop, hx2⟩
  have hx0_1 := hx1.trans2 hx2 hx1.size
  have hb1 := hbk1.extS hx2
  have ho3 := ho1.base hx1.size
  have hot3 := hot1.base hx1.size
  have hl_hot3 := hot3.1
  have ho4 := ho2.base hx1.size
  have hot4 := hot2.base hx1.size
  have hl_hot4 := hot4.1
  refine lx_move (.tuple #[.agg #[vj, vm], .int .i64 (opnC p)]) rfl rfl <| lx_extract (.agg #[vj, vm]) rfl rfl rfl <| lx_extract (.int .i64 (opnC p)) rfl rfl rfl <| lx_alloc rfl rfl Try.zeroValue119 (fun _ _ _ => trivial) fun bn2 h3 hbn2 hbk2 hx3 hsz2 => ?_
  have hbb2 : h.size ≤ bn2 := by have := hx0_1.size; omega
  have hne1 : bn2 ≠ bn1 := by have := hb1.lt; omega
  have hdj1 : Value.ownBlock vj ≠ some bn2 := by intro e; have := (ho3.lt e).2; omega
  have hnb1 : Nbt hj bn2 := nbt_new hot3 (by omega)
  have hdj2 : Value.ownBlock vm ≠ some bn2 := by intro e; have := (ho4.lt e).2; omega
  have hnb2 : Nbt hm bn2 := nbt_new hot4 (by omega)
  have hx0_2 := hx0_1.trans2 hx3 hx0_1.size
  have ho5 := ho3.extS hx3
  have hot5 := hot3.extS hx3
  have ho6 := ho4.extS hx3
  have hot6 := hot4.extS hx3
  have hb2 := hb1.extS hx3
  have hbk2 : Blk h3 bn2 #[.slice none 0 0, .slice none 0 0] 119 := hbk2
  refine lx_stBA (#[vj, vm]) rfl rfl Try.sizeOf119 hbk2 rfl rfl rfl rfl (one2 (sl_one ho5.rd) (sl_one ho6.rd)) (fun _ _ _ _ => trivial) fun h4 hbk3 hc1 => ?_
  have hx0_3 := hx0_2.trans (hc1.ext hbb2)
  have ho7 := hc1.owE ho5 hdj1
  have hot7 := hot5.chgB hc1 hnb1
  have ho8 := hc1.owE ho6 hdj2
  have hot8 := hot6.chgB hc1 hnb2
  have hb3 := hc1.blk hb2 (Ne.symm hne1)
  refine lx_assign (.int .i64 (opnC p)) rfl rfl <| lx_nil <| wi_seq <| wi_reg rfl <| lx_move (.int .i64 (opnC p)) rfl rfl <| lx_eqlS rfl rfl rfl (fun c1 => ?_) (fun c1 => ?_)
  · refine lx_move (.bool true) rfl rfl <| lx_sliceA rfl Try.underlying48 Try.sizeOf3 rfl <| ?_
    have ho9 : OwE encI h4 h.size 48 (.slice (some ⟨bn1, 0, none⟩) 5 5) ([o, a, b, c, i]) := own_of_blk (xs := [o, a, b, c, i]) hb3 hbb1 (by simp)
    have hr1 := ho9.rd
    refine lx_call [(.slice (some ⟨bn1, 0, none⟩) 5 5)] rfl rfl Try.call97 rfl (lmin_spec h4 ((.slice (some ⟨bn1, 0, none⟩) 5 5)) ([o, a, b, c, i]) hr1 (by simp) (by simp)) (fun _ _ _ => trivial) ?_
    rintro _ h5 ⟨rfl, rfl⟩
    refine lx_geqS rfl rfl rfl (fun c2 => ?_) (fun c2 => ?_)
    · refine lx_pick true (.bool true) rfl rfl rfl <| lx_move (.bool true) rfl rfl <| lx_sliceA rfl Try.underlying48 Try.sizeOf3 rfl <| ?_
      have ho10 : OwE encI h4 h.size 48 (.slice (some ⟨bn1, 0, none⟩) 5 5) ([o, a, b, c, i]) := own_of_blk (xs := [o, a, b, c, i]) hb3 hbb1 (by simp)
      have hr2 := ho10.rd
      refine lx_call [(.slice (some ⟨bn1, 0, none⟩) 5 5)] rfl rfl Try.call98 rfl (lmax_spec h4 ((.slice (some ⟨bn1, 0, none⟩) 5 5)) ([o, a, b, c, i]) hr2 (by simp) (by simp)) (fun _ _ _ => trivial) ?_
      rintro _ h6 ⟨rfl, rfl⟩
      refine lx_move (vp) rfl rfl <| lx_len rfl Try.underlying29 hr_vp rfl <| lx_lssS rfl rfl rfl (fun c3 => ?_) (fun c3 => ?_)
      · refine lx_pick true (.bool true) rfl rfl rfl <| lx_move (.bool true) rfl rfl <| ?_
        have hz := opnC_zero (p := p) (by omega)
        have hok := chkT_ok (p := p) hz.1
        have hp12 : p.length ≤ 12 := hok.2.1
        have hpq : Sq p p.length := isT_sq hok.2.2
        have hio := isT_o hok.2.2
        have hng : noGap p.length (pb p) := ngB_iff.1 hz.2
        obtain ⟨hrj, hrm⟩ : rj = tabI p.length (joinF p.length (pb p)) ∧ rm = tabI p.length (meetF p.length (pb p)) := opnP_ok hop (by omega)
        obtain ⟨hm1, hm2, hm3, hm4, hm5⟩ := min5 (by assumption)
        obtain ⟨hq1, hq2, hq3, hq4, hq5⟩ := max5 (by assumption)
        obtain ⟨on, rfl⟩ : ∃ on : Nat, o = ((on : Nat) : Int) := ⟨o.toNat, by omega⟩
        obtain ⟨an, rfl⟩ : ∃ an : Nat, a = ((an : Nat) : Int) := ⟨a.toNat, by omega⟩
        obtain ⟨bn, rfl⟩ : ∃ bn : Nat, b = ((bn : Nat) : Int) := ⟨b.toNat, by omega⟩
        obtain ⟨cn, rfl⟩ : ∃ cn : Nat, c = ((cn : Nat) : Int) := ⟨c.toNat, by omega⟩
        obtain ⟨xn, rfl⟩ : ∃ xn : Nat, i = ((xn : Nat) : Int) := ⟨i.toNat, by omega⟩
        refine lx_ldBA rfl rfl wd119 hbk3 rfl rfl <| lx_move (vp) rfl rfl <| lx_ldBA rfl rfl wd48 hb3 rfl rfl <| lx_call [.agg #[vj, vm], vp, .agg #[.int .i64 ((on : Nat) : Int), .int .i64 ((an : Nat) : Int), .int .i64 ((bn : Nat) : Int), .int .i64 ((cn : Nat) : Int), .int .i64 ((xn : Nat) : Int)]] rfl rfl Try.call99 rfl (isBad_spec h4 vp hs p on an bn cn xn vj hj rj vm hm rm ho7.rd hot7.rt ho8.rd hot8.rt (hr_vp.extS hx0_3) (ht_vp.extS hx0_3) (by omega) (by first | with_reducible assumption | omega) hio hng hrj hrm (by omega) (by omega) (by omega) (by omega) (by omega)) (fun _ _ _ => trivial) ?_
        rintro _ h7 ⟨rfl, hx4⟩
        have hx0_4 := hx0_3.trans2 hx4 hx0_3.size
        have ho11 := ho7.extS hx4
        have hot9 := hot7.extS hx4
        have ho12 := ho8.extS hx4
        have hot10 := hot8.extS hx4
        have hb4 := hb3.extS hx4
        have hb5 := hbk3.extS hx4
        have hxr1 := (Ext.refl h4.size h4).trans2 hx4 (Ext.refl h4.size h4).size
        refine lx_pick true (.bool (decide (badP p.length (pb p) on an bn cn xn))) rfl rfl rfl <| lx_assign (.bool (decide (badP p.length (pb p) on an bn cn xn))) rfl rfl <| lx_nil <| ?_
        -- R1
        refine wi_ret ⟨.bool (decide (badP p.length (pb p) on an bn cn xn)), (res_one rfl rfl), ⟨?_, hx0_4⟩⟩
        · congr 1
          rw [Bool.eq_iff_iff, decide_eq_true_iff, decide_eq_true_iff]
          exact ⟨fun h => ⟨by omega, ⟨⟨by omega, by omega⟩, ⟨by omega, by omega⟩, ⟨by omega, by omega⟩, ⟨by omega, by omega⟩, ⟨by omega, by omega⟩⟩, h⟩, fun h => h.2.2⟩
      · refine lx_pick true (.bool false) rfl rfl rfl <| lx_move (.bool false) rfl rfl <| ?_
        refine lx_skip rfl <| lx_skip rfl <| lx_skip rfl <| lx_skip rfl <| lx_pick false (.bool false) rfl rfl rfl <| lx_assign (.bool false) rfl rfl <| lx_nil <| ?_
        -- R2
        refine wi_ret ⟨.bool false, (res_one rfl rfl), ⟨?_, hx0_3⟩⟩
        · congr 1; exact (decide_eq_false fun hz => by obtain ⟨_, ⟨⟨_, h1⟩, ⟨_, h2⟩, ⟨_, h3⟩, ⟨_, h4⟩, ⟨_, h5⟩⟩, _⟩ := hz; exact max5' (by rw [← hl_vp]; assumption) ⟨h1, h2, h3, h4, h5⟩).symm
    · refine lx_pick true (.bool false) rfl rfl rfl <| lx_move (.bool false) rfl rfl <| lx_skip rfl <| lx_skip rfl <| lx_skip rfl <| lx_skip rfl <| lx_skip rfl <| lx_pick false (.bool false) rfl rfl rfl <| lx_move (.bool false) rfl rfl <| ?_
      refine lx_skip rfl <| lx_skip rfl <| lx_skip rfl <| lx_skip rfl <| lx_pick false (.bool false) rfl rfl rfl <| lx_assign (.bool false) rfl rfl <| lx_nil <| ?_
      -- R3
      refine wi_ret ⟨.bool false, (res_one rfl rfl), ⟨?_, hx0_3⟩⟩
      · congr 1; exact (decide_eq_false fun hz => by obtain ⟨_, ⟨⟨h1, _⟩, ⟨h2, _⟩, ⟨h3, _⟩, ⟨h4, _⟩, ⟨h5, _⟩⟩, _⟩ := hz; exact min5' (by assumption) ⟨h1, h2, h3, h4, h5⟩).symm
  · refine lx_move (.bool false) rfl rfl <| lx_skip rfl <| lx_skip rfl <| lx_skip rfl <| lx_pick false (.bool false) rfl rfl rfl <| lx_move (.bool false) rfl rfl <| lx_skip rfl <| lx_skip rfl <| lx_skip rfl <| lx_skip rfl <| lx_skip rfl <| lx_pick false (.bool false) rfl rfl rfl <| lx_move (.bool false) rfl rfl <| ?_
    refine lx_skip rfl <| lx_skip rfl <| lx_skip rfl <| lx_skip rfl <| lx_pick false (.bool false) rfl rfl rfl <| lx_assign (.bool false) rfl rfl <| lx_nil <| ?_
    -- R4
    refine wi_ret ⟨.bool false, (res_one rfl rfl), ⟨?_, hx0_3⟩⟩
    · congr 1; exact (decide_eq_false fun hz => absurd hz.1 (by omega)).symm

end Go.Proofs.Ytdokijbdnajhgaa
namespace Go.Proofs.Ytdokijbdnajhgaa
open Go Go.X

set_option maxRecDepth 10000 in
theorem olinear_spec (h : Heap) (vp : Value) (hs : List Hdr) (p : List (List Bool)) (hr_vp : RdE encHd h vp hs) (ht_vp : RT encB h hs p) (hp1 : p.length ≤ 1000000) (hp2 : ∀ i, i < p.length → (gt p i).length ≤ 1000000) : Fx Try.prog 45 [vp] h (fun v h' => v = .tuple #[.int .i64 ((if chkT p = 0 then linN p.length (pb p) (2 ^ p.length - 1) else 0)), .int .i64 (chkT p)] ∧ Ext h.size h h') := by
  have hl_vp := ht_vp.1
  refine fx_intro (n := 64) [(0, vp)] Try.func45 rfl rfl (by simp) ⟨rfl, trivial⟩ fun g0 => ?_
  refine wi_seq <| wi_reg rfl <| lx_assign (.int .i64 0) rfl rfl <| lx_assign (.int .i64 0) rfl rfl <| lx_nil <| wi_seq <| wi_seq <| wi_reg rfl <| lx_move (vp) rfl rfl <| lx_call [vp] rfl rfl Try.call62 rfl (ocheck_spec h vp hs p hr_vp ht_vp (by omega) (by first | with_reducible assumption | omega)) (fun _ _ _ => trivial) ?_
  rintro _ h1 ⟨rfl, hx1⟩
  refine lx_assign (.int .i64 (chkT p)) rfl rfl <| lx_nil <| wi_seq <| wi_reg rfl <| lx_move (.int .i64 (chkT p)) rfl rfl <| lx_neqS rfl rfl rfl (fun c1 => ?_) (fun c1 => ?_)
  · refine lx_nil <| wi_true rfl <| wi_seq <| wi_reg rfl <| lx_move (.int .i64 (chkT p)) rfl rfl <| lx_assign (.int .i64 0) rfl rfl <| lx_assign (.int .i64 (chkT p)) rfl rfl <| lx_nil <| ?_
    -- R1
    refine wi_ret ⟨.tuple #[.int .i64 0, .int .i64 (chkT p)], (res_two rfl rfl rfl), ⟨?_, hx1⟩⟩
    · rw [if_neg (by omega)]
  · refine lx_nil <| wi_false rfl <| wi_skip <| wi_seq <| wi_reg rfl <| ?_
    have hok := chkT_ok (p := p) (by omega)
    have hp12 : p.length ≤ 12 := hok.2.1
    have hpq : Sq p p.length := isT_sq hok.2.2
    have hio := isT_o hok.2.2
    have hpw := pow12 hp12
    have hp0 : 1 ≤ p.length := hok.1
    refine lx_makeMap rfl rfl (fun _ _ _ => trivial) fun l1 h2 hl1 hmp1 hx2 => ?_
    have hbb1 : h.size ≤ l1 := by have := hx1.size; omega
    have hx0_1 := hx1.trans2 hx2 hx1.size
    refine lx_insert ((0 : Int)) (.int .i64 1) rfl rfl Try.underlying129 Try.underlying3 hmp1 rfl rfl rfl (fun _ _ => trivial) fun h3 hmp2 hc1 => ?_
    have hx0_2 := hx0_1.trans (hc1.ext hbb1)
    refine lx_move (.map (some l1)) rfl rfl <| lx_assign (.map (some l1)) rfl rfl <| lx_nil <| wi_seq <| wi_seq <| wi_reg rfl <| ?_
    have hidl : (idealsF p.length (pb p)).length ≤ 2 ^ p.length := filtF_length _ _
    have hF0 : MpF (putM [] 0 (.int .i64 1)) (cntF p.length (pb p) 0) := (mpF_nil.put 0 1).congr fun k => cnt_start _ _ k
    refine lx_move (vp) rfl rfl <| lx_call [vp] rfl rfl Try.call76 rfl (ideals_spec h3 vp hs p (hr_vp.extS hx0_2) (ht_vp.extS hx0_2) (by omega) (by first | with_reducible assumption | omega)) (fun _ _ _ => trivial) ?_
    rintro v1 h4 ⟨_, rfl, ho1, hx3⟩
    have hmp3 := hmp2.extS hx3
    have hx0_3 := hx0_2.trans2 hx3 hx0_2.size
    have ho2 := ho1.base hx0_2.size
    refine lx_len rfl Try.underlying25 ho2.rd rfl <| lx_move (.int .i64 0) rfl rfl <| lx_nil <| wi_block <| ?_
    refine wi_loop (σ := Nat × (List (Int × Value))) (rngB 19 57 [7, 8]) (fun (ss : Nat × (List (Int × Value))) => [(19, .int .i64 ((ss.1 : Nat) : Int))]) (fun (ss : Nat × (List (Int × Value))) (hh : Heap) => MpO hh l1 ss.2 ∧ OwE encI hh h.size 3 v1 ((idealsF p.length (pb p))) ∧ Ext h.size h hh ∧ (ss.1 ≤ (idealsF p.length (pb p)).length) ∧ (MpF ss.2 (cntF p.length (pb p) ss.1))) (fun (ss : Nat × (List (Int × Value))) => (idealsF p.length (pb p)).length - ss.1) (0, putM [] 0 (.int .i64 1)) ⟨rfl, trivial⟩ ⟨?_, ?_, hx0_3, ?_, ?_⟩ ?_
    · exact hmp3
    · first | exact ho2 | (simpa using ho2)
    · try dsimp only
      omega
    · try dsimp only
      exact hF0
    rintro g1 ⟨i, ms⟩ hh1 ⟨hmp4, ho3, hx0_4, hi, hF⟩ IH1
    dsimp only at *
    refine wi_seq <| wi_reg rfl <| lx_lssS rfl rfl rfl (fun c2 => ?_) (fun c2 => ?_)
    · refine lx_nil <| wi_seq <| wi_true rfl <| wi_skip <| wi_seq <| wi_block <| wi_seq <| wi_reg rfl <| ?_
      have hil : i < (idealsF p.length (pb p)).length := by omega
      obtain ⟨s, hgs, hs4, _⟩ := filtF_gt (N := 2 ^ p.length) (f := idlB p.length (pb p)) (i := i) hil
      refine lx_ix (i := i) rfl eT25 ho3.rd rfl rfl (by omega) <| lx_ld (i := i) (j := 0) (.int .i64 ((s : Nat) : Int)) rfl rfl fl3 ho3.rd (by omega) (by show some (Value.int .i64 (gt (idealsF p.length (pb p)) i)) = _; exact congrArg (fun z => some (Value.int .i64 z)) hgs) rfl <| lx_assign (.int .i64 ((s : Nat) : Int)) rfl rfl <| lx_nil <| wi_seq <| wi_reg rfl <| lx_move (vp) rfl rfl <| lx_len rfl Try.underlying29 hr_vp rfl <| lx_move (.int .i64 0) rfl rfl <| lx_nil <| wi_block <| ?_
      refine wi_loop (σ := Nat × (List (Int × Value))) (rngB 25 56 [8]) (fun (ss : Nat × (List (Int × Value))) => [(25, .int .i64 ((ss.1 : Nat) : Int))]) (fun (ss : Nat × (List (Int × Value))) (hh : Heap) => MpO hh l1 ss.2 ∧ OwE encI hh h.size 3 v1 ((idealsF p.length (pb p))) ∧ Ext h.size h hh ∧ (ss.1 ≤ p.length) ∧ (MpF ss.2 (cntG p.length (pb p) i s ss.1))) (fun (ss : Nat × (List (Int × Value))) => p.length - ss.1) (0, ms) ⟨rfl, trivial⟩ ⟨?_, ?_, hx0_4, ?_, ?_⟩ ?_
      · exact hmp4
      · first | exact ho3 | (simpa using ho3)
      · try dsimp only
        omega
      · try dsimp only
        exact hF.congr fun k => cntG_zero hil hgs k
      rintro g2 ⟨x, ms⟩ hh2 ⟨hmp5, ho4, hx0_5, hx, hG⟩ IH2
      dsimp only at *
      refine wi_seq <| wi_reg rfl <| lx_lssS rfl rfl rfl (fun c3 => ?_) (fun c3 => ?_)
      · refine lx_nil <| wi_seq <| wi_true rfl <| wi_skip <| wi_seq <| wi_block <| wi_seq <| wi_reg rfl <| lx_move (.int .i64 ((x : Nat) : Int)) rfl rfl <| lx_assign (.int .i64 ((x : Nat) : Int)) rfl rfl <| lx_nil <| wi_seq <| wi_reg rfl <| ?_
        have hdv := Nat.div_le_self s (2 ^ x)
        have hul := upF_lt p.length (pb p) x
        have hal : upF p.length (pb p) x &&& s ≤ s := Nat.and_le_right
        have hbl : s / 2 ^ x &&& 1 ≤ 1 := Nat.and_le_right
        refine lx_move (.int .i64 ((s : Nat) : Int)) rfl rfl <| lx_move (.int .i64 ((x : Nat) : Int)) rfl rfl <| lx_conv ((x : Nat) : Int) rfl Try.underlying3 Try.underlying45 rfl (wrap_u64 (by omega) (by omega)) <| lx_shr (m := s) (n := x) rfl rfl rfl (by show _ ≤ 64; omega) <| lx_and (m := s / 2 ^ x) (n := 1) rfl rfl rfl (by show _ < 2 ^ 64; omega) (by show _ < 2 ^ 64; omega) (wrap_i64 (by omega) (by omega)) <| lx_eqlS rfl rfl rfl (fun c4 => ?_) (fun c4 => ?_)
        · refine lx_move (.bool true) rfl rfl <| lx_move (vp) rfl rfl <| lx_move (.int .i64 ((x : Nat) : Int)) rfl rfl <| lx_call [vp, .int .i64 ((x : Nat) : Int)] rfl rfl Try.call80 rfl (up_spec hh2 vp hs p x (hr_vp.extS hx0_5) (ht_vp.extS hx0_5) (by omega) (by first | with_reducible assumption | omega) (by omega)) (fun _ _ _ => trivial) ?_
          rintro _ h5 ⟨rfl, rfl⟩
          refine lx_move (.int .i64 ((s : Nat) : Int)) rfl rfl <| lx_and (m := upF p.length (pb p) x) (n := s) rfl rfl rfl (by show _ < 2 ^ 64; omega) (by show _ < 2 ^ 64; omega) (wrap_i64 (by omega) (by omega)) <| lx_conv (((upF p.length (pb p) x) &&& s : Nat) : Int) rfl Try.underlying3 Try.underlying45 rfl (wrap_u64 (by omega) (by omega)) <| lx_call [.int .u64 (((upF p.length (pb p) x) &&& s : Nat) : Int)] rfl rfl Try.call104 rfl (ones_spec hh2 ((upF p.length (pb p) x) &&& s) (by omega)) (fun _ _ _ => trivial) ?_
          rintro _ h6 ⟨rfl, rfl⟩
          refine lx_eqlS rfl rfl rfl (fun c5 => ?_) (fun c5 => ?_)
          · refine lx_pick true (.bool true) rfl rfl rfl <| lx_nil <| wi_true rfl <| wi_reg rfl <| ?_
            have hlast : lastB p.length (pb p) s x = true := by
              unfold lastB; rw [bit_nz (by omega), decide_eq_true (by omega)]; rfl
            have hb1 := linS_bound (n := p.length) (f := pb p) (s := s) hp12 (x := x) (by omega)
            have hb2 := linN_bound (n := p.length) (f := pb p) (s := andNot s (2 ^ x)) hp12
            have hal2 := andNot_le s (1 * 2 ^ x)
            have hpx : 2 ^ x ≤ 4096 := pow12 (by omega)
            refine lx_move (.map (some l1)) rfl rfl <| lx_move (.int .i64 ((s : Nat) : Int)) rfl rfl <| lx_lookupF (((s : Nat) : Int)) (linS p.length (pb p) s x) rfl rfl Try.underlying129 Try.underlying3 Try.zeroValue2 hmp5 hG (cntG_self (last_nz hlast)) rfl rfl <| lx_move (.map (some l1)) rfl rfl <| lx_move (.int .i64 ((s : Nat) : Int)) rfl rfl <| lx_move (.int .i64 ((x : Nat) : Int)) rfl rfl <| lx_conv ((x : Nat) : Int) rfl Try.underlying3 Try.underlying45 rfl (wrap_u64 (by omega) (by omega)) <| lx_shl (m := 1) (n := x) rfl rfl rfl (by show _ ≤ 64; omega) (wrap_i64 (by omega) (by omega)) <| lx_andNot (m := s) (n := 1 * 2 ^ x) rfl rfl rfl (by show _ < 2 ^ 64; omega) (by show _ < 2 ^ 64; omega) (wrap_i64 (by omega) (by omega)) <| lx_lookupF (((andNot s (1 * 2 ^ x) : Nat) : Int)) (linN p.length (pb p) (andNot s (2 ^ x))) rfl rfl Try.underlying129 Try.underlying3 Try.zeroValue2 hmp5 hG (by rw [Nat.one_mul]; exact cntG_off hio hp12 hil hgs hlast) rfl rfl <| lx_add ((linS p.length (pb p) s x) + (linN p.length (pb p) (andNot s (2 ^ x)))) rfl rfl rfl (by omega) (by omega) (by omega) <| lx_mapUpdate (((s : Nat) : Int)) (.int .i64 ((linS p.length (pb p) s x) + (linN p.length (pb p) (andNot s (2 ^ x))))) rfl rfl Try.underlying129 Try.underlying3 hmp5 rfl rfl rfl (fun _ _ => trivial) fun h7 hmp6 hc2 => ?_
            have hx0_6 := hx0_5.trans (hc2.ext hbb1)
            have ho5 := hc2.owE ho4 (nb_map ho4 hmp5)
            refine lx_nil <| wi_inBlock <| wi_reg rfl <| lx_add (((x + 1 : Nat) : Int)) rfl rfl rfl (by omega) (by omega) (by omega) <| lx_move (.int .i64 ((x + 1 : Nat) : Int)) rfl rfl <| lx_nil <| ?_
            -- L2.1
            refine IH2 _ _ (x + 1, putM ms (((s : Nat) : Int)) (.int .i64 ((linS p.length (pb p) s x) + (linN p.length (pb p) (andNot s (2 ^ x)))))) (agree_ups rfl agree_self) ⟨rfl, trivial⟩ ⟨?_, ?_, hx0_6, ?_, ?_⟩ ?_
            · exact hmp6
            · first | exact ho5 | (simpa using ho5)
            · try dsimp only
              omega
            · try dsimp only
              exact (hG.put _ _).congr fun k => cntG_yes hlast k
            · first | omega | (dsimp only; omega)
          · refine lx_pick true (.bool false) rfl rfl rfl <| lx_nil <| wi_false rfl <| wi_skip <| wi_inBlock <| wi_reg rfl <| lx_add (((x + 1 : Nat) : Int)) rfl rfl rfl (by omega) (by omega) (by omega) <| lx_move (.int .i64 ((x + 1 : Nat) : Int)) rfl rfl <| lx_nil <| ?_
            -- L2.2
            refine IH2 _ _ (x + 1, ms) (agree_ups rfl agree_self) ⟨rfl, trivial⟩ ⟨?_, ?_, hx0_5, ?_, ?_⟩ ?_
            · exact hmp5
            · first | exact ho4 | (simpa using ho4)
            · try dsimp only
              omega
            · try dsimp only
              exact hG.congr fun k => cntG_no (by unfold lastB; rw [decide_eq_false (by omega), Bool.and_false]) k
            · first | omega | (dsimp only; omega)
        · refine lx_move (.bool false) rfl rfl <| lx_skip rfl <| lx_skip rfl <| lx_skip rfl <| lx_skip rfl <| lx_skip rfl <| lx_skip rfl <| lx_skip rfl <| lx_skip rfl <| lx_pick false (.bool false) rfl rfl rfl <| lx_nil <| wi_false rfl <| wi_skip <| wi_inBlock <| wi_reg rfl <| lx_add (((x + 1 : Nat) : Int)) rfl rfl rfl (by omega) (by omega) (by omega) <| lx_move (.int .i64 ((x + 1 : Nat) : Int)) rfl rfl <| lx_nil <| ?_
          -- L2.3
          refine IH2 _ _ (x + 1, ms) (agree_ups rfl agree_self) ⟨rfl, trivial⟩ ⟨?_, ?_, hx0_5, ?_, ?_⟩ ?_
          · exact hmp5
          · first | exact ho4 | (simpa using ho4)
          · try dsimp only
            omega
          · try dsimp only
            exact hG.congr fun k => cntG_no (by unfold lastB; rw [bit_zero.1 (by omega)]; rfl) k
          · first | omega | (dsimp only; omega)
      · refine lx_nil <| wi_seq <| wi_false rfl <| wi_exit rfl <| wi_inBlock <| wi_reg rfl <| lx_add (((i + 1 : Nat) : Int)) rfl rfl rfl (by omega) (by omega) (by omega) <| lx_move (.int .i64 ((i + 1 : Nat) : Int)) rfl rfl <| lx_nil <| ?_
        -- L0.1
        refine IH1 _ _ (i + 1, ms) (agree_ups rfl (agree_mix (rngB_sub (by decide) (by decide) rfl) (agree_ups rfl agree_self))) ⟨rfl, trivial⟩ ⟨?_, ?_, hx0_5, ?_, ?_⟩ ?_
        · exact hmp5
        · first | exact ho4 | (simpa using ho4)
        · try dsimp only
          omega
        · try dsimp only
          exact hG.congr fun k => by rw [show x = p.length from by omega]; exact cntG_end hp12 hil hgs k
        · first | omega | (dsimp only; omega)
    · refine lx_nil <| wi_seq <| wi_false rfl <| wi_exit rfl <| wi_seq <| wi_reg rfl <| ?_
      have hpe : 2 ^ hs.length = 2 ^ p.length := by rw [hl_vp]
      have hpp : 0 < 2 ^ p.length := Nat.pow_pos (by omega)
      refine lx_move (.map (some l1)) rfl rfl <| lx_move (vp) rfl rfl <| lx_len rfl Try.underlying29 hr_vp rfl <| lx_conv ((hs.length : Nat) : Int) rfl Try.underlying3 Try.underlying45 rfl (wrap_u64 (by omega) (by omega)) <| lx_shl (m := 1) (n := hs.length) rfl rfl rfl (by show _ ≤ 64; omega) (wrap_i64 (by omega) (by omega)) <| lx_sub ((((1 * 2 ^ hs.length : Nat) : Int)) - ((1 : Int))) rfl rfl rfl (by omega) (by omega) (by omega) <| lx_lookupF ((((1 * 2 ^ hs.length : Nat) : Int)) - ((1 : Int))) (linN p.length (pb p) (2 ^ p.length - 1)) rfl rfl Try.underlying129 Try.underlying3 Try.zeroValue2 hmp4 hF (by rw [show ((((1 * 2 ^ hs.length : Nat) : Int)) - ((1 : Int))) = (((2 ^ p.length - 1 : Nat)) : Int) from by omega]; exact cnt_all _ hp0 (by omega)) rfl rfl <| lx_assign (.int .i64 (linN p.length (pb p) (2 ^ p.length - 1))) rfl rfl <| lx_assign (.int .i64 0) rfl rfl <| lx_nil <| ?_
      -- R2
      refine wi_ret ⟨.tuple #[.int .i64 (linN p.length (pb p) (2 ^ p.length - 1)), .int .i64 0], (res_two rfl rfl rfl), ⟨?_, hx0_4⟩⟩
      · rw [if_pos (by omega), show chkT p = 0 from by omega]

end Go.Proofs.Ytdokijbdnajhgaa
namespace Go.Proofs.Ytdokijbdnajhgaa
open Go Go.X

theorem goodA {a : Int} {A B : Prop} (h : (a ≠ 0 ∧ A) ∨ (a = 0 ∧ B)) (h0 : a = 0) : B := h.elim (fun x => absurd h0 x.1) (fun x => x.2)
abbrev awL : List (Int × Int) := [((0 : Int), (1 : Int)), ((0 : Int), (2 : Int))]
abbrev awM : List (Int × Int) := [((0 : Int), (1 : Int)), ((1 : Int), (2 : Int)), ((2 : Int), (4 : Int)), ((0 : Int), (3 : Int)), ((3 : Int), (4 : Int))]
def awA : List (List Bool) := tabF 3 (closW 3 awL)
def awB : List (List Bool) := tabF 5 (closW 5 awM)
theorem awA_cl : closE 3 awL = 0 := by decide +kernel
theorem awB_cl : closE 5 awM = 0 := by decide +kernel
theorem awA_len : awA.length = 3 := tabF_length _ _
theorem awB_len : awB.length = 5 := tabF_length _ _
theorem awA_rows : ∀ i, i < awA.length → (gt awA i).length ≤ 1000000 := fun i hi => by rw [awA, gt_tabF (by rw [awA_len] at hi; exact hi), rowF_length]; omega
theorem awB_rows : ∀ i, i < awB.length → (gt awB i).length ≤ 1000000 := fun i hi => by rw [awB, gt_tabF (by rw [awB_len] at hi; exact hi), rowF_length]; omega
theorem awA_chk : chkT awA = 0 := by decide +kernel
theorem awA_mu : gt (gt (muT awA.length (pb awA)) 0) 1 = -1 := by decide +kernel
theorem awA_gapB : gapB 3 (pb awA) 0 1 = false ∧ gapB 3 (pb awA) 0 2 = false ∧ gapB 3 (pb awA) 1 2 = true := by decide +kernel
theorem awA_gap : gapR awA.length (pb awA) 1 2 true := by
  rw [awA_len]
  refine .inl ⟨rfl, by omega, by omega, awA_gapB.2.2, fun i j h1 h2 h3 => ?_⟩
  have h4 : i = 0 := by omega
  subst h4
  rcases (by omega : j = 1 ∨ j = 2) with rfl | rfl
  · exact awA_gapB.1
  · exact awA_gapB.2.1
theorem awA_lin : (if chkT awA = 0 then linN awA.length (pb awA) (2 ^ awA.length - 1) else 0) = 2 := by decide +kernel
theorem awB_opn : opnC awB = 0 := by decide +kernel
theorem awB_bad : badAt awB.length (pb awB) 1 2 3 := by decide +kernel
theorem awB_has {o a b c i : Nat} {bb : Bool} (h : badR awB.length (pb awB) o a b c i bb) : bb = true ∧ badZ awB o a b c i := by
  rcases h with ⟨h1, h2, h3, h4, h5, h6, h7⟩ | ⟨_, _, h⟩
  · exact ⟨h1, awB_opn, ⟨⟨by omega, by omega⟩, ⟨by omega, by omega⟩, ⟨by omega, by omega⟩, ⟨by omega, by omega⟩, ⟨by omega, by omega⟩⟩, h2⟩
  · exact absurd awB_bad (h 1 2 3 (by rw [awB_len]; omega) (by rw [awB_len]; omega) (by rw [awB_len]; omega))

set_option maxRecDepth 10000 in
theorem awake_spec (h : Heap) : Fx Try.prog 20 [] h (fun v h' => v = .bool true ∧ Ext h.size h h') := by
  refine fx_intro (n := 109) [] Try.func20 rfl rfl (by simp) trivial fun g0 => ?_
  refine wi_seq <| wi_reg rfl <| lx_assign (.bool false) rfl rfl <| lx_nil <| wi_seq <| wi_reg rfl <| lx_build (.agg #[.int .i64 0, .int .i64 1]) [(0, .int .i64 0), (1, .int .i64 1)] rfl rfl (fun w => bld85_2 _ _ w) <| lx_build (.agg #[.int .i64 0, .int .i64 2]) [(0, .int .i64 0), (1, .int .i64 2)] rfl rfl (fun w => bld85_2 _ _ w) <| lx_buildSlice (E := encP) h.size [((0 : Int), (1 : Int)), ((0 : Int), (2 : Int))] [.agg #[.int .i64 0, .int .i64 1], .agg #[.int .i64 0, .int .i64 2]] rfl rfl eT22 rfl rfl rfl rfl (Nat.le_refl _) (fun _ _ _ => trivial) fun v1 h1 ho1 hx1 hvb1 hsz1 => ?_
  have ho2 := ho1.base (Nat.le_refl h.size)
  refine lx_call [.int .i64 3, v1] rfl rfl Try.call63 rfl (oclosure_spec h1 ((3 : Int)) v1 ([((0 : Int), (1 : Int)), ((0 : Int), (2 : Int))]) ho2.rd (by decide)) (fun _ _ _ => trivial) ?_
  rintro _ h2 ⟨va, ha, pa, rfl, ho3, hot1, hca, hx2⟩
  have hx0_1 := hx1.trans2 hx2 hx1.size
  have ho4 := ho2.extS hx2
  have ho5 := ho3.base hx1.size
  have hot2 := hot1.base hx1.size
  have hl_hot2 := hot2.1
  have hpa : pa = awA := goodA hca awA_cl
  have hck : chkT pa = 0 := by rw [hpa]; exact awA_chk
  refine lx_move (.tuple #[va, .int .i64 (closE ((3 : Int)) ([((0 : Int), (1 : Int)), ((0 : Int), (2 : Int))]))]) rfl rfl <| lx_extract (va) rfl rfl rfl <| lx_extract (.int .i64 (closE ((3 : Int)) ([((0 : Int), (1 : Int)), ((0 : Int), (2 : Int))]))) rfl rfl rfl <| lx_assign (va) rfl rfl <| lx_assign (.int .i64 (closE ((3 : Int)) ([((0 : Int), (1 : Int)), ((0 : Int), (2 : Int))]))) rfl rfl <| lx_nil <| wi_seq <| wi_reg rfl <| lx_move (va) rfl rfl <| lx_call [va] rfl rfl Try.call49 rfl (omoebius_spec h2 va ha pa ho5.rd hot2.rt (by rw [hpa, awA_len]; omega) (by rw [hpa]; exact awA_rows)) (fun _ _ _ => trivial) ?_
  rintro _ h3 ⟨vmu, hmu, rmu, rfl, ho6, hot3, hmo, hx3⟩
  have hx0_2 := hx0_1.trans2 hx3 hx0_1.size
  have ho7 := ho4.extS hx3
  have ho8 := ho5.extS hx3
  have hot4 := hot2.extS hx3
  have ho9 := ho6.base hx0_1.size
  have hot5 := hot3.base hx0_1.size
  have hl_hot5 := hot5.1
  have hrmu : rmu = muT awA.length (pb awA) := by rw [goodA hmo hck, hpa]
  have hmv : gt (gt rmu 0) 1 = -1 := by rw [hrmu]; exact awA_mu
  have hml : rmu.length = 3 := by rw [hrmu, muT_len, awA_len]
  have hml2 : (gt rmu 0).length = 3 := by rw [hrmu, gt_muT (by rw [awA_len]; omega), mapR_len, awA_len]
  refine lx_move (.tuple #[vmu, .int .i64 (chkT pa)]) rfl rfl <| lx_extract (vmu) rfl rfl rfl <| lx_extract (.int .i64 (chkT pa)) rfl rfl rfl <| lx_assign (vmu) rfl rfl <| lx_assign (.int .i64 (chkT pa)) rfl rfl <| lx_nil <| wi_seq <| wi_reg rfl <| lx_move (va) rfl rfl <| lx_call [va] rfl rfl Try.call30 rfl (ogap_spec h3 va ha pa ho8.rd hot4.rt (by rw [hpa, awA_len]; omega) (by rw [hpa]; exact awA_rows)) (fun _ _ _ => trivial) ?_
  rintro _ h4 ⟨gx, gy, gb, rfl, hgap, hx4⟩
  have hx0_3 := hx0_2.trans2 hx4 hx0_2.size
  have ho10 := ho7.extS hx4
  have ho11 := ho8.extS hx4
  have hot6 := hot4.extS hx4
  have ho12 := ho9.extS hx4
  have hot7 := hot5.extS hx4
  refine lx_move (.tuple #[.int .i64 ((gx : Nat) : Int), .int .i64 ((gy : Nat) : Int), .bool gb, .int .i64 (chkT pa)]) rfl rfl <| lx_extract (.int .i64 ((gx : Nat) : Int)) rfl rfl rfl <| lx_extract (.int .i64 ((gy : Nat) : Int)) rfl rfl rfl <| lx_extract (.bool gb) rfl rfl rfl <| lx_extract (.int .i64 (chkT pa)) rfl rfl rfl <| lx_assign (.int .i64 ((gx : Nat) : Int)) rfl rfl <| lx_assign (.int .i64 ((gy : Nat) : Int)) rfl rfl <| lx_assign (.bool gb) rfl rfl <| lx_assign (.int .i64 (chkT pa)) rfl rfl <| lx_nil <| wi_seq <| wi_reg rfl <| ?_
  obtain ⟨hgx, hgy, hgb⟩ := gapR_uniq (goodA hgap hck) (by rw [hpa]; exact awA_gap)
  subst hgx; subst hgy; subst hgb
  refine lx_move (va) rfl rfl <| lx_call [va] rfl rfl Try.call45 rfl (olinear_spec h4 va ha pa ho11.rd hot6.rt (by rw [hpa, awA_len]; omega) (by rw [hpa]; exact awA_rows)) (fun _ _ _ => trivial) ?_
  rintro _ h5 ⟨rfl, hx5⟩
  have hx0_4 := hx0_3.trans2 hx5 hx0_3.size
  have ho13 := ho10.extS hx5
  have ho14 := ho11.extS hx5
  have hot8 := hot6.extS hx5
  have ho15 := ho12.extS hx5
  have hot9 := hot7.extS hx5
  refine lx_move (.tuple #[.int .i64 ((if chkT pa = 0 then linN pa.length (pb pa) (2 ^ pa.length - 1) else 0)), .int .i64 (chkT pa)]) rfl rfl <| lx_extract (.int .i64 ((if chkT pa = 0 then linN pa.length (pb pa) (2 ^ pa.length - 1) else 0))) rfl rfl rfl <| lx_extract (.int .i64 (chkT pa)) rfl rfl rfl <| lx_assign (.int .i64 ((if chkT pa = 0 then linN pa.length (pb pa) (2 ^ pa.length - 1) else 0))) rfl rfl <| lx_assign (.int .i64 (chkT pa)) rfl rfl <| lx_nil <| wi_seq <| wi_reg rfl <| lx_build (.agg #[.int .i64 0, .int .i64 1]) [(0, .int .i64 0), (1, .int .i64 1)] rfl rfl (fun w => bld85_2 _ _ w) <| lx_build (.agg #[.int .i64 1, .int .i64 2]) [(0, .int .i64 1), (1, .int .i64 2)] rfl rfl (fun w => bld85_2 _ _ w) <| lx_build (.agg #[.int .i64 2, .int .i64 4]) [(0, .int .i64 2), (1, .int .i64 4)] rfl rfl (fun w => bld85_2 _ _ w) <| lx_build (.agg #[.int .i64 0, .int .i64 3]) [(0, .int .i64 0), (1, .int .i64 3)] rfl rfl (fun w => bld85_2 _ _ w) <| lx_build (.agg #[.int .i64 3, .int .i64 4]) [(0, .int .i64 3), (1, .int .i64 4)] rfl rfl (fun w => bld85_2 _ _ w) <| lx_buildSlice (E := encP) h5.size [((0 : Int), (1 : Int)), ((1 : Int), (2 : Int)), ((2 : Int), (4 : Int)), ((0 : Int), (3 : Int)), ((3 : Int), (4 : Int))] [.agg #[.int .i64 0, .int .i64 1], .agg #[.int .i64 1, .int .i64 2], .agg #[.int .i64 2, .int .i64 4], .agg #[.int .i64 0, .int .i64 3], .agg #[.int .i64 3, .int .i64 4]] rfl rfl eT22 rfl rfl rfl rfl (Nat.le_refl _) (fun _ _ _ => trivial) fun v2 h6 ho16 hx6 hvb2 hsz2 => ?_
  have hx0_5 := hx0_4.trans2 hx6 hx0_4.size
  have ho17 := ho13.extS hx6
  have ho18 := ho14.extS hx6
  have hot10 := hot8.extS hx6
  have ho19 := ho15.extS hx6
  have hot11 := hot9.extS hx6
  have ho20 := ho16.base hx0_4.size
  refine lx_call [.int .i64 5, v2] rfl rfl Try.call63 rfl (oclosure_spec h6 ((5 : Int)) v2 ([((0 : Int), (1 : Int)), ((1 : Int), (2 : Int)), ((2 : Int), (4 : Int)), ((0 : Int), (3 : Int)), ((3 : Int), (4 : Int))]) ho20.rd (by decide)) (fun _ _ _ => trivial) ?_
  rintro _ h7 ⟨vq, hq, pq, rfl, ho21, hot12, hcq, hx7⟩
  have hx0_6 := hx0_5.trans2 hx7 hx0_5.size
  have ho22 := ho17.extS hx7
  have ho23 := ho18.extS hx7
  have hot13 := hot10.extS hx7
  have ho24 := ho19.extS hx7
  have hot14 := hot11.extS hx7
  have ho25 := ho20.extS hx7
  have ho26 := ho21.base hx0_5.size
  have hot15 := hot12.base hx0_5.size
  have hl_hot15 := hot15.1
  have hpq : pq = awB := goodA hcq awB_cl
  have hop : opnC pq = 0 := by rw [hpq]; exact awB_opn
  refine lx_move (.tuple #[vq, .int .i64 (closE ((5 : Int)) ([((0 : Int), (1 : Int)), ((1 : Int), (2 : Int)), ((2 : Int), (4 : Int)), ((0 : Int), (3 : Int)), ((3 : Int), (4 : Int))]))]) rfl rfl <| lx_extract (vq) rfl rfl rfl <| lx_extract (.int .i64 (closE ((5 : Int)) ([((0 : Int), (1 : Int)), ((1 : Int), (2 : Int)), ((2 : Int), (4 : Int)), ((0 : Int), (3 : Int)), ((3 : Int), (4 : Int))]))) rfl rfl rfl <| lx_assign (vq) rfl rfl <| lx_assign (.int .i64 (closE ((5 : Int)) ([((0 : Int), (1 : Int)), ((1 : Int), (2 : Int)), ((2 : Int), (4 : Int)), ((0 : Int), (3 : Int)), ((3 : Int), (4 : Int))]))) rfl rfl <| lx_nil <| wi_seq <| wi_reg rfl <| lx_move (vq) rfl rfl <| lx_call [vq] rfl rfl Try.call33 rfl (obad_spec h7 vq hq pq ho26.rd hot15.rt (by rw [hpq, awB_len]; omega) (by rw [hpq]; exact awB_rows)) (fun _ _ _ => trivial) ?_
  rintro _ h8 ⟨xo, xa, xb, xc, xi, xbb, rfl, hxb, hx8⟩
  have hx0_7 := hx0_6.trans2 hx8 hx0_6.size
  have ho27 := ho22.extS hx8
  have ho28 := ho23.extS hx8
  have hot16 := hot13.extS hx8
  have ho29 := ho24.extS hx8
  have hot17 := hot14.extS hx8
  have ho30 := ho25.extS hx8
  have ho31 := ho26.extS hx8
  have hot18 := hot15.extS hx8
  refine lx_move (.tuple #[.agg #[.int .i64 ((xo : Nat) : Int), .int .i64 ((xa : Nat) : Int), .int .i64 ((xb : Nat) : Int), .int .i64 ((xc : Nat) : Int), .int .i64 ((xi : Nat) : Int)], .bool xbb, .int .i64 (opnC pq)]) rfl rfl <| lx_extract (.agg #[.int .i64 ((xo : Nat) : Int), .int .i64 ((xa : Nat) : Int), .int .i64 ((xb : Nat) : Int), .int .i64 ((xc : Nat) : Int), .int .i64 ((xi : Nat) : Int)]) rfl rfl rfl <| lx_extract (.bool xbb) rfl rfl rfl <| lx_extract (.int .i64 (opnC pq)) rfl rfl rfl <| lx_alloc rfl rfl Try.zeroValue48 (fun _ _ _ => trivial) fun bn1 h9 hbn1 hbk1 hx9 hsz3 => ?_
  have hbb1 : h.size ≤ bn1 := by have := hx0_7.size; omega
  have hdj1 : Value.ownBlock v1 ≠ some bn1 := by intro e; have := (ho27.lt e).2; omega
  have hdj2 : Value.ownBlock va ≠ some bn1 := by intro e; have := (ho28.lt e).2; omega
  have hnb1 : Nbt ha bn1 := nbt_new hot16 (by omega)
  have hdj3 : Value.ownBlock vmu ≠ some bn1 := by intro e; have := (ho29.lt e).2; omega
  have hnb2 : Nbt hmu bn1 := nbt_new hot17 (by omega)
  have hdj4 : Value.ownBlock v2 ≠ some bn1 := by intro e; have := (ho30.lt e).2; omega
  have hdj5 : Value.ownBlock vq ≠ some bn1 := by intro e; have := (ho31.lt e).2; omega
  have hnb3 : Nbt hq bn1 := nbt_new hot18 (by omega)
  have hx0_8 := hx0_7.trans2 hx9 hx0_7.size
  have ho32 := ho27.extS hx9
  have ho33 := ho28.extS hx9
  have hot19 := hot16.extS hx9
  have ho34 := ho29.extS hx9
  have hot20 := hot17.extS hx9
  have ho35 := ho30.extS hx9
  have ho36 := ho31.extS hx9
  have hot21 := hot18.extS hx9
  have hbk1 : Blk h9 bn1 #[.int .i64 0, .int .i64 0, .int .i64 0, .int .i64 0, .int .i64 0] 48 := hbk1
  refine lx_stBA (#[.int .i64 ((xo : Nat) : Int), .int .i64 ((xa : Nat) : Int), .int .i64 ((xb : Nat) : Int), .int .i64 ((xc : Nat) : Int), .int .i64 ((xi : Nat) : Int)]) rfl rfl Try.sizeOf48 hbk1 rfl rfl rfl rfl (by simp [Value.oneCell']) (fun _ _ _ _ => trivial) fun h10 hbk2 hc1 => ?_
  have hx0_9 := hx0_8.trans (hc1.ext hbb1)
  have ho37 := hc1.owE ho32 hdj1
  have ho38 := hc1.owE ho33 hdj2
  have hot22 := hot19.chgB hc1 hnb1
  have ho39 := hc1.owE ho34 hdj3
  have hot23 := hot20.chgB hc1 hnb2
  have ho40 := hc1.owE ho35 hdj4
  have ho41 := hc1.owE ho36 hdj5
  have hot24 := hot21.chgB hc1 hnb3
  refine lx_assign (.bool xbb) rfl rfl <| lx_assign (.int .i64 (opnC pq)) rfl rfl <| lx_nil <| wi_seq <| wi_reg rfl <| ?_
  have hxb2 : xbb = true ∧ badZ pq xo xa xb xc xi := by rw [hpq]; exact awB_has (by rw [← hpq]; exact goodA hxb hop)
  obtain ⟨hxt, hbz⟩ := hxb2
  subst hxt
  have hlv : (if chkT pa = 0 then linN pa.length (pb pa) (2 ^ pa.length - 1) else 0) = 2 := by rw [hpa]; exact awA_lin
  refine lx_move (.int .i64 (closE ((3 : Int)) ([((0 : Int), (1 : Int)), ((0 : Int), (2 : Int))]))) rfl rfl <| lx_eqlT rfl rfl rfl awA_cl <| lx_move (.bool true) rfl rfl <| lx_move (.int .i64 (chkT pa)) rfl rfl <| lx_eqlT rfl rfl rfl hck <| lx_pick true (.bool true) rfl rfl rfl <| lx_move (.bool true) rfl rfl <| lx_move (.int .i64 (chkT pa)) rfl rfl <| lx_eqlT rfl rfl rfl hck <| lx_pick true (.bool true) rfl rfl rfl <| lx_move (.bool true) rfl rfl <| lx_move (.int .i64 (chkT pa)) rfl rfl <| lx_eqlT rfl rfl rfl hck <| lx_pick true (.bool true) rfl rfl rfl <| lx_move (.bool true) rfl rfl <| lx_move (.int .i64 (closE ((5 : Int)) ([((0 : Int), (1 : Int)), ((1 : Int), (2 : Int)), ((2 : Int), (4 : Int)), ((0 : Int), (3 : Int)), ((3 : Int), (4 : Int))]))) rfl rfl <| lx_eqlT rfl rfl rfl awB_cl <| lx_pick true (.bool true) rfl rfl rfl <| lx_move (.bool true) rfl rfl <| lx_move (.int .i64 (opnC pq)) rfl rfl <| lx_eqlT rfl rfl rfl hop <| lx_pick true (.bool true) rfl rfl rfl <| lx_move (.bool true) rfl rfl <| lx_move (vmu) rfl rfl <| lx_ix (i := 0) rfl eT49 ho39.rd rfl rfl (by omega) <| lx_ld (i := 0) (j := 0) ((gt hmu 0).v) rfl rfl fl25 ho39.rd (by omega) rfl rfl <| lx_ix (i := 1) rfl eT25 (hot23.2.1 0 (by omega)).rd rfl rfl (by omega) <| lx_ld (i := 1) (j := 0) (.int .i64 (gt (gt rmu 0) 1)) rfl rfl fl3 (hot23.2.1 0 (by omega)).rd (by omega) rfl rfl <| lx_eqlT rfl rfl rfl hmv <| lx_pick true (.bool true) rfl rfl rfl <| lx_move (.bool true) rfl rfl <| lx_move (.bool true) rfl rfl <| lx_pick true (.bool true) rfl rfl rfl <| lx_move (.bool true) rfl rfl <| lx_move (.int .i64 ((1 : Nat) : Int)) rfl rfl <| lx_eqlT rfl rfl rfl rfl <| lx_pick true (.bool true) rfl rfl rfl <| lx_move (.bool true) rfl rfl <| lx_move (.int .i64 ((2 : Nat) : Int)) rfl rfl <| lx_eqlT rfl rfl rfl rfl <| lx_pick true (.bool true) rfl rfl rfl <| lx_move (.bool true) rfl rfl <| lx_move (.int .i64 ((if chkT pa = 0 then linN pa.length (pb pa) (2 ^ pa.length - 1) else 0))) rfl rfl <| lx_eqlT rfl rfl rfl hlv <| lx_pick true (.bool true) rfl rfl rfl <| lx_move (.bool true) rfl rfl <| lx_move (.bool true) rfl rfl <| lx_pick true (.bool true) rfl rfl rfl <| lx_move (.bool true) rfl rfl <| lx_move (vq) rfl rfl <| lx_ldBA rfl rfl wd48 hbk2 rfl rfl <| lx_call [vq, .agg #[.int .i64 ((xo : Nat) : Int), .int .i64 ((xa : Nat) : Int), .int .i64 ((xb : Nat) : Int), .int .i64 ((xc : Nat) : Int), .int .i64 ((xi : Nat) : Int)]] rfl rfl Try.call36 rfl (oisBad_spec h10 vq hq pq (((xo : Nat) : Int)) (((xa : Nat) : Int)) (((xb : Nat) : Int)) (((xc : Nat) : Int)) (((xi : Nat) : Int)) ho41.rd hot24.rt (by rw [hpq, awB_len]; omega) (by rw [hpq]; exact awB_rows)) (fun _ _ _ => trivial) ?_
  rintro _ h11 ⟨rfl, hx10⟩
  have hx0_10 := hx0_9.trans2 hx10 hx0_9.size
  have ho42 := ho37.extS hx10
  have ho43 := ho38.extS hx10
  have hot25 := hot22.extS hx10
  have ho44 := ho39.extS hx10
  have hot26 := hot23.extS hx10
  have ho45 := ho40.extS hx10
  have ho46 := ho41.extS hx10
  have hot27 := hot24.extS hx10
  have hb1 := hbk2.extS hx10
  refine lx_pick true (.bool (decide (badZ pq (((xo : Nat) : Int)) (((xa : Nat) : Int)) (((xb : Nat) : Int)) (((xc : Nat) : Int)) (((xi : Nat) : Int))))) rfl rfl rfl <| lx_assign (.bool (decide (badZ pq (((xo : Nat) : Int)) (((xa : Nat) : Int)) (((xb : Nat) : Int)) (((xc : Nat) : Int)) (((xi : Nat) : Int))))) rfl rfl <| lx_nil <| ?_
  -- R1
  refine wi_ret ⟨.bool (decide (badZ pq (((xo : Nat) : Int)) (((xa : Nat) : Int)) (((xb : Nat) : Int)) (((xc : Nat) : Int)) (((xi : Nat) : Int)))), (res_one rfl rfl), ⟨?_, hx0_10⟩⟩
  · congr 1; exact decide_eq_true hbz

end Go.Proofs.Ytdokijbdnajhgaa
namespace Go.Proofs.Ytdokijbdnajhgaa
open Go Go.X

def UpL (n : Nat) (ls : List (Int × Int)) : Prop := ∀ d, d ∈ ls → ∃ a b : Nat, d = ((a : Int), (b : Int)) ∧ a < b ∧ b < n
theorem UpL.snoc {n : Nat} {ls : List (Int × Int)} (h : UpL n ls) {x y : Int} (a b : Nat) (hx : x = a) (hy : y = b) (h1 : a < b) (h2 : b < n) : UpL n (ls ++ [(x, y)]) := fun d hd => by
  rcases List.mem_append.1 hd with hd | hd
  · exact h d hd
  · rw [List.mem_singleton] at hd
    exact ⟨a, b, by rw [hd, hx, hy], h1, h2⟩
end Go.Proofs.Ytdokijbdnajhgaa
namespace Go.Proofs.Ytdokijbdnajhgaa
open Go Go.X

set_option maxRecDepth 10000 in
theorem tables9_spec (h : Heap) (va : Value) (ha : List Hdr) (p : List (List Bool)) (vb : Value) (hb : List Hdr) (q : List (List Bool)) (hr_va : RdE encHd h va ha) (ht_va : RT encB h ha p) (hr_vb : RdE encHd h vb hb) (ht_vb : RT encB h hb q) (hp1 : p.length ≤ 4096) (hp2 : q.length ≤ 4096) (hp3 : ∀ i, i < p.length → (gt p i).length ≤ 4096) (hp4 : ∀ i, i < q.length → (gt q i).length ≤ 4096) : Fx Try.prog 21 [va, vb] h (fun v h' => v = .bool (decide (p = q)) ∧ h = h') := by
  have hl_va := ht_va.1
  have hl_vb := ht_vb.1
  refine fx_intro (n := 53) [(0, va), (1, vb)] Try.func21 rfl rfl (by simp) ⟨rfl, rfl, trivial⟩ fun g0 => ?_
  refine wi_seq <| wi_reg rfl <| lx_assign (.bool false) rfl rfl <| lx_nil <| wi_seq <| wi_seq <| wi_reg rfl <| lx_move (va) rfl rfl <| lx_len rfl Try.underlying23 hr_va rfl <| lx_move (vb) rfl rfl <| lx_len rfl Try.underlying23 hr_vb rfl <| lx_neqS rfl rfl rfl (fun c1 => ?_) (fun c1 => ?_)
  · refine lx_nil <| wi_true rfl <| wi_seq <| wi_reg rfl <| lx_assign (.bool false) rfl rfl <| lx_nil <| ?_
    -- R1
    refine wi_ret ⟨.bool false, (res_one rfl rfl), ⟨?_, rfl⟩⟩
    · congr 1; exact (decide_eq_false fun e => c1 (by rw [hl_va, hl_vb, e])).symm
  · refine lx_nil <| wi_false rfl <| wi_skip <| wi_seq <| wi_seq <| wi_reg rfl <| lx_assign (.int .i64 0) rfl rfl <| lx_nil <| wi_block <| ?_
    refine wi_loop (σ := Nat) (rngB 12 53 [4, 5, 6]) (fun (i : Nat) => [(5, .int .i64 ((i : Nat) : Int))]) (fun (i : Nat) (hh : Heap) => h = hh ∧ (i ≤ p.length) ∧ (∀ j, j < i → gt p j = gt q j)) (fun (i : Nat) => p.length - i) 0 ⟨rfl, trivial⟩ ⟨rfl, ?_, ?_⟩ ?_
    · try dsimp only
      omega
    · try dsimp only
      intro j hj; omega
    rintro g1 i hh1 ⟨rfl, hi, he⟩ IH1
    refine wi_seq <| wi_seq <| wi_reg rfl <| lx_move (.int .i64 ((i : Nat) : Int)) rfl rfl <| lx_move (va) rfl rfl <| lx_len rfl Try.underlying23 hr_va rfl <| lx_lssS rfl rfl rfl (fun c2 => ?_) (fun c2 => ?_)
    · refine lx_nil <| wi_true rfl <| wi_skip <| wi_seq <| wi_block <| wi_seq <| wi_seq <| wi_draw mo rfl (by decide +kernel) <| ?_
      have hq3 := hp3 i (by omega)
      have hq4 := hp4 i (by omega)
      refine lx_move (va) rfl rfl <| lx_move (.int .i64 ((i : Nat) : Int)) rfl rfl <| lx_ix (i := i) rfl eT23 hr_va rfl rfl (by omega) <| lx_ld (i := i) (j := 0) ((gt ha i).v) rfl rfl fl70 hr_va (by omega) rfl rfl <| lx_len rfl Try.underlying70 (ht_va.2 i (by omega)) rfl <| lx_move (vb) rfl rfl <| lx_move (.int .i64 ((i : Nat) : Int)) rfl rfl <| lx_ix (i := i) rfl eT23 hr_vb rfl rfl (by omega) <| lx_ld (i := i) (j := 0) ((gt hb i).v) rfl rfl fl70 hr_vb (by omega) rfl rfl <| lx_len rfl Try.underlying70 (ht_vb.2 i (by omega)) rfl <| lx_neqS rfl rfl rfl (fun c3 => ?_) (fun c3 => ?_)
      · refine lx_nil <| wi_true rfl <| wi_seq <| wi_reg rfl <| lx_assign (.bool false) rfl rfl <| lx_nil <| ?_
        -- R2
        refine wi_ret ⟨.bool false, (res_one rfl rfl), ⟨?_, rfl⟩⟩
        · congr 1; exact (decide_eq_false fun e => c3 (by rw [e])).symm
      · refine lx_nil <| wi_false rfl <| wi_skip <| wi_seq <| wi_reg rfl <| lx_assign (.int .i64 0) rfl rfl <| lx_nil <| wi_block <| ?_
        refine wi_loop (σ := Nat) (rngB 29 53 [4, 6]) (fun (k : Nat) => [(6, .int .i64 ((k : Nat) : Int))]) (fun (k : Nat) (hh : Heap) => h = hh ∧ (k ≤ (gt p i).length) ∧ (∀ j, j < k → gt (gt p i) j = gt (gt q i) j)) (fun (k : Nat) => (gt p i).length - k) 0 ⟨rfl, trivial⟩ ⟨rfl, ?_, ?_⟩ ?_
        · try dsimp only
          omega
        · try dsimp only
          intro j hj; omega
        rintro g2 k hh2 ⟨rfl, hk, hf⟩ IH2
        refine wi_seq <| wi_seq <| wi_reg rfl <| lx_move (.int .i64 ((k : Nat) : Int)) rfl rfl <| lx_move (va) rfl rfl <| lx_move (.int .i64 ((i : Nat) : Int)) rfl rfl <| lx_ix (i := i) rfl eT23 hr_va rfl rfl (by omega) <| lx_ld (i := i) (j := 0) ((gt ha i).v) rfl rfl fl70 hr_va (by omega) rfl rfl <| lx_len rfl Try.underlying70 (ht_va.2 i (by omega)) rfl <| lx_lssS rfl rfl rfl (fun c4 => ?_) (fun c4 => ?_)
        · refine lx_nil <| wi_true rfl <| wi_skip <| wi_seq <| wi_block <| wi_seq <| wi_draw mo rfl (by decide +kernel) <| lx_move (va) rfl rfl <| lx_move (.int .i64 ((i : Nat) : Int)) rfl rfl <| lx_ix (i := i) rfl eT23 hr_va rfl rfl (by omega) <| lx_ld (i := i) (j := 0) ((gt ha i).v) rfl rfl fl70 hr_va (by omega) rfl rfl <| lx_move (.int .i64 ((k : Nat) : Int)) rfl rfl <| lx_ix (i := k) rfl eT70 (ht_va.2 i (by omega)) rfl rfl (by omega) <| lx_ld (i := k) (j := 0) (.bool (gt (gt p i) k)) rfl rfl fl4 (ht_va.2 i (by omega)) (by omega) rfl rfl <| lx_move (vb) rfl rfl <| lx_move (.int .i64 ((i : Nat) : Int)) rfl rfl <| lx_ix (i := i) rfl eT23 hr_vb rfl rfl (by omega) <| lx_ld (i := i) (j := 0) ((gt hb i).v) rfl rfl fl70 hr_vb (by omega) rfl rfl <| lx_move (.int .i64 ((k : Nat) : Int)) rfl rfl <| lx_ix (i := k) rfl eT70 (ht_vb.2 i (by omega)) rfl rfl (by omega) <| lx_ld (i := k) (j := 0) (.bool (gt (gt q i) k)) rfl rfl fl4 (ht_vb.2 i (by omega)) (by omega) rfl rfl <| lx_neqBool ((gt (gt p i) k) != (gt (gt q i) k)) rfl Try.underlying4 rfl rfl rfl <| lx_nil <| wi_condS (t := (gt (gt p i) k) != (gt (gt q i) k)) rfl (fun c5 => ?_) (fun c5 => ?_)
          · refine wi_seq <| wi_reg rfl <| lx_assign (.bool false) rfl rfl <| lx_nil <| ?_
            -- R3
            refine wi_ret ⟨.bool false, (res_one rfl rfl), ⟨?_, rfl⟩⟩
            · congr 1; exact (decide_eq_false fun e => by rw [e] at c5; simp at c5).symm
          · refine wi_skip <| wi_inBlock <| wi_reg rfl <| lx_move (.int .i64 ((k : Nat) : Int)) rfl rfl <| lx_add (((k + 1 : Nat) : Int)) rfl rfl rfl (by omega) (by omega) (by omega) <| lx_assign (.int .i64 ((k + 1 : Nat) : Int)) rfl rfl <| lx_nil <| ?_
            -- L2.1
            refine IH2 _ _ (k + 1) (agree_ups rfl agree_self) ⟨rfl, trivial⟩ ⟨rfl, ?_, ?_⟩ ?_
            · try dsimp only
              omega
            · try dsimp only
              intro j hj
              by_cases e : j = k
              · subst e; simpa using c5
              · exact hf j (by omega)
            · first | omega | (dsimp only; omega)
        · refine lx_nil <| wi_false rfl <| wi_exit rfl <| wi_inBlock <| wi_reg rfl <| lx_move (.int .i64 ((i : Nat) : Int)) rfl rfl <| lx_add (((i + 1 : Nat) : Int)) rfl rfl rfl (by omega) (by omega) (by omega) <| lx_assign (.int .i64 ((i + 1 : Nat) : Int)) rfl rfl <| lx_nil <| ?_
          -- L0.1
          refine IH1 _ _ (i + 1) (agree_ups rfl (agree_mix (rngB_sub (by decide) (by decide) rfl) (agree_ups rfl agree_self))) ⟨rfl, trivial⟩ ⟨rfl, ?_, ?_⟩ ?_
          · try dsimp only
            omega
          · try dsimp only
            intro j hj
            by_cases e : j = i
            · subst e; exact gt_ext (by omega) fun q hq => hf q (by omega)
            · exact he j (by omega)
          · first | omega | (dsimp only; omega)
    · refine lx_nil <| wi_false rfl <| wi_exit rfl <| wi_seq <| wi_reg rfl <| lx_assign (.bool true) rfl rfl <| lx_nil <| ?_
      -- R4
      refine wi_ret ⟨.bool true, (res_one rfl rfl), ⟨?_, rfl⟩⟩
      · congr 1; exact (decide_eq_true (gt_ext (by omega) fun j hj => he j (by omega))).symm

theorem tab_le {n : Nat} {f : Nat → Nat → Bool} {r : List (List Bool)} (e : r = tabF n f) (hn : n ≤ 4096) : r.length ≤ 4096 ∧ ∀ i, i < r.length → (gt r i).length ≤ 4096 := by
  subst e
  refine ⟨by rw [tabF_length]; exact hn, fun i hi => ?_⟩
  rw [tabF_length] at hi
  rw [gt_tabF hi, rowF_length]; exact hn
end Go.Proofs.Ytdokijbdnajhgaa
namespace Go.Proofs.Ytdokijbdnajhgaa
open Go Go.X

end Go.Proofs.Ytdokijbdnajhgaa
namespace Go.Proofs.Ytdokijbdnajhgaa
open Go Go.X

end Go.Proofs.Ytdokijbdnajhgaa
namespace Go.Proofs.Ytdokijbdnajhgaa
open Go Go.X

end Go.Proofs.Ytdokijbdnajhgaa
namespace Go.Proofs.Ytdokijbdnajhgaa
open Go Go.X

/-- What is wrong with a list of numbers. -/
def numB (xs : List Int) : Bool := (List.range xs.length).all fun i => decide (-1000000000 ≤ gt xs i ∧ gt xs i ≤ 1000000000)
theorem numB_iff {xs : List Int} : numB xs = true ↔ ∀ i, i < xs.length → -1000000000 ≤ gt xs i ∧ gt xs i ≤ 1000000000 := by
  unfold numB
  rw [rall_iff]
  exact ⟨fun h i hi => of_decide_eq_true (h i hi), fun h i hi => decide_eq_true (h i hi)⟩
def lstE (n : Nat) (xs : List Int) : Int := if xs.length = n then (if numB xs then 0 else 1) else 7
def lisE (p : List (List Bool)) (xs : List Int) : Int := if chkT p = 0 then lstE p.length xs else chkT p

set_option maxRecDepth 10000 in
theorem lst1_spec (h : Heap) (x : Int) : Fx Try.prog 141 [.int .i64 x] h (fun v h' => v = .bool (decide (¬ (-1000000000 ≤ x ∧ x ≤ 1000000000))) ∧ h = h') := by
  refine fx_intro (n := 9) [(0, .int .i64 x)] Try.func141 rfl rfl (by simp) ⟨rfl, trivial⟩ fun g0 => ?_
  refine wi_seq <| wi_reg rfl <| lx_assign (.bool false) rfl rfl <| lx_nil <| wi_seq <| wi_reg rfl <| lx_move (.int .i64 x) rfl rfl <| lx_lssS rfl rfl rfl (fun c1 => ?_) (fun c1 => ?_)
  · refine lx_move (.bool true) rfl rfl <| lx_skip rfl <| lx_skip rfl <| lx_pick true (.bool true) rfl rfl rfl <| lx_assign (.bool true) rfl rfl <| lx_nil <| ?_
    -- R1
    refine wi_ret ⟨.bool true, (res_one rfl rfl), ⟨?_, rfl⟩⟩
    · congr 1
      first
      | exact (decide_eq_true (by omega)).symm
      | exact (decide_eq_false (by omega)).symm
  · refine lx_move (.bool false) rfl rfl <| lx_move (.int .i64 x) rfl rfl <| lx_gtrS rfl rfl rfl (fun c2 => ?_) (fun c2 => ?_)
    · refine lx_pick false (.bool true) rfl rfl rfl <| lx_assign (.bool true) rfl rfl <| lx_nil <| ?_
      -- R2
      refine wi_ret ⟨.bool true, (res_one rfl rfl), ⟨?_, rfl⟩⟩
      · congr 1
        first
        | exact (decide_eq_true (by omega)).symm
        | exact (decide_eq_false (by omega)).symm
    · refine lx_pick false (.bool false) rfl rfl rfl <| lx_assign (.bool false) rfl rfl <| lx_nil <| ?_
      -- R3
      refine wi_ret ⟨.bool false, (res_one rfl rfl), ⟨?_, rfl⟩⟩
      · congr 1
        first
        | exact (decide_eq_true (by omega)).symm
        | exact (decide_eq_false (by omega)).symm

set_option maxRecDepth 10000 in
theorem lindex_spec (h : Heap) (vl : Value) (xs : List Int) (hr_vl : RdE encI h vl xs) (hp1 : xs.length ≤ 1000000) : Fx Try.prog 171 [vl, .func (.func 141) #[] #[]] h (fun v h' => ∃ (r : Int), v = .int .i64 r ∧ ((r = -1 ∧ ∀ i, i < xs.length → -1000000000 ≤ gt xs i ∧ gt xs i ≤ 1000000000) ∨ (0 ≤ r ∧ ∃ i, i < xs.length ∧ ¬ (-1000000000 ≤ gt xs i ∧ gt xs i ≤ 1000000000))) ∧ h = h') := by
  refine fx_intro (n := 19) [(0, vl), (1, .func (.func 141) #[] #[])] Try.func171 rfl rfl (by simp) ⟨rfl, rfl, trivial⟩ fun g0 => ?_
  refine wi_seq <| wi_reg rfl <| lx_assign (.int .i64 0) rfl rfl <| lx_nil <| wi_seq <| wi_seq <| wi_reg rfl <| lx_move (vl) rfl rfl <| lx_len rfl Try.underlying58 hr_vl rfl <| lx_move (.int .i64 0) rfl rfl <| lx_nil <| wi_block <| ?_
  refine wi_loop (σ := Nat) (rngB 8 19 [4, 5]) (fun (i : Nat) => [(8, .int .i64 ((i : Nat) : Int))]) (fun (i : Nat) (hh : Heap) => h = hh ∧ (i ≤ xs.length) ∧ (∀ j, j < i → -1000000000 ≤ gt xs j ∧ gt xs j ≤ 1000000000)) (fun (i : Nat) => xs.length - i) 0 ⟨rfl, trivial⟩ ⟨rfl, ?_, ?_⟩ ?_
  · try dsimp only
    omega
  · try dsimp only
    intro j hj; omega
  rintro g1 i hh1 ⟨rfl, hi, he⟩ IH1
  refine wi_seq <| wi_reg rfl <| lx_lssS rfl rfl rfl (fun c1 => ?_) (fun c1 => ?_)
  · refine lx_nil <| wi_seq <| wi_true rfl <| wi_skip <| wi_seq <| wi_block <| wi_seq <| wi_reg rfl <| lx_move (.int .i64 ((i : Nat) : Int)) rfl rfl <| lx_assign (.int .i64 ((i : Nat) : Int)) rfl rfl <| lx_nil <| wi_seq <| wi_reg rfl <| lx_move (.func (.func 141) #[] #[]) rfl rfl <| lx_move (vl) rfl rfl <| lx_move (.int .i64 ((i : Nat) : Int)) rfl rfl <| lx_ix (i := i) rfl eT58 hr_vl rfl rfl (by omega) <| lx_ld (i := i) (j := 0) (.int .i64 (gt xs i)) rfl rfl fl2 hr_vl (by omega) rfl rfl <| lx_callV [] [] [.int .i64 (gt xs i)] rfl rfl Try.call141 rfl rfl (lst1_spec h (gt xs i) ) (fun _ _ _ => trivial) ?_
    rintro _ h1 ⟨rfl, rfl⟩
    refine lx_nil <| wi_condS (t := decide (¬ (-1000000000 ≤ (gt xs i) ∧ (gt xs i) ≤ 1000000000))) rfl (fun c2 => ?_) (fun c2 => ?_)
    · refine wi_seq <| wi_reg rfl <| lx_move (.int .i64 ((i : Nat) : Int)) rfl rfl <| lx_assign (.int .i64 ((i : Nat) : Int)) rfl rfl <| lx_nil <| ?_
      -- R1
      refine wi_ret ⟨.int .i64 ((i : Nat) : Int), (res_one rfl rfl), ⟨((i : Nat) : Int), ?_, ?_, rfl⟩⟩
      · first | rfl | (simp; done) | (simp; omega)
      · refine .inr ⟨by omega, i, by omega, ?_⟩
        exact of_decide_eq_true c2
    · refine wi_skip <| wi_inBlock <| wi_reg rfl <| lx_add (((i + 1 : Nat) : Int)) rfl rfl rfl (by omega) (by omega) (by omega) <| lx_move (.int .i64 ((i + 1 : Nat) : Int)) rfl rfl <| lx_nil <| ?_
      -- L0.1
      refine IH1 _ _ (i + 1) (agree_ups rfl agree_self) ⟨rfl, trivial⟩ ⟨rfl, ?_, ?_⟩ ?_
      · try dsimp only
        omega
      · try dsimp only
        intro j hj; by_cases e : j = i
        · subst e; have h9 := of_decide_eq_false c2; omega
        · exact he j (by omega)
      · first | omega | (dsimp only; omega)
  · refine lx_nil <| wi_seq <| wi_false rfl <| wi_exit rfl <| wi_seq <| wi_reg rfl <| lx_assign (.int .i64 (-1)) rfl rfl <| lx_nil <| ?_
    -- R2
    refine wi_ret ⟨.int .i64 (-1), (res_one rfl rfl), ⟨(-1), ?_, ?_, rfl⟩⟩
    · first | rfl | (simp; done) | (simp; omega)
    · exact .inl ⟨rfl, fun j hj => he j (by omega)⟩

set_option maxRecDepth 10000 in
theorem lcontains_spec (h : Heap) (vl : Value) (xs : List Int) (hr_vl : RdE encI h vl xs) (hp1 : xs.length ≤ 1000000) : Fx Try.prog 140 [vl, .func (.func 141) #[] #[]] h (fun v h' => v = .bool (!numB xs) ∧ h = h') := by
  refine fx_intro (n := 9) [(0, vl), (1, .func (.func 141) #[] #[])] Try.func140 rfl rfl (by simp) ⟨rfl, rfl, trivial⟩ fun g0 => ?_
  refine wi_seq <| wi_reg rfl <| lx_assign (.bool false) rfl rfl <| lx_nil <| wi_seq <| wi_reg rfl <| lx_move (vl) rfl rfl <| lx_move (.func (.func 141) #[] #[]) rfl rfl <| lx_call [vl, .func (.func 141) #[] #[]] rfl rfl Try.call171 rfl (lindex_spec h vl xs hr_vl (by omega)) (fun _ _ _ => trivial) ?_
  rintro _ h1 ⟨r_1, rfl, hr_1, rfl⟩
  refine lx_geq rfl rfl rfl <| lx_assign (.bool (decide ((0 : Int) ≤ r_1))) rfl rfl <| lx_nil <| ?_
  -- R1
  refine wi_ret ⟨.bool (decide ((0 : Int) ≤ r_1)), (res_one rfl rfl), ⟨?_, rfl⟩⟩
  · congr 1
    rcases hr_1 with ⟨h1, h2⟩ | ⟨h1, j, h2, h3⟩
    · rw [decide_eq_false (by omega), numB_iff.2 h2]; rfl
    · rw [decide_eq_true (by omega)]
      symm
      rw [Bool.not_eq_true', Bool.eq_false_iff]
      exact fun h => h3 (numB_iff.1 h j h2)

set_option maxRecDepth 10000 in
theorem checkList_spec (h : Heap) (vp : Value) (hs : List Hdr) (p : List (List Bool)) (vl : Value) (xs : List Int) (hr_vp : RdE encHd h vp hs) (ht_vp : RT encB h hs p) (hr_vl : RdE encI h vl xs) (hp1 : p.length ≤ 1000000) (hp2 : ∀ i, i < p.length → (gt p i).length ≤ 1000000) (hp3 : xs.length ≤ 1000000) : Fx Try.prog 107 [vp, vl] h (fun v h' => v = .int .i64 (lisE p xs) ∧ Ext h.size h h') := by
  have hl_vp := ht_vp.1
  refine fx_intro (n := 18) [(0, vp), (1, vl)] Try.func107 rfl rfl (by simp) ⟨rfl, rfl, trivial⟩ fun g0 => ?_
  refine wi_seq <| wi_reg rfl <| lx_assign (.int .i64 0) rfl rfl <| lx_nil <| wi_seq <| wi_seq <| wi_reg rfl <| lx_move (vp) rfl rfl <| lx_call [vp] rfl rfl Try.call62 rfl (ocheck_spec h vp hs p hr_vp ht_vp (by omega) (by first | with_reducible assumption | omega)) (fun _ _ _ => trivial) ?_
  rintro _ h1 ⟨rfl, hx1⟩
  refine lx_assign (.int .i64 (chkT p)) rfl rfl <| lx_nil <| wi_seq <| wi_reg rfl <| lx_move (.int .i64 (chkT p)) rfl rfl <| lx_neqS rfl rfl rfl (fun c1 => ?_) (fun c1 => ?_)
  · refine lx_nil <| wi_true rfl <| wi_seq <| wi_reg rfl <| lx_move (.int .i64 (chkT p)) rfl rfl <| lx_assign (.int .i64 (chkT p)) rfl rfl <| lx_nil <| ?_
    -- R1
    refine wi_ret ⟨.int .i64 (chkT p), (res_one rfl rfl), ⟨?_, hx1⟩⟩
    · rw [show lisE p xs = chkT p from if_neg (by omega)]
  · refine lx_nil <| wi_false rfl <| wi_skip <| wi_seq <| wi_seq <| wi_reg rfl <| lx_move (vl) rfl rfl <| lx_len rfl Try.underlying58 hr_vl rfl <| lx_move (vp) rfl rfl <| lx_len rfl Try.underlying29 hr_vp rfl <| lx_neqS rfl rfl rfl (fun c2 => ?_) (fun c2 => ?_)
    · refine lx_nil <| wi_true rfl <| wi_seq <| wi_reg rfl <| lx_assign (.int .i64 7) rfl rfl <| lx_nil <| ?_
      -- R2
      refine wi_ret ⟨.int .i64 7, (res_one rfl rfl), ⟨?_, hx1⟩⟩
      · congr 1; unfold lisE lstE; rw [if_pos (by omega), if_neg (by omega)]
    · refine lx_nil <| wi_false rfl <| wi_skip <| wi_seq <| wi_seq <| wi_reg rfl <| lx_move (vl) rfl rfl <| lx_call [vl, .func (.func 141) #[] #[]] rfl rfl Try.call140 rfl (lcontains_spec h1 vl xs (hr_vl.extS hx1) (by omega)) (fun _ _ _ => trivial) ?_
      rintro _ h2 ⟨rfl, rfl⟩
      refine lx_nil <| wi_condS (t := !numB xs) rfl (fun c3 => ?_) (fun c3 => ?_)
      · refine wi_seq <| wi_reg rfl <| lx_assign (.int .i64 1) rfl rfl <| lx_nil <| ?_
        -- R3
        refine wi_ret ⟨.int .i64 1, (res_one rfl rfl), ⟨?_, hx1⟩⟩
        · congr 1; unfold lisE lstE; rw [if_pos (by omega), if_pos (by omega), if_neg (by simpa using ‹(!numB xs) = true›)]
      · refine wi_skip <| wi_seq <| wi_reg rfl <| lx_assign (.int .i64 0) rfl rfl <| lx_nil <| ?_
        -- R4
        refine wi_ret ⟨.int .i64 0, (res_one rfl rfl), ⟨?_, hx1⟩⟩
        · congr 1; unfold lisE lstE; rw [if_pos (by omega), if_pos (by omega), if_pos (by simpa using ‹(!numB xs) = false›)]

set_option maxRecDepth 10000 in
theorem sumsE_spec (h : Heap) (vp : Value) (hs : List Hdr) (p : List (List Bool)) (vl : Value) (xs : List Int) (hr_vp : RdE encHd h vp hs) (ht_vp : RT encB h hs p) (hr_vl : RdE encI h vl xs) (hp1 : p.length ≤ 1000000) (hp2 : ∀ i, i < p.length → (gt p i).length ≤ 1000000) (hp3 : xs.length ≤ 1000000) (hp4 : chkT p ≠ 0) : Fx Try.prog 47 [vp, vl] h (fun v h' => v = .tuple #[.slice none 0 0, .int .i64 (chkT p)] ∧ Ext h.size h h') := by
  have hl_vp := ht_vp.1
  refine fx_intro (n := 49) [(0, vp), (1, vl)] Try.func47 rfl rfl (by simp) ⟨rfl, rfl, trivial⟩ fun g0 => ?_
  refine wi_seq <| wi_reg rfl <| lx_assign (.slice none 0 0) rfl rfl <| lx_assign (.int .i64 0) rfl rfl <| lx_nil <| wi_seq <| wi_seq <| wi_reg rfl <| lx_move (vp) rfl rfl <| lx_move (vl) rfl rfl <| lx_call [vp, vl] rfl rfl Try.call107 rfl (checkList_spec h vp hs p vl xs hr_vp ht_vp hr_vl (by omega) (by first | with_reducible assumption | omega) (by omega)) (fun _ _ _ => trivial) ?_
  rintro _ h1 ⟨rfl, hx1⟩
  refine lx_assign (.int .i64 (lisE p xs)) rfl rfl <| lx_nil <| wi_seq <| wi_reg rfl <| lx_move (.int .i64 (lisE p xs)) rfl rfl <| lx_neqT rfl rfl rfl (by rw [show lisE p xs = chkT p from if_neg hp4]; exact hp4) <| lx_nil <| wi_true rfl <| wi_seq <| wi_reg rfl <| lx_move (.int .i64 (lisE p xs)) rfl rfl <| lx_assign (.slice none 0 0) rfl rfl <| lx_assign (.int .i64 (lisE p xs)) rfl rfl <| lx_nil <| ?_
  -- R1
  refine wi_ret ⟨.tuple #[.slice none 0 0, .int .i64 (lisE p xs)], (res_two rfl rfl rfl), ⟨?_, hx1⟩⟩
  · rw [show lisE p xs = chkT p from if_neg hp4]

set_option maxRecDepth 10000 in
theorem diffE_spec (h : Heap) (vp : Value) (hs : List Hdr) (p : List (List Bool)) (vl : Value) (xs : List Int) (hr_vp : RdE encHd h vp hs) (ht_vp : RT encB h hs p) (hr_vl : RdE encI h vl xs) (hp1 : p.length ≤ 1000000) (hp2 : ∀ i, i < p.length → (gt p i).length ≤ 1000000) (hp3 : xs.length ≤ 1000000) (hp4 : chkT p ≠ 0) : Fx Try.prog 48 [vp, vl] h (fun v h' => v = .tuple #[.slice none 0 0, .int .i64 (chkT p)] ∧ Ext h.size h h') := by
  have hl_vp := ht_vp.1
  refine fx_intro (n := 53) [(0, vp), (1, vl)] Try.func48 rfl rfl (by simp) ⟨rfl, rfl, trivial⟩ fun g0 => ?_
  refine wi_seq <| wi_reg rfl <| lx_assign (.slice none 0 0) rfl rfl <| lx_assign (.int .i64 0) rfl rfl <| lx_nil <| wi_seq <| wi_seq <| wi_reg rfl <| lx_move (vp) rfl rfl <| lx_move (vl) rfl rfl <| lx_call [vp, vl] rfl rfl Try.call107 rfl (checkList_spec h vp hs p vl xs hr_vp ht_vp hr_vl (by omega) (by first | with_reducible assumption | omega) (by omega)) (fun _ _ _ => trivial) ?_
  rintro _ h1 ⟨rfl, hx1⟩
  refine lx_assign (.int .i64 (lisE p xs)) rfl rfl <| lx_nil <| wi_seq <| wi_reg rfl <| lx_move (.int .i64 (lisE p xs)) rfl rfl <| lx_neqT rfl rfl rfl (by rw [show lisE p xs = chkT p from if_neg hp4]; exact hp4) <| lx_nil <| wi_true rfl <| wi_seq <| wi_reg rfl <| lx_move (.int .i64 (lisE p xs)) rfl rfl <| lx_assign (.slice none 0 0) rfl rfl <| lx_assign (.int .i64 (lisE p xs)) rfl rfl <| lx_nil <| ?_
  -- R1
  refine wi_ret ⟨.tuple #[.slice none 0 0, .int .i64 (lisE p xs)], (res_two rfl rfl rfl), ⟨?_, hx1⟩⟩
  · rw [show lisE p xs = chkT p from if_neg hp4]

set_option maxRecDepth 10000 in
theorem chainsE_spec (h : Heap) (vp : Value) (hs : List Hdr) (p : List (List Bool)) (x : Int) (y : Int) (hr_vp : RdE encHd h vp hs) (ht_vp : RT encB h hs p) (hp1 : p.length ≤ 1000000) (hp2 : ∀ i, i < p.length → (gt p i).length ≤ 1000000) (hp3 : chkT p ≠ 0) : Fx Try.prog 50 [vp, .int .i64 x, .int .i64 y] h (fun v h' => v = .tuple #[.slice none 0 0, .int .i64 (chkT p)] ∧ Ext h.size h h') := by
  have hl_vp := ht_vp.1
  refine fx_intro (n := 50) [(0, vp), (1, .int .i64 x), (2, .int .i64 y)] Try.func50 rfl rfl (by simp) ⟨rfl, rfl, rfl, trivial⟩ fun g0 => ?_
  refine wi_seq <| wi_reg rfl <| lx_assign (.slice none 0 0) rfl rfl <| lx_assign (.int .i64 0) rfl rfl <| lx_nil <| wi_seq <| wi_seq <| wi_reg rfl <| lx_move (vp) rfl rfl <| lx_call [vp] rfl rfl Try.call62 rfl (ocheck_spec h vp hs p hr_vp ht_vp (by omega) (by first | with_reducible assumption | omega)) (fun _ _ _ => trivial) ?_
  rintro _ h1 ⟨rfl, hx1⟩
  refine lx_assign (.int .i64 (chkT p)) rfl rfl <| lx_nil <| wi_seq <| wi_reg rfl <| lx_move (.int .i64 (chkT p)) rfl rfl <| lx_neqT rfl rfl rfl hp3 <| lx_nil <| wi_true rfl <| wi_seq <| wi_reg rfl <| lx_move (.int .i64 (chkT p)) rfl rfl <| lx_assign (.slice none 0 0) rfl rfl <| lx_assign (.int .i64 (chkT p)) rfl rfl <| lx_nil <| ?_
  -- R1
  refine wi_ret ⟨.tuple #[.slice none 0 0, .int .i64 (chkT p)], (res_two rfl rfl rfl), ⟨rfl, hx1⟩⟩

set_option maxRecDepth 10000 in
theorem eulerE_spec (h : Heap) (vp : Value) (hs : List Hdr) (p : List (List Bool)) (hr_vp : RdE encHd h vp hs) (ht_vp : RT encB h hs p) (hp1 : p.length ≤ 1000000) (hp2 : ∀ i, i < p.length → (gt p i).length ≤ 1000000) (hp3 : chkT p ≠ 0) : Fx Try.prog 46 [vp] h (fun v h' => v = .tuple #[.int .i64 0, .int .i64 (chkT p)] ∧ Ext h.size h h') := by
  have hl_vp := ht_vp.1
  refine fx_intro (n := 50) [(0, vp)] Try.func46 rfl rfl (by simp) ⟨rfl, trivial⟩ fun g0 => ?_
  refine wi_seq <| wi_reg rfl <| lx_box #[vp] rfl rfl (sl_cells hr_vp) (fun _ _ _ => trivial) fun bn1 h1 hbn1 hbk1 hx1 hsz1 => ?_
  have hbb1 : h.size ≤ bn1 := by have := (Nat.le_refl h.size); omega
  refine lx_assign (.int .i64 0) rfl rfl <| lx_assign (.int .i64 0) rfl rfl <| lx_nil <| wi_seq <| wi_seq <| wi_reg rfl <| lx_ldB (vp) rfl rfl fl29 hbk1 rfl rfl <| lx_call [vp] rfl rfl Try.call62 rfl (ocheck_spec h1 vp hs p (hr_vp.extS hx1) (ht_vp.extS hx1) (by omega) (by first | with_reducible assumption | omega)) (fun _ _ _ => trivial) ?_
  rintro _ h2 ⟨rfl, hx2⟩
  have hx0_1 := hx1.trans2 hx2 hx1.size
  have hb1 := hbk1.extS hx2
  refine lx_assign (.int .i64 (chkT p)) rfl rfl <| lx_nil <| wi_seq <| wi_reg rfl <| lx_move (.int .i64 (chkT p)) rfl rfl <| lx_neqT rfl rfl rfl hp3 <| lx_nil <| wi_true rfl <| wi_seq <| wi_reg rfl <| lx_move (.int .i64 (chkT p)) rfl rfl <| lx_assign (.int .i64 0) rfl rfl <| lx_assign (.int .i64 (chkT p)) rfl rfl <| lx_nil <| ?_
  -- R1
  refine wi_ret ⟨.tuple #[.int .i64 0, .int .i64 (chkT p)], (res_two rfl rfl rfl), ⟨rfl, hx0_1⟩⟩

end Go.Proofs.Ytdokijbdnajhgaa
namespace Go.Proofs.Ytdokijbdnajhgaa
open Go Go.X

set_option maxRecDepth 10000 in
theorem coversE_spec (h : Heap) (vp : Value) (hs : List Hdr) (p : List (List Bool)) (hr_vp : RdE encHd h vp hs) (ht_vp : RT encB h hs p) (hp1 : p.length ≤ 1000000) (hp2 : ∀ i, i < p.length → (gt p i).length ≤ 1000000) (hp3 : chkT p ≠ 0) : Fx Try.prog 52 [vp] h (fun v h' => v = .tuple #[.slice none 0 0, .int .i64 (chkT p)] ∧ Ext h.size h h') := by
  have hl_vp := ht_vp.1
  refine fx_intro (n := 36) [(0, vp)] Try.func52 rfl rfl (by simp) ⟨rfl, trivial⟩ fun g0 => ?_
  refine wi_seq <| wi_reg rfl <| lx_assign (.slice none 0 0) rfl rfl <| lx_assign (.int .i64 0) rfl rfl <| lx_nil <| wi_seq <| wi_seq <| wi_reg rfl <| lx_move (vp) rfl rfl <| lx_call [vp] rfl rfl Try.call62 rfl (ocheck_spec h vp hs p hr_vp ht_vp (by omega) (by first | with_reducible assumption | omega)) (fun _ _ _ => trivial) ?_
  rintro _ h1 ⟨rfl, hx1⟩
  refine lx_assign (.int .i64 (chkT p)) rfl rfl <| lx_nil <| wi_seq <| wi_reg rfl <| lx_move (.int .i64 (chkT p)) rfl rfl <| lx_neqT rfl rfl rfl hp3 <| lx_nil <| wi_true rfl <| wi_seq <| wi_reg rfl <| lx_move (.int .i64 (chkT p)) rfl rfl <| lx_assign (.slice none 0 0) rfl rfl <| lx_assign (.int .i64 (chkT p)) rfl rfl <| lx_nil <| ?_
  -- R1
  refine wi_ret ⟨.tuple #[.slice none 0 0, .int .i64 (chkT p)], (res_two rfl rfl rfl), ⟨rfl, hx1⟩⟩

set_option maxRecDepth 10000 in
theorem moebiusE_spec (h : Heap) (vp : Value) (hs : List Hdr) (p : List (List Bool)) (hr_vp : RdE encHd h vp hs) (ht_vp : RT encB h hs p) (hp1 : p.length ≤ 1000000) (hp2 : ∀ i, i < p.length → (gt p i).length ≤ 1000000) (hp3 : chkT p ≠ 0) : Fx Try.prog 49 [vp] h (fun v h' => v = .tuple #[.slice none 0 0, .int .i64 (chkT p)] ∧ Ext h.size h h') := by
  have hl_vp := ht_vp.1
  refine fx_intro (n := 12) [(0, vp)] Try.func49 rfl rfl (by simp) ⟨rfl, trivial⟩ fun g0 => ?_
  refine wi_seq <| wi_reg rfl <| lx_assign (.slice none 0 0) rfl rfl <| lx_assign (.int .i64 0) rfl rfl <| lx_nil <| wi_seq <| wi_seq <| wi_reg rfl <| lx_move (vp) rfl rfl <| lx_call [vp] rfl rfl Try.call62 rfl (ocheck_spec h vp hs p hr_vp ht_vp (by omega) (by first | with_reducible assumption | omega)) (fun _ _ _ => trivial) ?_
  rintro _ h1 ⟨rfl, hx1⟩
  refine lx_assign (.int .i64 (chkT p)) rfl rfl <| lx_nil <| wi_seq <| wi_reg rfl <| lx_move (.int .i64 (chkT p)) rfl rfl <| lx_neqT rfl rfl rfl hp3 <| lx_nil <| wi_true rfl <| wi_seq <| wi_reg rfl <| lx_move (.int .i64 (chkT p)) rfl rfl <| lx_assign (.slice none 0 0) rfl rfl <| lx_assign (.int .i64 (chkT p)) rfl rfl <| lx_nil <| ?_
  -- R1
  refine wi_ret ⟨.tuple #[.slice none 0 0, .int .i64 (chkT p)], (res_two rfl rfl rfl), ⟨rfl, hx1⟩⟩

set_option maxRecDepth 10000 in
theorem idealsE_spec (h : Heap) (vp : Value) (hs : List Hdr) (p : List (List Bool)) (hr_vp : RdE encHd h vp hs) (ht_vp : RT encB h hs p) (hp1 : p.length ≤ 1000000) (hp2 : ∀ i, i < p.length → (gt p i).length ≤ 1000000) (hp3 : chkT p ≠ 0) : Fx Try.prog 16 [vp] h (fun v h' => v = .tuple #[.slice none 0 0, .int .i64 (chkT p)] ∧ Ext h.size h h') := by
  have hl_vp := ht_vp.1
  refine fx_intro (n := 12) [(0, vp)] Try.func16 rfl rfl (by simp) ⟨rfl, trivial⟩ fun g0 => ?_
  refine wi_seq <| wi_reg rfl <| lx_assign (.slice none 0 0) rfl rfl <| lx_assign (.int .i64 0) rfl rfl <| lx_nil <| wi_seq <| wi_seq <| wi_reg rfl <| lx_move (vp) rfl rfl <| lx_call [vp] rfl rfl Try.call62 rfl (ocheck_spec h vp hs p hr_vp ht_vp (by omega) (by first | with_reducible assumption | omega)) (fun _ _ _ => trivial) ?_
  rintro _ h1 ⟨rfl, hx1⟩
  refine lx_assign (.int .i64 (chkT p)) rfl rfl <| lx_nil <| wi_seq <| wi_reg rfl <| lx_move (.int .i64 (chkT p)) rfl rfl <| lx_neqT rfl rfl rfl hp3 <| lx_nil <| wi_true rfl <| wi_seq <| wi_reg rfl <| lx_move (.int .i64 (chkT p)) rfl rfl <| lx_assign (.slice none 0 0) rfl rfl <| lx_assign (.int .i64 (chkT p)) rfl rfl <| lx_nil <| ?_
  -- R1
  refine wi_ret ⟨.tuple #[.slice none 0 0, .int .i64 (chkT p)], (res_two rfl rfl rfl), ⟨rfl, hx1⟩⟩

set_option maxRecDepth 10000 in
theorem idealOrderE_spec (h : Heap) (vp : Value) (hs : List Hdr) (p : List (List Bool)) (hr_vp : RdE encHd h vp hs) (ht_vp : RT encB h hs p) (hp1 : p.length ≤ 1000000) (hp2 : ∀ i, i < p.length → (gt p i).length ≤ 1000000) (hp3 : chkT p ≠ 0) : Fx Try.prog 17 [vp] h (fun v h' => v = .tuple #[.slice none 0 0, .int .i64 (chkT p)] ∧ Ext h.size h h') := by
  have hl_vp := ht_vp.1
  refine fx_intro (n := 18) [(0, vp)] Try.func17 rfl rfl (by simp) ⟨rfl, trivial⟩ fun g0 => ?_
  refine wi_seq <| wi_reg rfl <| lx_assign (.slice none 0 0) rfl rfl <| lx_assign (.int .i64 0) rfl rfl <| lx_nil <| wi_seq <| wi_seq <| wi_reg rfl <| lx_move (vp) rfl rfl <| lx_call [vp] rfl rfl Try.call62 rfl (ocheck_spec h vp hs p hr_vp ht_vp (by omega) (by first | with_reducible assumption | omega)) (fun _ _ _ => trivial) ?_
  rintro _ h1 ⟨rfl, hx1⟩
  refine lx_assign (.int .i64 (chkT p)) rfl rfl <| lx_nil <| wi_seq <| wi_reg rfl <| lx_move (.int .i64 (chkT p)) rfl rfl <| lx_neqT rfl rfl rfl hp3 <| lx_nil <| wi_true rfl <| wi_seq <| wi_reg rfl <| lx_move (.int .i64 (chkT p)) rfl rfl <| lx_assign (.slice none 0 0) rfl rfl <| lx_assign (.int .i64 (chkT p)) rfl rfl <| lx_nil <| ?_
  -- R1
  refine wi_ret ⟨.tuple #[.slice none 0 0, .int .i64 (chkT p)], (res_two rfl rfl rfl), ⟨rfl, hx1⟩⟩

set_option maxRecDepth 10000 in
theorem latticeE_spec (h : Heap) (vp : Value) (hs : List Hdr) (p : List (List Bool)) (hr_vp : RdE encHd h vp hs) (ht_vp : RT encB h hs p) (hp1 : p.length ≤ 1000000) (hp2 : ∀ i, i < p.length → (gt p i).length ≤ 1000000) (hp3 : chkT p ≠ 0) : Fx Try.prog 29 [vp] h (fun v h' => v = .tuple #[.slice none 0 0, .slice none 0 0, .bool false, .int .i64 (chkT p)] ∧ Ext h.size h h') := by
  have hl_vp := ht_vp.1
  refine fx_intro (n := 29) [(0, vp)] Try.func29 rfl rfl (by simp) ⟨rfl, trivial⟩ fun g0 => ?_
  refine wi_seq <| wi_reg rfl <| lx_assign (.slice none 0 0) rfl rfl <| lx_assign (.slice none 0 0) rfl rfl <| lx_assign (.bool false) rfl rfl <| lx_assign (.int .i64 0) rfl rfl <| lx_nil <| wi_seq <| wi_seq <| wi_reg rfl <| lx_move (vp) rfl rfl <| lx_call [vp] rfl rfl Try.call62 rfl (ocheck_spec h vp hs p hr_vp ht_vp (by omega) (by first | with_reducible assumption | omega)) (fun _ _ _ => trivial) ?_
  rintro _ h1 ⟨rfl, hx1⟩
  refine lx_assign (.int .i64 (chkT p)) rfl rfl <| lx_nil <| wi_seq <| wi_reg rfl <| lx_move (.int .i64 (chkT p)) rfl rfl <| lx_neqT rfl rfl rfl hp3 <| lx_nil <| wi_true rfl <| wi_seq <| wi_reg rfl <| lx_move (.int .i64 (chkT p)) rfl rfl <| lx_assign (.slice none 0 0) rfl rfl <| lx_assign (.slice none 0 0) rfl rfl <| lx_assign (.bool false) rfl rfl <| lx_assign (.int .i64 (chkT p)) rfl rfl <| lx_nil <| ?_
  -- R1
  refine wi_ret ⟨.tuple #[.slice none 0 0, .slice none 0 0, .bool false, .int .i64 (chkT p)], (res_four rfl rfl rfl rfl rfl), ⟨rfl, hx1⟩⟩

set_option maxRecDepth 10000 in
theorem gapE_spec (h : Heap) (vp : Value) (hs : List Hdr) (p : List (List Bool)) (hr_vp : RdE encHd h vp hs) (ht_vp : RT encB h hs p) (hp1 : p.length ≤ 1000000) (hp2 : ∀ i, i < p.length → (gt p i).length ≤ 1000000) (hp3 : chkT p ≠ 0) : Fx Try.prog 30 [vp] h (fun v h' => v = .tuple #[.int .i64 0, .int .i64 0, .bool false, .int .i64 (chkT p)] ∧ Ext h.size h h') := by
  have hl_vp := ht_vp.1
  refine fx_intro (n := 25) [(0, vp)] Try.func30 rfl rfl (by simp) ⟨rfl, trivial⟩ fun g0 => ?_
  refine wi_seq <| wi_reg rfl <| lx_assign (.int .i64 0) rfl rfl <| lx_assign (.int .i64 0) rfl rfl <| lx_assign (.bool false) rfl rfl <| lx_assign (.int .i64 0) rfl rfl <| lx_nil <| wi_seq <| wi_seq <| wi_reg rfl <| lx_move (vp) rfl rfl <| lx_call [vp] rfl rfl Try.call62 rfl (ocheck_spec h vp hs p hr_vp ht_vp (by omega) (by first | with_reducible assumption | omega)) (fun _ _ _ => trivial) ?_
  rintro _ h1 ⟨rfl, hx1⟩
  refine lx_assign (.int .i64 (chkT p)) rfl rfl <| lx_nil <| wi_seq <| wi_reg rfl <| lx_move (.int .i64 (chkT p)) rfl rfl <| lx_neqT rfl rfl rfl hp3 <| lx_nil <| wi_true rfl <| wi_seq <| wi_reg rfl <| lx_move (.int .i64 (chkT p)) rfl rfl <| lx_assign (.int .i64 0) rfl rfl <| lx_assign (.int .i64 0) rfl rfl <| lx_assign (.bool false) rfl rfl <| lx_assign (.int .i64 (chkT p)) rfl rfl <| lx_nil <| ?_
  -- R1
  refine wi_ret ⟨.tuple #[.int .i64 0, .int .i64 0, .bool false, .int .i64 (chkT p)], (res_four rfl rfl rfl rfl rfl), ⟨rfl, hx1⟩⟩

set_option maxRecDepth 10000 in
theorem joinElsE_spec (h : Heap) (vp : Value) (hs : List Hdr) (p : List (List Bool)) (hr_vp : RdE encHd h vp hs) (ht_vp : RT encB h hs p) (hp1 : p.length ≤ 1000000) (hp2 : ∀ i, i < p.length → (gt p i).length ≤ 1000000) (hp3 : chkT p ≠ 0) : Fx Try.prog 32 [vp] h (fun v h' => v = .tuple #[.slice none 0 0, .int .i64 (chkT p)] ∧ Ext h.size h h') := by
  have hl_vp := ht_vp.1
  refine fx_intro (n := 16) [(0, vp)] Try.func32 rfl rfl (by simp) ⟨rfl, trivial⟩ fun g0 => ?_
  refine wi_seq <| wi_reg rfl <| lx_assign (.slice none 0 0) rfl rfl <| lx_assign (.int .i64 0) rfl rfl <| lx_nil <| wi_seq <| wi_seq <| wi_reg rfl <| lx_move (vp) rfl rfl <| lx_call [vp] rfl rfl Try.call92 rfl (open_spec h vp hs p hr_vp ht_vp (by omega) (by first | with_reducible assumption | omega)) (fun _ _ _ => trivial) ?_
  rintro _ h1 ⟨v1, v2, h1_1, h2_1, rj_1, rm_1, rfl, ho1, hot1, ho2, hot2, hop_1, hx1⟩
  have ho3 := ho1.base (Nat.le_refl h.size)
  have hot3 := hot1.base (Nat.le_refl h.size)
  have hl_hot3 := hot3.1
  have ho4 := ho2.base (Nat.le_refl h.size)
  have hot4 := hot2.base (Nat.le_refl h.size)
  have hl_hot4 := hot4.1
  refine lx_move (.tuple #[.agg #[v1, v2], .int .i64 (opnC p)]) rfl rfl <| lx_extract (.agg #[v1, v2]) rfl rfl rfl <| lx_extract (.int .i64 (opnC p)) rfl rfl rfl <| lx_alloc rfl rfl Try.zeroValue119 (fun _ _ _ => trivial) fun bn1 h2 hbn1 hbk1 hx2 hsz1 => ?_
  have hbb1 : h.size ≤ bn1 := by have := hx1.size; omega
  have hdj1 : Value.ownBlock v1 ≠ some bn1 := by intro e; have := (ho3.lt e).2; omega
  have hnb1 : Nbt h1_1 bn1 := nbt_new hot3 (by omega)
  have hdj2 : Value.ownBlock v2 ≠ some bn1 := by intro e; have := (ho4.lt e).2; omega
  have hnb2 : Nbt h2_1 bn1 := nbt_new hot4 (by omega)
  have hx0_1 := hx1.trans2 hx2 hx1.size
  have ho5 := ho3.extS hx2
  have hot5 := hot3.extS hx2
  have ho6 := ho4.extS hx2
  have hot6 := hot4.extS hx2
  have hbk1 : Blk h2 bn1 #[.slice none 0 0, .slice none 0 0] 119 := hbk1
  refine lx_stBA (#[v1, v2]) rfl rfl Try.sizeOf119 hbk1 rfl rfl rfl rfl (one2 (sl_one ho5.rd) (sl_one ho6.rd)) (fun _ _ _ _ => trivial) fun h3 hbk2 hc1 => ?_
  have hx0_2 := hx0_1.trans (hc1.ext hbb1)
  have ho7 := hc1.owE ho5 hdj1
  have hot7 := hot5.chgB hc1 hnb1
  have ho8 := hc1.owE ho6 hdj2
  have hot8 := hot6.chgB hc1 hnb2
  refine lx_assign (.int .i64 (opnC p)) rfl rfl <| lx_nil <| wi_seq <| wi_reg rfl <| lx_move (.int .i64 (opnC p)) rfl rfl <| lx_neqT rfl rfl rfl (by rw [opnC_bad hp3]; exact hp3) <| lx_nil <| wi_true rfl <| wi_seq <| wi_reg rfl <| lx_move (.int .i64 (opnC p)) rfl rfl <| lx_assign (.slice none 0 0) rfl rfl <| lx_assign (.int .i64 (opnC p)) rfl rfl <| lx_nil <| ?_
  -- R1
  refine wi_ret ⟨.tuple #[.slice none 0 0, .int .i64 (opnC p)], (res_two rfl rfl rfl), ⟨?_, hx0_2⟩⟩
  · rw [opnC_bad hp3]

set_option maxRecDepth 10000 in
theorem badE_spec (h : Heap) (vp : Value) (hs : List Hdr) (p : List (List Bool)) (hr_vp : RdE encHd h vp hs) (ht_vp : RT encB h hs p) (hp1 : p.length ≤ 1000000) (hp2 : ∀ i, i < p.length → (gt p i).length ≤ 1000000) (hp3 : chkT p ≠ 0) : Fx Try.prog 33 [vp] h (fun v h' => v = .tuple #[.agg #[.int .i64 0, .int .i64 0, .int .i64 0, .int .i64 0, .int .i64 0], .bool false, .int .i64 (chkT p)] ∧ Ext h.size h h') := by
  have hl_vp := ht_vp.1
  refine fx_intro (n := 26) [(0, vp)] Try.func33 rfl rfl (by simp) ⟨rfl, trivial⟩ fun g0 => ?_
  refine wi_seq <| wi_reg rfl <| lx_alloc rfl rfl Try.zeroValue48 (fun _ _ _ => trivial) fun bn1 h1 hbn1 hbk1 hx1 hsz1 => ?_
  have hbb1 : h.size ≤ bn1 := by have := (Nat.le_refl h.size); omega
  have hbk1 : Blk h1 bn1 #[.int .i64 0, .int .i64 0, .int .i64 0, .int .i64 0, .int .i64 0] 48 := hbk1
  refine lx_assign (.bool false) rfl rfl <| lx_assign (.int .i64 0) rfl rfl <| lx_nil <| wi_seq <| wi_reg rfl <| lx_move (vp) rfl rfl <| lx_call [vp] rfl rfl Try.call92 rfl (open_spec h1 vp hs p (hr_vp.extS hx1) (ht_vp.extS hx1) (by omega) (by first | with_reducible assumption | omega)) (fun _ _ _ => trivial) ?_
  rintro _ h2 ⟨v1, v2, h1_1, h2_1, rj_1, rm_1, rfl, ho1, hot1, ho2, hot2, hop_1, hx2⟩
  have hx0_1 := hx1.trans2 hx2 hx1.size
  have hb1 := hbk1.extS hx2
  have ho3 := ho1.base hx1.size
  have hot3 := hot1.base hx1.size
  have hl_hot3 := hot3.1
  have ho4 := ho2.base hx1.size
  have hot4 := hot2.base hx1.size
  have hl_hot4 := hot4.1
  refine lx_move (.tuple #[.agg #[v1, v2], .int .i64 (opnC p)]) rfl rfl <| lx_extract (.agg #[v1, v2]) rfl rfl rfl <| lx_extract (.int .i64 (opnC p)) rfl rfl rfl <| lx_alloc rfl rfl Try.zeroValue119 (fun _ _ _ => trivial) fun bn2 h3 hbn2 hbk2 hx3 hsz2 => ?_
  have hbb2 : h.size ≤ bn2 := by have := hx0_1.size; omega
  have hne1 : bn2 ≠ bn1 := by have := hb1.lt; omega
  have hdj1 : Value.ownBlock v1 ≠ some bn2 := by intro e; have := (ho3.lt e).2; omega
  have hnb1 : Nbt h1_1 bn2 := nbt_new hot3 (by omega)
  have hdj2 : Value.ownBlock v2 ≠ some bn2 := by intro e; have := (ho4.lt e).2; omega
  have hnb2 : Nbt h2_1 bn2 := nbt_new hot4 (by omega)
  have hx0_2 := hx0_1.trans2 hx3 hx0_1.size
  have ho5 := ho3.extS hx3
  have hot5 := hot3.extS hx3
  have ho6 := ho4.extS hx3
  have hot6 := hot4.extS hx3
  have hb2 := hb1.extS hx3
  have hbk2 : Blk h3 bn2 #[.slice none 0 0, .slice none 0 0] 119 := hbk2
  refine lx_stBA (#[v1, v2]) rfl rfl Try.sizeOf119 hbk2 rfl rfl rfl rfl (one2 (sl_one ho5.rd) (sl_one ho6.rd)) (fun _ _ _ _ => trivial) fun h4 hbk3 hc1 => ?_
  have hx0_3 := hx0_2.trans (hc1.ext hbb2)
  have ho7 := hc1.owE ho5 hdj1
  have hot7 := hot5.chgB hc1 hnb1
  have ho8 := hc1.owE ho6 hdj2
  have hot8 := hot6.chgB hc1 hnb2
  have hb3 := hc1.blk hb2 (Ne.symm hne1)
  refine lx_assign (.int .i64 (opnC p)) rfl rfl <| lx_nil <| wi_seq <| wi_seq <| wi_reg rfl <| lx_move (.int .i64 (opnC p)) rfl rfl <| lx_neqT rfl rfl rfl (by rw [opnC_bad hp3]; exact hp3) <| lx_nil <| wi_true rfl <| wi_seq <| wi_reg rfl <| lx_build (.agg #[.int .i64 0, .int .i64 0, .int .i64 0, .int .i64 0, .int .i64 0]) [] rfl rfl (fun w => bld5z Try.underlying48 Try.zeroValue48 Try.sizeOf3 w) <| lx_move (.int .i64 (opnC p)) rfl rfl <| lx_stBA (#[.int .i64 0, .int .i64 0, .int .i64 0, .int .i64 0, .int .i64 0]) rfl rfl Try.sizeOf48 hb3 rfl rfl rfl rfl (by simp [Value.oneCell']) (fun _ _ _ _ => trivial) fun h5 hbk4 hc2 => ?_
  have hx0_4 := hx0_3.trans (hc2.ext hbb1)
  have ho9 := hc2.owE ho7 (nb_new hbk1 ho1)
  have hot9 := hot7.chgB hc2 (nbt_ty hot7 hb3 (by decide))
  have ho10 := hc2.owE ho8 (nb_new hbk1 ho2)
  have hot10 := hot8.chgB hc2 (nbt_ty hot8 hb3 (by decide))
  have hb4 := hc2.blk hbk3 hne1
  refine lx_assign (.bool false) rfl rfl <| lx_assign (.int .i64 (opnC p)) rfl rfl <| lx_nil <| ?_
  -- R1
  refine wi_ret ⟨.tuple #[.agg #[.int .i64 0, .int .i64 0, .int .i64 0, .int .i64 0, .int .i64 0], .bool false, .int .i64 (opnC p)], (res_cell3 rfl rfl hbk4 wd48 rfl rfl rfl), ⟨?_, hx0_4⟩⟩
  · rw [opnC_bad hp3]

set_option maxRecDepth 10000 in
theorem birkE_spec (h : Heap) (vp : Value) (hs : List Hdr) (p : List (List Bool)) (hr_vp : RdE encHd h vp hs) (ht_vp : RT encB h hs p) (hp1 : p.length ≤ 1000000) (hp2 : ∀ i, i < p.length → (gt p i).length ≤ 1000000) (hp3 : chkT p ≠ 0) : Fx Try.prog 34 [vp] h (fun v h' => v = .tuple #[.slice none 0 0, .int .i64 (chkT p)] ∧ Ext h.size h h') := by
  have hl_vp := ht_vp.1
  refine fx_intro (n := 62) [(0, vp)] Try.func34 rfl rfl (by simp) ⟨rfl, trivial⟩ fun g0 => ?_
  refine wi_seq <| wi_reg rfl <| lx_assign (.slice none 0 0) rfl rfl <| lx_assign (.int .i64 0) rfl rfl <| lx_nil <| wi_seq <| wi_reg rfl <| lx_move (vp) rfl rfl <| lx_call [vp] rfl rfl Try.call92 rfl (open_spec h vp hs p hr_vp ht_vp (by omega) (by first | with_reducible assumption | omega)) (fun _ _ _ => trivial) ?_
  rintro _ h1 ⟨v1, v2, h1_1, h2_1, rj_1, rm_1, rfl, ho1, hot1, ho2, hot2, hop_1, hx1⟩
  have ho3 := ho1.base (Nat.le_refl h.size)
  have hot3 := hot1.base (Nat.le_refl h.size)
  have hl_hot3 := hot3.1
  have ho4 := ho2.base (Nat.le_refl h.size)
  have hot4 := hot2.base (Nat.le_refl h.size)
  have hl_hot4 := hot4.1
  refine lx_move (.tuple #[.agg #[v1, v2], .int .i64 (opnC p)]) rfl rfl <| lx_extract (.agg #[v1, v2]) rfl rfl rfl <| lx_extract (.int .i64 (opnC p)) rfl rfl rfl <| lx_alloc rfl rfl Try.zeroValue119 (fun _ _ _ => trivial) fun bn1 h2 hbn1 hbk1 hx2 hsz1 => ?_
  have hbb1 : h.size ≤ bn1 := by have := hx1.size; omega
  have hdj1 : Value.ownBlock v1 ≠ some bn1 := by intro e; have := (ho3.lt e).2; omega
  have hnb1 : Nbt h1_1 bn1 := nbt_new hot3 (by omega)
  have hdj2 : Value.ownBlock v2 ≠ some bn1 := by intro e; have := (ho4.lt e).2; omega
  have hnb2 : Nbt h2_1 bn1 := nbt_new hot4 (by omega)
  have hx0_1 := hx1.trans2 hx2 hx1.size
  have ho5 := ho3.extS hx2
  have hot5 := hot3.extS hx2
  have ho6 := ho4.extS hx2
  have hot6 := hot4.extS hx2
  have hbk1 : Blk h2 bn1 #[.slice none 0 0, .slice none 0 0] 119 := hbk1
  refine lx_stBA (#[v1, v2]) rfl rfl Try.sizeOf119 hbk1 rfl rfl rfl rfl (one2 (sl_one ho5.rd) (sl_one ho6.rd)) (fun _ _ _ _ => trivial) fun h3 hbk2 hc1 => ?_
  have hx0_2 := hx0_1.trans (hc1.ext hbb1)
  have ho7 := hc1.owE ho5 hdj1
  have hot7 := hot5.chgB hc1 hnb1
  have ho8 := hc1.owE ho6 hdj2
  have hot8 := hot6.chgB hc1 hnb2
  refine lx_assign (.int .i64 (opnC p)) rfl rfl <| lx_nil <| wi_seq <| wi_seq <| wi_reg rfl <| lx_move (.int .i64 (opnC p)) rfl rfl <| lx_neqT rfl rfl rfl (by rw [opnC_bad hp3]; exact hp3) <| lx_nil <| wi_true rfl <| wi_seq <| wi_reg rfl <| lx_move (.int .i64 (opnC p)) rfl rfl <| lx_assign (.slice none 0 0) rfl rfl <| lx_assign (.int .i64 (opnC p)) rfl rfl <| lx_nil <| ?_
  -- R1
  refine wi_ret ⟨.tuple #[.slice none 0 0, .int .i64 (opnC p)], (res_two rfl rfl rfl), ⟨?_, hx0_2⟩⟩
  · rw [opnC_bad hp3]

set_option maxRecDepth 10000 in
theorem completionE_spec (h : Heap) (vp : Value) (hs : List Hdr) (p : List (List Bool)) (hr_vp : RdE encHd h vp hs) (ht_vp : RT encB h hs p) (hp1 : p.length ≤ 1000000) (hp2 : ∀ i, i < p.length → (gt p i).length ≤ 1000000) (hp3 : chkT p ≠ 0) : Fx Try.prog 23 [vp] h (fun v h' => v = .tuple #[.slice none 0 0, .slice none 0 0, .slice none 0 0, .int .i64 (chkT p)] ∧ Ext h.size h h') := by
  have hl_vp := ht_vp.1
  refine fx_intro (n := 75) [(0, vp)] Try.func23 rfl rfl (by simp) ⟨rfl, trivial⟩ fun g0 => ?_
  refine wi_seq <| wi_reg rfl <| lx_assign (.slice none 0 0) rfl rfl <| lx_assign (.slice none 0 0) rfl rfl <| lx_assign (.slice none 0 0) rfl rfl <| lx_assign (.int .i64 0) rfl rfl <| lx_nil <| wi_seq <| wi_seq <| wi_reg rfl <| lx_move (vp) rfl rfl <| lx_call [vp] rfl rfl Try.call62 rfl (ocheck_spec h vp hs p hr_vp ht_vp (by omega) (by first | with_reducible assumption | omega)) (fun _ _ _ => trivial) ?_
  rintro _ h1 ⟨rfl, hx1⟩
  refine lx_assign (.int .i64 (chkT p)) rfl rfl <| lx_nil <| wi_seq <| wi_reg rfl <| lx_move (.int .i64 (chkT p)) rfl rfl <| lx_neqT rfl rfl rfl hp3 <| lx_nil <| wi_true rfl <| wi_seq <| wi_reg rfl <| lx_move (.int .i64 (chkT p)) rfl rfl <| lx_assign (.slice none 0 0) rfl rfl <| lx_assign (.slice none 0 0) rfl rfl <| lx_assign (.slice none 0 0) rfl rfl <| lx_assign (.int .i64 (chkT p)) rfl rfl <| lx_nil <| ?_
  -- R1
  refine wi_ret ⟨.tuple #[.slice none 0 0, .slice none 0 0, .slice none 0 0, .int .i64 (chkT p)], (res_four rfl rfl rfl rfl rfl), ⟨rfl, hx1⟩⟩

set_option maxRecDepth 10000 in
theorem fixedE_spec (h : Heap) (vp : Value) (hs : List Hdr) (p : List (List Bool)) (vl : Value) (xs : List Int) (hr_vp : RdE encHd h vp hs) (ht_vp : RT encB h hs p) (hr_vl : RdE encI h vl xs) (hp1 : p.length ≤ 1000000) (hp2 : ∀ i, i < p.length → (gt p i).length ≤ 1000000) (hp3 : xs.length ≤ 1000000) (hp4 : chkT p ≠ 0) : Fx Try.prog 25 [vp, vl] h (fun v h' => v = .tuple #[.slice none 0 0, .int .i64 (chkT p)] ∧ Ext h.size h h') := by
  have hl_vp := ht_vp.1
  refine fx_intro (n := 66) [(0, vp), (1, vl)] Try.func25 rfl rfl (by simp) ⟨rfl, rfl, trivial⟩ fun g0 => ?_
  refine wi_seq <| wi_reg rfl <| lx_box #[vp] rfl rfl (sl_cells hr_vp) (fun _ _ _ => trivial) fun bn1 h1 hbn1 hbk1 hx1 hsz1 => ?_
  have hbb1 : h.size ≤ bn1 := by have := (Nat.le_refl h.size); omega
  refine lx_assign (.slice none 0 0) rfl rfl <| lx_assign (.int .i64 0) rfl rfl <| lx_nil <| wi_seq <| wi_seq <| wi_reg rfl <| lx_ldB (vp) rfl rfl fl29 hbk1 rfl rfl <| lx_call [vp] rfl rfl Try.call62 rfl (ocheck_spec h1 vp hs p (hr_vp.extS hx1) (ht_vp.extS hx1) (by omega) (by first | with_reducible assumption | omega)) (fun _ _ _ => trivial) ?_
  rintro _ h2 ⟨rfl, hx2⟩
  have hx0_1 := hx1.trans2 hx2 hx1.size
  have hb1 := hbk1.extS hx2
  refine lx_assign (.int .i64 (chkT p)) rfl rfl <| lx_nil <| wi_seq <| wi_reg rfl <| lx_move (.int .i64 (chkT p)) rfl rfl <| lx_neqT rfl rfl rfl hp4 <| lx_nil <| wi_true rfl <| wi_seq <| wi_reg rfl <| lx_move (.int .i64 (chkT p)) rfl rfl <| lx_assign (.slice none 0 0) rfl rfl <| lx_assign (.int .i64 (chkT p)) rfl rfl <| lx_nil <| ?_
  -- R1
  refine wi_ret ⟨.tuple #[.slice none 0 0, .int .i64 (chkT p)], (res_two rfl rfl rfl), ⟨rfl, hx0_1⟩⟩

set_option maxRecDepth 10000 in
theorem crosscutE_spec (h : Heap) (vp : Value) (hs : List Hdr) (p : List (List Bool)) (hr_vp : RdE encHd h vp hs) (ht_vp : RT encB h hs p) (hp1 : p.length ≤ 1000000) (hp2 : ∀ i, i < p.length → (gt p i).length ≤ 1000000) (hp3 : chkT p ≠ 0) : Fx Try.prog 35 [vp] h (fun v h' => v = .tuple #[.slice none 0 0, .int .i64 (chkT p)] ∧ Ext h.size h h') := by
  have hl_vp := ht_vp.1
  refine fx_intro (n := 101) [(0, vp)] Try.func35 rfl rfl (by simp) ⟨rfl, trivial⟩ fun g0 => ?_
  refine wi_seq <| wi_reg rfl <| lx_assign (.slice none 0 0) rfl rfl <| lx_assign (.int .i64 0) rfl rfl <| lx_nil <| wi_seq <| wi_reg rfl <| lx_move (vp) rfl rfl <| lx_call [vp] rfl rfl Try.call92 rfl (open_spec h vp hs p hr_vp ht_vp (by omega) (by first | with_reducible assumption | omega)) (fun _ _ _ => trivial) ?_
  rintro _ h1 ⟨v1, v2, h1_1, h2_1, rj_1, rm_1, rfl, ho1, hot1, ho2, hot2, hop_1, hx1⟩
  have ho3 := ho1.base (Nat.le_refl h.size)
  have hot3 := hot1.base (Nat.le_refl h.size)
  have hl_hot3 := hot3.1
  have ho4 := ho2.base (Nat.le_refl h.size)
  have hot4 := hot2.base (Nat.le_refl h.size)
  have hl_hot4 := hot4.1
  refine lx_move (.tuple #[.agg #[v1, v2], .int .i64 (opnC p)]) rfl rfl <| lx_extract (.agg #[v1, v2]) rfl rfl rfl <| lx_extract (.int .i64 (opnC p)) rfl rfl rfl <| lx_alloc rfl rfl Try.zeroValue119 (fun _ _ _ => trivial) fun bn1 h2 hbn1 hbk1 hx2 hsz1 => ?_
  have hbb1 : h.size ≤ bn1 := by have := hx1.size; omega
  have hdj1 : Value.ownBlock v1 ≠ some bn1 := by intro e; have := (ho3.lt e).2; omega
  have hnb1 : Nbt h1_1 bn1 := nbt_new hot3 (by omega)
  have hdj2 : Value.ownBlock v2 ≠ some bn1 := by intro e; have := (ho4.lt e).2; omega
  have hnb2 : Nbt h2_1 bn1 := nbt_new hot4 (by omega)
  have hx0_1 := hx1.trans2 hx2 hx1.size
  have ho5 := ho3.extS hx2
  have hot5 := hot3.extS hx2
  have ho6 := ho4.extS hx2
  have hot6 := hot4.extS hx2
  have hbk1 : Blk h2 bn1 #[.slice none 0 0, .slice none 0 0] 119 := hbk1
  refine lx_stBA (#[v1, v2]) rfl rfl Try.sizeOf119 hbk1 rfl rfl rfl rfl (one2 (sl_one ho5.rd) (sl_one ho6.rd)) (fun _ _ _ _ => trivial) fun h3 hbk2 hc1 => ?_
  have hx0_2 := hx0_1.trans (hc1.ext hbb1)
  have ho7 := hc1.owE ho5 hdj1
  have hot7 := hot5.chgB hc1 hnb1
  have ho8 := hc1.owE ho6 hdj2
  have hot8 := hot6.chgB hc1 hnb2
  refine lx_assign (.int .i64 (opnC p)) rfl rfl <| lx_nil <| wi_seq <| wi_seq <| wi_reg rfl <| lx_move (.int .i64 (opnC p)) rfl rfl <| lx_neqT rfl rfl rfl (by rw [opnC_bad hp3]; exact hp3) <| lx_nil <| wi_true rfl <| wi_seq <| wi_reg rfl <| lx_move (.int .i64 (opnC p)) rfl rfl <| lx_assign (.slice none 0 0) rfl rfl <| lx_assign (.int .i64 (opnC p)) rfl rfl <| lx_nil <| ?_
  -- R1
  refine wi_ret ⟨.tuple #[.slice none 0 0, .int .i64 (opnC p)], (res_two rfl rfl rfl), ⟨?_, hx0_2⟩⟩
  · rw [opnC_bad hp3]

set_option maxRecDepth 10000 in
theorem linearE_spec (h : Heap) (vp : Value) (hs : List Hdr) (p : List (List Bool)) (hr_vp : RdE encHd h vp hs) (ht_vp : RT encB h hs p) (hp1 : p.length ≤ 1000000) (hp2 : ∀ i, i < p.length → (gt p i).length ≤ 1000000) (hp3 : chkT p ≠ 0) : Fx Try.prog 45 [vp] h (fun v h' => v = .tuple #[.int .i64 0, .int .i64 (chkT p)] ∧ Ext h.size h h') := by
  have hl_vp := ht_vp.1
  refine fx_intro (n := 64) [(0, vp)] Try.func45 rfl rfl (by simp) ⟨rfl, trivial⟩ fun g0 => ?_
  refine wi_seq <| wi_reg rfl <| lx_assign (.int .i64 0) rfl rfl <| lx_assign (.int .i64 0) rfl rfl <| lx_nil <| wi_seq <| wi_seq <| wi_reg rfl <| lx_move (vp) rfl rfl <| lx_call [vp] rfl rfl Try.call62 rfl (ocheck_spec h vp hs p hr_vp ht_vp (by omega) (by first | with_reducible assumption | omega)) (fun _ _ _ => trivial) ?_
  rintro _ h1 ⟨rfl, hx1⟩
  refine lx_assign (.int .i64 (chkT p)) rfl rfl <| lx_nil <| wi_seq <| wi_reg rfl <| lx_move (.int .i64 (chkT p)) rfl rfl <| lx_neqT rfl rfl rfl hp3 <| lx_nil <| wi_true rfl <| wi_seq <| wi_reg rfl <| lx_move (.int .i64 (chkT p)) rfl rfl <| lx_assign (.int .i64 0) rfl rfl <| lx_assign (.int .i64 (chkT p)) rfl rfl <| lx_nil <| ?_
  -- R1
  refine wi_ret ⟨.tuple #[.int .i64 0, .int .i64 (chkT p)], (res_two rfl rfl rfl), ⟨rfl, hx1⟩⟩

end Go.Proofs.Ytdokijbdnajhgaa
