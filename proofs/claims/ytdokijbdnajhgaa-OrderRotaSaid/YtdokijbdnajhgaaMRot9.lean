/-
  Of any integer, any pairs and any numbers: the law OrderRota returns true (the differences of the sums are what there was; the numbers of Moebius undo sums; chains by their lengths, with signs by turns, count as these numbers; so do the sets of atoms of a lattice that join to the greatest element), and nothing that was there turns.
  Conditions: none beyond the given statement's.
-/
import Derived.Test.YtdokijbdnajhgaaMRot8
import Derived.Shelf.Small.Bits
import Derived.Test.YtdokijbdnajhgaaProg
import Derived.Test.YtdokijbdnajhgaaRows
set_option linter.unusedSimpArgs false
set_option linter.unusedVariables false
namespace Go.Proofs.Ytdokijbdnajhgaa
open Go Go.X

set_option maxRecDepth 10000 in
theorem ocrosscut_spec (h : Heap) (vp : Value) (hs : List Hdr) (p : List (List Bool)) (hr_vp : RdE encHd h vp hs) (ht_vp : RT encB h hs p) (hp1 : p.length ≤ 1000000) (hp2 : ∀ i, i < p.length → (gt p i).length ≤ 1000000) : Fx Try.prog 35 [vp] h (fun v h' => ∃ (s : Value) (xs : List Int), v = .tuple #[s, .int .i64 (opnC p)] ∧ OwE encI h' h.size 2 s xs ∧ (xs = if opnC p = 0 then crF p.length (pb p) else []) ∧ Ext h.size h h') := by
  have hl_vp := ht_vp.1
  refine fx_intro (n := 101) [(0, vp)] Try.func35 rfl rfl (by simp) ⟨rfl, trivial⟩ fun g0 => ?_
  refine wi_seq <| wi_reg rfl <| lx_assign (.slice none 0 0) rfl rfl <| lx_assign (.int .i64 0) rfl rfl <| lx_nil <| wi_seq <| wi_reg rfl <| lx_move (vp) rfl rfl <| lx_call [vp] rfl rfl Try.call92 rfl (open_spec h vp hs p hr_vp ht_vp (by omega) (by first | with_reducible assumption | omega)) (fun _ _ _ => trivial) ?_
  rintro _ h1 ⟨vj, vm, hj, hm, rj, rm, rfl, ho1, hot1, ho2, hot2, hop, hx1⟩
  have ho3 := ho1.base (Nat.le_refl h.size)
  have hot3 := hot1.base (Nat.le_refl h.size)
  have hl_hot3 := hot3.1
  have ho4 := ho2.base (Nat.le_refl h.size)
  have hot4 := hot2.base (Nat.le_refl h.size)
  have hl_hot4 := hot4.1
  refine lx_move (.tuple #[.agg #[vj, vm], .int .i64 (opnC p)]) rfl rfl <| lx_extract (.agg #[vj, vm]) rfl rfl rfl <| lx_extract (.int .i64 (opnC p)) rfl rfl rfl <| lx_alloc rfl rfl Try.zeroValue119 (fun _ _ _ => trivial) fun bn1 h2 hbn1 hbk1 hx2 hsz1 => ?_
  have hbb1 : h.size ≤ bn1 := by have := hx1.size; omega
  have hdj1 : Value.ownBlock vj ≠ some bn1 := by intro e; have := (ho3.lt e).2; omega
  have hnb1 : Nbt hj bn1 := nbt_new hot3 (by omega)
  have hdj2 : Value.ownBlock vm ≠ some bn1 := by intro e; have := (ho4.lt e).2; omega
  have hnb2 : Nbt hm bn1 := nbt_new hot4 (by omega)
  have hx0_1 := hx1.trans2 hx2 hx1.size
  have ho5 := ho3.extS hx2
  have hot5 := hot3.extS hx2
  have ho6 := ho4.extS hx2
  have hot6 := hot4.extS hx2
  have hbk1 : Blk h2 bn1 #[.slice none 0 0, .slice none 0 0] 119 := hbk1
  refine lx_stBA (#[vj, vm]) rfl rfl Try.sizeOf119 hbk1 rfl rfl rfl rfl (one2 (sl_one ho5.rd) (sl_one ho6.rd)) (fun _ _ _ _ => trivial) fun h3 hbk2 hc1 => ?_
  have hx0_2 := hx0_1.trans (hc1.ext hbb1)
  have ho7 := hc1.owE ho5 hdj1
  have hot7 := hot5.chgB hc1 hnb1
  have ho8 := hc1.owE ho6 hdj2
  have hot8 := hot6.chgB hc1 hnb2
  refine lx_assign (.int .i64 (opnC p)) rfl rfl <| lx_nil <| wi_seq <| wi_seq <| wi_reg rfl <| lx_move (.int .i64 (opnC p)) rfl rfl <| lx_neqS rfl rfl rfl (fun c1 => ?_) (fun c1 => ?_)
  · refine lx_nil <| wi_true rfl <| wi_seq <| wi_reg rfl <| lx_move (.int .i64 (opnC p)) rfl rfl <| lx_assign (.slice none 0 0) rfl rfl <| lx_assign (.int .i64 (opnC p)) rfl rfl <| lx_nil <| ?_
    -- R1
    refine wi_ret ⟨.tuple #[.slice none 0 0, .int .i64 (opnC p)], (res_two rfl rfl rfl), ⟨.slice none 0 0, [], rfl, (owE_nil encI _ h.size 2), ?_, hx0_2⟩⟩
    · rw [if_neg (by omega)]
  · refine lx_nil <| wi_false rfl <| wi_skip <| wi_seq <| wi_reg rfl <| ?_
    have hz := opnC_zero (p := p) (by omega)
    have hok := chkT_ok (p := p) hz.1
    have hp12 : p.length ≤ 12 := hok.2.1
    have hpq : Sq p p.length := isT_sq hok.2.2
    have hio := isT_o hok.2.2
    have hng : noGap p.length (pb p) := ngB_iff.1 hz.2
    obtain ⟨hrj, hrm⟩ : rj = tabI p.length (joinF p.length (pb p)) ∧ rm = tabI p.length (meetF p.length (pb p)) := opnP_ok hop (by omega)
    have hp0 : 1 ≤ p.length := hok.1
    have hlo := lo_at hio hng hp0
    have hhi := hi_at hio hng hp0
    have hlon := hlo.2.1
    have hhin := hhi.2.1
    have hpe : 2 ^ hs.length = 2 ^ p.length := by rw [hl_vp]
    have hpw9 := pow12 hp12
    have hpp : 0 < 2 ^ p.length := Nat.pow_pos (by omega)
    refine lx_move (vp) rfl rfl <| lx_len rfl Try.underlying29 hr_vp rfl <| lx_conv ((hs.length : Nat) : Int) rfl Try.underlying3 Try.underlying45 rfl (wrap_u64 (by omega) (by omega)) <| lx_shl (m := 1) (n := hs.length) rfl rfl rfl (by show _ ≤ 64; omega) (wrap_i64 (by omega) (by omega)) <| lx_sub (((2 ^ p.length - 1 : Nat) : Int)) rfl rfl rfl (by omega) (by omega) (by omega) <| lx_assign (.int .i64 ((2 ^ p.length - 1 : Nat) : Int)) rfl rfl <| lx_nil <| wi_seq <| wi_reg rfl <| lx_move (vp) rfl rfl <| lx_move (.int .i64 ((2 ^ p.length - 1 : Nat) : Int)) rfl rfl <| lx_move (vp) rfl rfl <| lx_makeFunc [vp] [] rfl rfl rfl <| lx_call [vp, .int .i64 ((2 ^ p.length - 1 : Nat) : Int), .func (.func 80) #[vp] #[]] rfl rfl Try.call95 rfl (bound_up_spec h3 vp hs p (2 ^ p.length - 1) (hr_vp.extS hx0_2) (ht_vp.extS hx0_2) (by omega) hpq (by omega)) (fun _ _ _ => trivial) ?_
    rintro _ h4 ⟨rfl, rfl⟩
    refine lx_move (vp) rfl rfl <| lx_move (.int .i64 ((2 ^ p.length - 1 : Nat) : Int)) rfl rfl <| lx_move (vp) rfl rfl <| lx_makeFunc [vp] [] rfl rfl rfl <| lx_call [vp, .int .i64 ((2 ^ p.length - 1 : Nat) : Int), .func (.func 81) #[vp] #[]] rfl rfl Try.call95 rfl (bound_dn_spec h3 vp hs p (2 ^ p.length - 1) (hr_vp.extS hx0_2) (ht_vp.extS hx0_2) (by omega) hpq (by omega)) (fun _ _ _ => trivial) ?_
    rintro _ h5 ⟨rfl, rfl⟩
    rw [hlo.1, hhi.1]
    refine lx_assign (.int .i64 ((loN p.length (pb p) : Nat) : Int)) rfl rfl <| lx_assign (.int .i64 ((hiN p.length (pb p) : Nat) : Int)) rfl rfl <| lx_nil <| wi_seq <| wi_reg rfl <| lx_assign (.slice none 0 0) rfl rfl <| lx_nil <| wi_seq <| wi_seq <| wi_reg rfl <| lx_move (vp) rfl rfl <| lx_len rfl Try.underlying29 hr_vp rfl <| lx_move (.int .i64 0) rfl rfl <| lx_nil <| wi_block <| ?_
    refine wi_loop (σ := Nat × Value × (List Int)) (rngB 42 54 [9, 10]) (fun (ss : Nat × Value × (List Int)) => [(42, .int .i64 ((ss.1 : Nat) : Int)), (9, ss.2.1)]) (fun (ss : Nat × Value × (List Int)) (hh : Heap) => Blk hh bn1 #[vj, vm] 119 ∧ OwE encHd hh h.size 25 vj hj ∧ OT encI hh h.size 3 hj rj ∧ OwE encI hh h.size 3 ss.2.1 ss.2.2 ∧ Djt hj ss.2.1 ∧ Ext h.size h hh ∧ (ss.1 ≤ p.length) ∧ (ss.2.2 = filtF ss.1 (rbF p.length (pb p) (loN p.length (pb p))))) (fun (ss : Nat × Value × (List Int)) => p.length - ss.1) (0, .slice none 0 0, []) ⟨rfl, rfl, trivial⟩ ⟨?_, ?_, ?_, ?_, (djt_nil _), hx0_2, ?_, ?_⟩ ?_
    · exact hbk2
    · first | exact ho7 | (simpa using ho7)
    · first | exact hot7 | (simpa using hot7)
    · first | exact (owE_nil encI _ h.size 3) | (simpa using (owE_nil encI _ h.size 3))
    · try dsimp only
      omega
    · try dsimp only
      first | done | rfl
    rintro g1 ⟨x, v, xs⟩ hh1 ⟨hbk3, ho9, hot9, ho10, hdt1, hx0_3, hx, hxs⟩ IH1
    dsimp only at *
    have hxl : xs.length ≤ x := by rw [hxs]; exact filtF_length _ _
    have hl_hot9 := hot9.1
    refine wi_seq <| wi_reg rfl <| lx_lssS rfl rfl rfl (fun c2 => ?_) (fun c2 => ?_)
    · refine lx_nil <| wi_seq <| wi_true rfl <| wi_skip <| wi_seq <| wi_block <| wi_seq <| wi_reg rfl <| lx_move (.int .i64 ((x : Nat) : Int)) rfl rfl <| lx_assign (.int .i64 ((x : Nat) : Int)) rfl rfl <| lx_nil <| wi_seq <| wi_reg rfl <| lx_move (vp) rfl rfl <| lx_move (.int .i64 ((loN p.length (pb p) : Nat) : Int)) rfl rfl <| lx_move (.int .i64 ((x : Nat) : Int)) rfl rfl <| lx_call [vp, .int .i64 ((loN p.length (pb p) : Nat) : Int), .int .i64 ((x : Nat) : Int)] rfl rfl Try.call96 rfl (rightBelow_spec hh1 vp hs p (loN p.length (pb p)) x (hr_vp.extS hx0_3) (ht_vp.extS hx0_3) (by omega) hpq (by omega) (by omega)) (fun _ _ _ => trivial) ?_
      rintro _ h6 ⟨rfl, rfl⟩
      refine lx_nil <| wi_condS (t := rbF p.length (pb p) (loN p.length (pb p)) x) rfl (fun c3 => ?_) (fun c3 => ?_)
      · refine wi_reg rfl <| lx_move (v) rfl rfl <| lx_move (.int .i64 ((x : Nat) : Int)) rfl rfl <| lx_appendL (E := encI) (B := h.size) [((x : Nat) : Int)] [.int .i64 ((x : Nat) : Int)] rfl rfl (fun _ => rfl) rfl eT25 rfl rfl rfl rfl ho10 (fun _ => rfl) (by show xs.length + 1 ≤ _; omega) (by show (xs.length + 1) * 8 ≤ _; omega) hx0_3.size (fun _ _ => trivial) fun u1 v1 h7 ho11 hc2 hg1 => ?_
        have hx0_4 := hx0_3.trans (ho10.ext hc2 hx0_3.size)
        have ho12 := ho9.chg hc2 (dj_ty ho9 ho10 (by decide))
        have hot10 := hot9.chg hc2 hdt1
        have hb1 := hbk3.chg hc2 (nb_ty ho10 hbk3 (by decide))
        refine lx_assign (v1) rfl rfl <| lx_nil <| wi_inBlock <| wi_reg rfl <| lx_add (((x + 1 : Nat) : Int)) rfl rfl rfl (by omega) (by omega) (by omega) <| lx_move (.int .i64 ((x + 1 : Nat) : Int)) rfl rfl <| lx_nil <| ?_
        -- L0.1
        refine IH1 _ _ (x + 1, v1, xs ++ [((x : Nat) : Int)]) (agree_ups rfl agree_self) ⟨rfl, rfl, trivial⟩ ⟨?_, ?_, ?_, ?_, (djt_app hdt1 hot9 hg1), hx0_4, ?_, ?_⟩ ?_
        · exact hb1
        · first | exact ho12 | (simpa using ho12)
        · first | exact hot10 | (simpa using hot10)
        · first | exact ho11 | (simpa using ho11)
        · try dsimp only
          omega
        · try dsimp only
          rw [hxs]; exact filtF_yes (by assumption)
        · first | omega | (dsimp only; omega)
      · refine wi_skip <| wi_inBlock <| wi_reg rfl <| lx_add (((x + 1 : Nat) : Int)) rfl rfl rfl (by omega) (by omega) (by omega) <| lx_move (.int .i64 ((x + 1 : Nat) : Int)) rfl rfl <| lx_nil <| ?_
        -- L0.2
        refine IH1 _ _ (x + 1, v, xs) (agree_ups rfl agree_self) ⟨rfl, rfl, trivial⟩ ⟨?_, ?_, ?_, ?_, hdt1, hx0_3, ?_, ?_⟩ ?_
        · exact hbk3
        · first | exact ho9 | (simpa using ho9)
        · first | exact hot9 | (simpa using hot9)
        · first | exact ho10 | (simpa using ho10)
        · try dsimp only
          omega
        · try dsimp only
          rw [hxs]; exact filtF_no (by assumption)
        · first | omega | (dsimp only; omega)
    · refine lx_nil <| wi_seq <| wi_false rfl <| wi_exit rfl <| wi_seq <| wi_reg rfl <| ?_
      have hxa : xs = atL p.length (pb p) := by rw [hxs, show x = p.length from by omega]; rfl
      have hal := atL_len p.length (pb p)
      rw [hxa] at ho10
      refine lx_move (v) rfl rfl <| lx_len rfl Try.underlying25 ho10.rd rfl <| lx_add (((((atL p.length (pb p))).length + 1 : Nat) : Int)) rfl rfl rfl (by omega) (by omega) (by omega) <| lx_make (E := encI) (n := ((atL p.length (pb p))).length + 1) (B := hh1.size) (0 : Int) rfl rfl Try.underlying58 (eZ58) rfl rfl (by omega) (by omega) (Nat.le_refl _) (fun _ _ => trivial) fun v2 h8 ho13 hx3 hvb1 => ?_
      have hx0_5 := hx0_3.trans2 hx3 hx0_3.size
      have ho14 := ho9.extS hx3
      have hot11 := hot9.extS hx3
      have ho15 := ho10.extS hx3
      have hb2 := hbk3.extS hx3
      have ho16 := ho13.base hx0_3.size
      refine lx_assign (v2) rfl rfl <| lx_nil <| wi_seq <| wi_seq <| wi_reg rfl <| ?_
      have hpw := pow12 (show (atL p.length (pb p)).length ≤ 12 by omega)
      refine lx_move (v) rfl rfl <| lx_len rfl Try.underlying25 ho15.rd rfl <| lx_conv ((((atL p.length (pb p))).length : Nat) : Int) rfl Try.underlying3 Try.underlying45 rfl (wrap_u64 (by omega) (by omega)) <| lx_shl (m := 1) (n := ((atL p.length (pb p))).length) rfl rfl rfl (by show _ ≤ 64; omega) (wrap_i64 (by omega) (by omega)) <| lx_move (.int .i64 0) rfl rfl <| lx_nil <| wi_block <| ?_
      refine wi_loop (σ := Nat × (List Int)) (rngB 62 100 [12, 13, 14, 15, 16]) (fun (ss : Nat × (List Int)) => [(62, .int .i64 ((ss.1 : Nat) : Int))]) (fun (ss : Nat × (List Int)) (hh : Heap) => Blk hh bn1 #[vj, vm] 119 ∧ OwE encHd hh h.size 25 vj hj ∧ OT encI hh h.size 3 hj rj ∧ OwE encI hh h.size 2 v2 ss.2 ∧ OwE encI hh h.size 3 v ((atL p.length (pb p))) ∧ Ext h.size h hh ∧ (ss.1 ≤ 2 ^ (atL p.length (pb p)).length) ∧ (ss.2 = crL p.length (pb p) (loN p.length (pb p)) (hiN p.length (pb p)) (atL p.length (pb p)) ss.1)) (fun (ss : Nat × (List Int)) => 2 ^ (atL p.length (pb p)).length - ss.1) (0, List.replicate (((atL p.length (pb p))).length + 1) (0 : Int)) ⟨rfl, trivial⟩ ⟨?_, ?_, ?_, ?_, ?_, hx0_5, ?_, ?_⟩ ?_
      · exact hb2
      · first | exact ho14 | (simpa using ho14)
      · first | exact hot11 | (simpa using hot11)
      · first | exact ho16 | (simpa using ho16)
      · first | exact ho15 | (simpa using ho15)
      · try dsimp only
        exact Nat.zero_le _
      · try dsimp only
        exact crL_zero _ _ _ _ _
      rintro g2 ⟨t, cl⟩ hh2 ⟨hbk4, ho17, hot12, ho18, ho19, hx0_6, ht, hcl⟩ IH2
      dsimp only at *
      have hcll : cl.length = (atL p.length (pb p)).length + 1 := by rw [hcl]; exact crL_len _ _ _ _ _ _
      have hl_hot12 := hot12.1
      refine wi_seq <| wi_reg rfl <| ?_
      have hpw := pow12 (show (atL p.length (pb p)).length ≤ 12 by omega)
      refine lx_lssS rfl rfl rfl (fun c4 => ?_) (fun c4 => ?_)
      · refine lx_nil <| wi_seq <| wi_true rfl <| wi_skip <| wi_seq <| wi_block <| wi_seq <| wi_reg rfl <| lx_move (.int .i64 ((t : Nat) : Int)) rfl rfl <| lx_assign (.int .i64 ((t : Nat) : Int)) rfl rfl <| lx_nil <| wi_seq <| wi_reg rfl <| lx_move (.int .i64 ((loN p.length (pb p) : Nat) : Int)) rfl rfl <| lx_assign (.int .i64 ((loN p.length (pb p) : Nat) : Int)) rfl rfl <| lx_assign (.int .i64 0) rfl rfl <| lx_nil <| wi_seq <| wi_seq <| wi_reg rfl <| lx_move (v) rfl rfl <| lx_len rfl Try.underlying25 ho19.rd rfl <| lx_move (.int .i64 0) rfl rfl <| lx_nil <| wi_block <| ?_
        refine wi_loop (σ := Nat × Nat × Nat) (rngB 68 90 [13, 14, 15, 16]) (fun (ss : Nat × Nat × Nat) => [(68, .int .i64 ((ss.1 : Nat) : Int)), (13, .int .i64 ((ss.2.1 : Nat) : Int)), (14, .int .i64 ((ss.2.2 : Nat) : Int))]) (fun (ss : Nat × Nat × Nat) (hh : Heap) => hh2 = hh ∧ (ss.1 ≤ (atL p.length (pb p)).length) ∧ (ss.2.1 = crJ p.length (pb p) (loN p.length (pb p)) (atL p.length (pb p)) t ss.1) ∧ (ss.2.2 = crN t ss.1)) (fun (ss : Nat × Nat × Nat) => (atL p.length (pb p)).length - ss.1) (0, loN p.length (pb p), 0) ⟨rfl, rfl, rfl, trivial⟩ ⟨rfl, ?_, ?_, ?_⟩ ?_
        · try dsimp only
          omega
        · try dsimp only
          first | done | rfl
        · try dsimp only
          first | done | rfl
        rintro g3 ⟨k, j, c⟩ hh3 ⟨rfl, hk, hj9, hc⟩ IH3
        dsimp only at *
        have hcle := crN_le t k
        refine wi_seq <| wi_reg rfl <| lx_lssS rfl rfl rfl (fun c5 => ?_) (fun c5 => ?_)
        · refine lx_nil <| wi_seq <| wi_true rfl <| wi_skip <| wi_seq <| wi_block <| wi_seq <| wi_reg rfl <| ?_
          obtain ⟨a, hga, ha4, _⟩ := atL_at (show k < (atL p.length (pb p)).length by omega)
          refine lx_move (.int .i64 ((k : Nat) : Int)) rfl rfl <| lx_ix (i := k) rfl eT25 ho19.rd rfl rfl (by omega) <| lx_ld (i := k) (j := 0) (.int .i64 ((a : Nat) : Int)) rfl rfl fl3 ho19.rd (by omega) (by show some (Value.int .i64 (gt (atL p.length (pb p)) k)) = _; rw [hga]) rfl <| lx_assign (.int .i64 ((k : Nat) : Int)) rfl rfl <| lx_assign (.int .i64 ((a : Nat) : Int)) rfl rfl <| lx_nil <| wi_seq <| wi_reg rfl <| ?_
          have hdv := Nat.div_le_self t (2 ^ k)
          have hbl : t / 2 ^ k &&& 1 ≤ 1 := Nat.and_le_right
          refine lx_move (.int .i64 ((t : Nat) : Int)) rfl rfl <| lx_move (.int .i64 ((k : Nat) : Int)) rfl rfl <| lx_conv ((k : Nat) : Int) rfl Try.underlying3 Try.underlying45 rfl (wrap_u64 (by omega) (by omega)) <| lx_shr (m := t) (n := k) rfl rfl rfl (by show _ ≤ 64; omega) <| lx_and (m := t / 2 ^ k) (n := 1) rfl rfl rfl (by show _ < 2 ^ 64; omega) (by show _ < 2 ^ 64; omega) (wrap_i64 (by omega) (by omega)) <| lx_eqlS rfl rfl rfl (fun c6 => ?_) (fun c6 => ?_)
          · refine lx_nil <| wi_true rfl <| wi_seq <| wi_reg rfl <| ?_
            have hjl := crJ_lt hio hng hlon (al := atL p.length (pb p)) atL_rng t k (by omega)
            rw [← hj9] at hjl
            have hq5 : gt (gt rj j) a = ((jN p.length (pb p) j a : Nat) : Int) := by rw [hrj]; exact jN_nat hio hng hjl ha4
            have hrjl : rj.length = p.length := by rw [hrj]; exact tabI_len _ _
            have hrl : (gt rj j).length = p.length := by rw [hrj]; exact tabI_row hjl
            refine lx_fieldL (i := 0) rfl st119 (.inl rfl) rfl <| lx_ldB (vj) rfl rfl fl49 hbk4 rfl rfl <| lx_move (.int .i64 ((j : Nat) : Int)) rfl rfl <| lx_ix (i := j) rfl eT49 ho17.rd rfl rfl (by omega) <| lx_ld (i := j) (j := 0) ((gt hj j).v) rfl rfl fl25 ho17.rd (by omega) rfl rfl <| lx_move (.int .i64 ((a : Nat) : Int)) rfl rfl <| lx_ix (i := a) rfl eT25 (hot12.2.1 j (by omega)).rd rfl rfl (by omega) <| lx_ld (i := a) (j := 0) (.int .i64 ((jN p.length (pb p) j a : Nat) : Int)) rfl rfl fl3 (hot12.2.1 j (by omega)).rd (by omega) (by show some (Value.int .i64 (gt (gt rj j) a)) = _; rw [hq5]) rfl <| lx_assign (.int .i64 ((jN p.length (pb p) j a : Nat) : Int)) rfl rfl <| lx_nil <| wi_reg rfl <| lx_move (.int .i64 ((c : Nat) : Int)) rfl rfl <| lx_add (((c + 1 : Nat) : Int)) rfl rfl rfl (by omega) (by omega) (by omega) <| lx_assign (.int .i64 ((c + 1 : Nat) : Int)) rfl rfl <| lx_nil <| wi_inBlock <| wi_reg rfl <| lx_add (((k + 1 : Nat) : Int)) rfl rfl rfl (by omega) (by omega) (by omega) <| lx_move (.int .i64 ((k + 1 : Nat) : Int)) rfl rfl <| lx_nil <| ?_
            -- L4.1
            refine IH3 _ _ (k + 1, jN p.length (pb p) j a, c + 1) (agree_ups rfl agree_self) ⟨rfl, rfl, rfl, trivial⟩ ⟨rfl, ?_, ?_, ?_⟩ ?_
            · try dsimp only
              omega
            · try dsimp only
              rw [crJ, if_pos (bit_nz (by omega)), ← hj9, hga]; rfl
            · try dsimp only
              rw [crN, if_pos (bit_nz (by omega)), ← hc]
            · first | omega | (dsimp only; omega)
          · refine lx_nil <| wi_false rfl <| wi_skip <| wi_inBlock <| wi_reg rfl <| lx_add (((k + 1 : Nat) : Int)) rfl rfl rfl (by omega) (by omega) (by omega) <| lx_move (.int .i64 ((k + 1 : Nat) : Int)) rfl rfl <| lx_nil <| ?_
            -- L4.2
            refine IH3 _ _ (k + 1, j, c) (agree_ups rfl agree_self) ⟨rfl, rfl, rfl, trivial⟩ ⟨rfl, ?_, ?_, ?_⟩ ?_
            · try dsimp only
              omega
            · try dsimp only
              rw [crJ, if_neg (by rw [bit_zero.1 (by omega)]; simp), ← hj9]
            · try dsimp only
              rw [crN, if_neg (by rw [bit_zero.1 (by omega)]; simp), ← hc]
            · first | omega | (dsimp only; omega)
        · refine lx_nil <| wi_seq <| wi_false rfl <| wi_exit rfl <| wi_seq <| wi_reg rfl <| lx_move (.int .i64 ((j : Nat) : Int)) rfl rfl <| lx_move (.int .i64 ((hiN p.length (pb p) : Nat) : Int)) rfl rfl <| lx_eqlS rfl rfl rfl (fun c7 => ?_) (fun c7 => ?_)
          · refine lx_nil <| wi_true rfl <| wi_reg rfl <| ?_
            have hkl : k = (atL p.length (pb p)).length := by omega
            have hcn := crN_le t (atL p.length (pb p)).length
            have hca := crL_at (n := p.length) (f := pb p) (lo := loN p.length (pb p)) (hi := hiN p.length (pb p)) (al := atL p.length (pb p)) (t := t) (show crN t (atL p.length (pb p)).length < (atL p.length (pb p)).length + 1 by omega)
            rw [← hkl, ← hc, ← hcl] at hca
            refine lx_move (v2) rfl rfl <| lx_move (.int .i64 ((c : Nat) : Int)) rfl rfl <| lx_ix (i := c) rfl eT58 ho18.rd rfl rfl (by omega) <| lx_ld (i := c) (j := 0) (.int .i64 (gt cl c)) rfl rfl fl2 ho18.rd (by omega) rfl rfl <| lx_add ((gt cl c) + ((1 : Int))) rfl rfl rfl (by omega) (by omega) (by omega) <| lx_ix (i := c) rfl eT58 ho18.rd rfl rfl (by omega) <| lx_st (i := c) ((gt cl c) + ((1 : Int))) rfl rfl Try.sizeOf2 ho18 (by omega) rfl rfl (fun _ _ _ _ _ => trivial) fun h9 ho20 hc3 hsz2 => ?_
            have hx0_7 := hx0_6.trans (ho18.ext hc3 hx0_6.size)
            have ho21 := ho17.chg hc3 (dj_new ho9 ho13)
            have ho22 := ho19.chg hc3 (dj_new ho10 ho13)
            have hot13 := hot12.chg hc3 (djt_ty hot12 ho18 (by decide))
            have hb3 := hbk4.chg hc3 (nb_new hbk3 ho13)
            refine lx_nil <| wi_inBlock <| wi_reg rfl <| lx_add (((t + 1 : Nat) : Int)) rfl rfl rfl (by omega) (by omega) (by omega) <| lx_move (.int .i64 ((t + 1 : Nat) : Int)) rfl rfl <| lx_nil <| ?_
            -- L2.1
            refine IH2 _ _ (t + 1, cl.set c ((gt cl c) + ((1 : Int)))) (agree_ups rfl (agree_mix (rngB_sub (by decide) (by decide) rfl) (agree_ups rfl agree_self))) ⟨rfl, trivial⟩ ⟨?_, ?_, ?_, ?_, ?_, hx0_7, ?_, ?_⟩ ?_
            · exact hb3
            · first | exact ho21 | (simpa using ho21)
            · first | exact hot13 | (simpa using hot13)
            · first | exact ho20 | (simpa using ho20)
            · first | exact ho22 | (simpa using ho22)
            · try dsimp only
              omega
            · try dsimp only
              rw [hcl]; exact crL_yes (by rw [← hkl, ← hj9]; omega) (by rw [← hkl, ← hc])
            · first | omega | (dsimp only; omega)
          · refine lx_nil <| wi_false rfl <| wi_skip <| wi_inBlock <| wi_reg rfl <| lx_add (((t + 1 : Nat) : Int)) rfl rfl rfl (by omega) (by omega) (by omega) <| lx_move (.int .i64 ((t + 1 : Nat) : Int)) rfl rfl <| lx_nil <| ?_
            -- L2.2
            refine IH2 _ _ (t + 1, cl) (agree_ups rfl (agree_mix (rngB_sub (by decide) (by decide) rfl) (agree_ups rfl agree_self))) ⟨rfl, trivial⟩ ⟨?_, ?_, ?_, ?_, ?_, hx0_6, ?_, ?_⟩ ?_
            · exact hbk4
            · first | exact ho17 | (simpa using ho17)
            · first | exact hot12 | (simpa using hot12)
            · first | exact ho18 | (simpa using ho18)
            · first | exact ho19 | (simpa using ho19)
            · try dsimp only
              omega
            · try dsimp only
              rw [hcl]; exact crL_no (by rw [show (atL p.length (pb p)).length = k from by omega, ← hj9]; omega)
            · first | omega | (dsimp only; omega)
      · refine lx_nil <| wi_seq <| wi_false rfl <| wi_exit rfl <| wi_seq <| wi_reg rfl <| lx_move (v2) rfl rfl <| lx_assign (v2) rfl rfl <| lx_assign (.int .i64 0) rfl rfl <| lx_nil <| ?_
        -- R2
        refine wi_ret ⟨.tuple #[v2, .int .i64 0], (res_two rfl rfl rfl), ⟨v2, cl, ?_, ho18, ?_, hx0_6⟩⟩
        · rw [show opnC p = 0 from by omega]
        · rw [if_pos (by omega), hcl, show t = 2 ^ (atL p.length (pb p)).length from by omega]; rfl

end Go.Proofs.Ytdokijbdnajhgaa
namespace Go.Proofs.Ytdokijbdnajhgaa
open Go Go.X

end Go.Proofs.Ytdokijbdnajhgaa
namespace Go.Proofs.Ytdokijbdnajhgaa
open Go.Shelf
end Go.Proofs.Ytdokijbdnajhgaa
namespace Go.Proofs.Ytdokijbdnajhgaa
open Go Go.X
end Go.Proofs.Ytdokijbdnajhgaa
namespace Go.Proofs.Ytdokijbdnajhgaa
open Go Go.X

end Go.Proofs.Ytdokijbdnajhgaa
namespace Go.Proofs.Ytdokijbdnajhgaa
open Go Go.X

end Go.Proofs.Ytdokijbdnajhgaa
namespace Go.Proofs.Ytdokijbdnajhgaa
open Go Go.X

end Go.Proofs.Ytdokijbdnajhgaa
namespace Go.Proofs.Ytdokijbdnajhgaa
open Go Go.X

end Go.Proofs.Ytdokijbdnajhgaa
namespace Go.Proofs.Ytdokijbdnajhgaa
open Go Go.X

/-- Rows of sums, being made. -/
def accR (n : Nat) (F : Nat → Nat → Int) (y x : Nat) : List Int := mapR n fun q => if q < y then F q n else if q = y then F y x else 0
theorem accR_len (n : Nat) (F : Nat → Nat → Int) (y x : Nat) : (accR n F y x).length = n := mapR_len _ _
theorem accR_zero {n : Nat} {F : Nat → Nat → Int} (h0 : ∀ q, F q 0 = 0) : List.replicate n (0 : Int) = accR n F 0 0 := by
  rw [rep_mapR]
  refine mapR_congr fun q _ => ?_
  rw [if_neg (by omega), h0]; split <;> rfl
theorem accR_at {n : Nat} {F : Nat → Nat → Int} {y x : Nat} (hy : y < n) : gt (accR n F y x) y = F y x := by unfold accR; rw [gt_mapR hy, if_neg (by omega), if_pos rfl]
theorem accR_step {n : Nat} {F : Nat → Nat → Int} {y x : Nat} {v : Int} (hy : y < n) (h : F y (x + 1) = F y x + v) : (accR n F y x).set y (F y x + v) = accR n F y (x + 1) := by
  unfold accR
  rw [mapR_set hy]
  refine mapR_congr fun q _ => ?_
  by_cases e : q = y
  · subst e; rw [if_pos rfl, if_neg (by omega), if_pos rfl, h]
  · rw [if_neg e, if_neg e, if_neg e]
theorem accR_same {n : Nat} {F : Nat → Nat → Int} {y x : Nat} (h : F y (x + 1) = F y x) : accR n F y x = accR n F y (x + 1) := by unfold accR; rw [h]
theorem accR_next {n : Nat} {F : Nat → Nat → Int} {y : Nat} (h0 : ∀ q, F q 0 = 0) : accR n F y n = accR n F (y + 1) 0 := by
  unfold accR
  refine mapR_congr fun q _ => ?_
  by_cases e : q < y
  · rw [if_pos e, if_pos (by omega)]
  · rw [if_neg e]
    by_cases e2 : q = y
    · subst e2; rw [if_pos rfl, if_pos (by omega)]
    · rw [if_neg e2, if_neg (by omega), h0]; split <;> rfl
theorem accR_end {n : Nat} {F : Nat → Nat → Int} : accR n F n 0 = mapR n fun q => F q n := mapR_congr fun q hq => if_pos hq
theorem lisE_zero {p : List (List Bool)} {xs : List Int} (h : lisE p xs = 0) : chkT p = 0 ∧ xs.length = p.length ∧ ∀ i, i < xs.length → -1000000000 ≤ gt xs i ∧ gt xs i ≤ 1000000000 := by
  unfold lisE at h
  by_cases e : chkT p = 0
  · rw [if_pos e] at h
    unfold lstE at h
    by_cases e2 : xs.length = p.length
    · rw [if_pos e2] at h
      refine ⟨e, e2, numB_iff.1 ?_⟩
      cases c : numB xs
      · rw [c] at h; cases h
      · rfl
    · rw [if_neg e2] at h; cases h
  · rw [if_neg e] at h; exact absurd h e
theorem lisE_ok {p : List (List Bool)} {xs : List Int} (h1 : chkT p = 0) (h2 : xs.length = p.length) (h3 : ∀ i, i < xs.length → -1000000000 ≤ gt xs i ∧ gt xs i ≤ 1000000000) : lisE p xs = 0 := by
  unfold lisE lstE
  rw [if_pos h1, if_pos h2, numB_iff.2 h3]; rfl
theorem smP_bd {f : Nat → Nat → Bool} {a : Nat → Int} {y j : Nat} (hj : j ≤ 12) (h : ∀ x, x < j → -1000000000 ≤ a x ∧ a x ≤ 1000000000) : -12000000000 ≤ smP f a y j ∧ smP f a y j ≤ 12000000000 := by
  have h1 := sumI_bound (B := 1000000000) (by decide) (n := j) (g := fun x => if f x y then a x else 0) fun i hi => by
    have := h i hi
    skip
    split
    · exact this
    · omega
  unfold smP
  omega
theorem mul_bd {a b : Int} (h1 : -1000000000 ≤ a ∧ a ≤ 1000000000) (h2 : -1000000000 ≤ b ∧ b ≤ 1000000000) : -1000000000000000000 ≤ a * b ∧ a * b ≤ 1000000000000000000 := by
  have h3 : (a * b).natAbs ≤ 1000000000 * 1000000000 := by
    rw [Int.natAbs_mul]
    exact Nat.mul_le_mul (by omega) (by omega)
  omega
theorem dfP_bd {n : Nat} {f : Nat → Nat → Bool} (ho : IsO n f) (hn : n ≤ 9) {a : Nat → Int} {y j : Nat} (hy : y < n) (hj : j ≤ n) (h : ∀ x, x < j → -1000000000 ≤ a x ∧ a x ≤ 1000000000) : -9000000000000000000 ≤ dfP n f a y j ∧ dfP n f a y j ≤ 9000000000000000000 := by
  have h1 := sumI_bound (B := 1000000000000000000) (by decide) (n := j) (g := fun x => a x * muF n f x y) fun i hi => mul_bd (h i hi) (mu9 ho hn (by omega) hy)
  unfold dfP
  omega

set_option maxRecDepth 10000 in
theorem osums_spec (h : Heap) (vp : Value) (hs : List Hdr) (p : List (List Bool)) (vl : Value) (xs : List Int) (hr_vp : RdE encHd h vp hs) (ht_vp : RT encB h hs p) (hr_vl : RdE encI h vl xs) (hp1 : p.length ≤ 1000000) (hp2 : ∀ i, i < p.length → (gt p i).length ≤ 1000000) (hp3 : xs.length ≤ 1000000) : Fx Try.prog 47 [vp, vl] h (fun v h' => ∃ (s : Value) (ys : List Int), v = .tuple #[s, .int .i64 (lisE p xs)] ∧ OwE encI h' h.size 2 s ys ∧ ((lisE p xs ≠ 0 ∧ ys = []) ∨ (lisE p xs = 0 ∧ ys = sumT p.length (pb p) xs)) ∧ Ext h.size h h') := by
  have hl_vp := ht_vp.1
  refine fx_intro (n := 49) [(0, vp), (1, vl)] Try.func47 rfl rfl (by simp) ⟨rfl, rfl, trivial⟩ fun g0 => ?_
  refine wi_seq <| wi_reg rfl <| lx_assign (.slice none 0 0) rfl rfl <| lx_assign (.int .i64 0) rfl rfl <| lx_nil <| wi_seq <| wi_seq <| wi_reg rfl <| lx_move (vp) rfl rfl <| lx_move (vl) rfl rfl <| lx_call [vp, vl] rfl rfl Try.call107 rfl (checkList_spec h vp hs p vl xs hr_vp ht_vp hr_vl (by omega) (by first | with_reducible assumption | omega) (by omega)) (fun _ _ _ => trivial) ?_
  rintro _ h1 ⟨rfl, hx1⟩
  refine lx_assign (.int .i64 (lisE p xs)) rfl rfl <| lx_nil <| wi_seq <| wi_reg rfl <| lx_move (.int .i64 (lisE p xs)) rfl rfl <| lx_neqS rfl rfl rfl (fun c1 => ?_) (fun c1 => ?_)
  · refine lx_nil <| wi_true rfl <| wi_seq <| wi_reg rfl <| lx_move (.int .i64 (lisE p xs)) rfl rfl <| lx_assign (.slice none 0 0) rfl rfl <| lx_assign (.int .i64 (lisE p xs)) rfl rfl <| lx_nil <| ?_
    -- R1
    refine wi_ret ⟨.tuple #[.slice none 0 0, .int .i64 (lisE p xs)], (res_two rfl rfl rfl), ⟨.slice none 0 0, [], rfl, (owE_nil encI _ h.size 2), ?_, hx1⟩⟩
    · exact .inl ⟨by omega, rfl⟩
  · refine lx_nil <| wi_false rfl <| wi_skip <| wi_seq <| wi_reg rfl <| ?_
    obtain ⟨hck, hxl, hxb⟩ := lisE_zero (p := p) (xs := xs) (by omega)
    have hok := chkT_ok (p := p) (by omega)
    have hp12 : p.length ≤ 12 := hok.2.1
    have hpq : Sq p p.length := isT_sq hok.2.2
    have hio := isT_o hok.2.2
    have hl_vp9 : hs.length = p.length := by first | assumption | omega
    refine lx_move (vp) rfl rfl <| lx_len rfl Try.underlying29 hr_vp rfl <| lx_make (E := encI) (n := hs.length) (B := h1.size) (0 : Int) rfl rfl Try.underlying58 (eZ58) rfl rfl (by omega) (by omega) (Nat.le_refl _) (fun _ _ => trivial) fun v1 h2 ho1 hx2 hvb1 => ?_
    have hx0_1 := hx1.trans2 hx2 hx1.size
    have ho2 := ho1.base hx1.size
    refine lx_assign (v1) rfl rfl <| lx_nil <| wi_seq <| wi_seq <| wi_reg rfl <| lx_move (vp) rfl rfl <| lx_len rfl Try.underlying29 hr_vp rfl <| lx_move (.int .i64 0) rfl rfl <| lx_nil <| wi_block <| ?_
    refine wi_loop (σ := Nat × (List Int)) (rngB 21 48 [8, 9]) (fun (ss : Nat × (List Int)) => [(21, .int .i64 ((ss.1 : Nat) : Int))]) (fun (ss : Nat × (List Int)) (hh : Heap) => OwE encI hh h.size 2 v1 ss.2 ∧ Ext h.size h hh ∧ (ss.1 ≤ p.length) ∧ (ss.2 = accR p.length (smP (pb p) (gt xs)) ss.1 0)) (fun (ss : Nat × (List Int)) => p.length - ss.1) (0, List.replicate hs.length 0) ⟨rfl, trivial⟩ ⟨?_, hx0_1, ?_, ?_⟩ ?_
    · first | exact ho2 | (simpa using ho2)
    · try dsimp only
      omega
    · try dsimp only
      rw [hl_vp9]; exact accR_zero fun _ => rfl
    rintro g1 ⟨y, es⟩ hh1 ⟨ho3, hx0_2, hy, hes⟩ IH1
    dsimp only at *
    refine wi_seq <| wi_reg rfl <| lx_lssS rfl rfl rfl (fun c2 => ?_) (fun c2 => ?_)
    · refine lx_nil <| wi_seq <| wi_true rfl <| wi_skip <| wi_seq <| wi_block <| wi_seq <| wi_reg rfl <| lx_move (.int .i64 ((y : Nat) : Int)) rfl rfl <| lx_assign (.int .i64 ((y : Nat) : Int)) rfl rfl <| lx_nil <| wi_seq <| wi_reg rfl <| lx_move (vp) rfl rfl <| lx_len rfl Try.underlying29 hr_vp rfl <| lx_move (.int .i64 0) rfl rfl <| lx_nil <| wi_block <| ?_
      refine wi_loop (σ := Nat × (List Int)) (rngB 26 47 [9]) (fun (ss : Nat × (List Int)) => [(26, .int .i64 ((ss.1 : Nat) : Int))]) (fun (ss : Nat × (List Int)) (hh : Heap) => OwE encI hh h.size 2 v1 ss.2 ∧ Ext h.size h hh ∧ (ss.1 ≤ p.length) ∧ (ss.2 = accR p.length (smP (pb p) (gt xs)) y ss.1)) (fun (ss : Nat × (List Int)) => p.length - ss.1) (0, es) ⟨rfl, trivial⟩ ⟨?_, hx0_2, ?_, ?_⟩ ?_
      · first | exact ho3 | (simpa using ho3)
      · try dsimp only
        omega
      · try dsimp only
        exact hes
      rintro g2 ⟨x, es2⟩ hh2 ⟨ho4, hx0_3, hx, hes2⟩ IH2
      dsimp only at *
      have hel2 : es2.length = p.length := by rw [hes2]; exact accR_len _ _ _ _
      refine wi_seq <| wi_reg rfl <| lx_lssS rfl rfl rfl (fun c3 => ?_) (fun c3 => ?_)
      · refine lx_nil <| wi_seq <| wi_true rfl <| wi_skip <| wi_seq <| wi_block <| wi_seq <| wi_reg rfl <| lx_move (.int .i64 ((x : Nat) : Int)) rfl rfl <| lx_assign (.int .i64 ((x : Nat) : Int)) rfl rfl <| lx_nil <| wi_seq <| wi_reg rfl <| lx_move (vp) rfl rfl <| lx_move (.int .i64 ((x : Nat) : Int)) rfl rfl <| lx_ix (i := x) rfl eT29 hr_vp rfl rfl (by omega) <| lx_ld (i := x) (j := 0) ((gt hs x).v) rfl rfl fl70 (hr_vp.extS hx0_3) (by omega) rfl rfl <| lx_move (.int .i64 ((y : Nat) : Int)) rfl rfl <| lx_ix (i := y) rfl eT70 (ht_vp.2 x (by omega)) rfl rfl (by rw [hpq.2 x (by omega)]; omega) <| lx_ld (i := y) (j := 0) (.bool (gt (gt p x) y)) rfl rfl fl4 ((ht_vp.extS hx0_3).2 x (by omega)) (by rw [hpq.2 x (by omega)]; omega) rfl rfl <| lx_nil <| wi_condS (t := gt (gt p x) y) rfl (fun c4 => ?_) (fun c4 => ?_)
        · refine wi_draw mo rfl (by decide +kernel) <| ?_
          have hg1 := accR_at (F := (smP (pb p) (gt xs))) (x := x) (show y < p.length by omega)
          rw [← hes2] at hg1
          have hb1 := smP_bd (f := pb p) (a := gt xs) (y := y) (j := x) (by omega) fun i hi => hxb i (by omega)
          rw [← hg1] at hb1
          have hb2 := hxb x (by omega)
          refine lx_move (v1) rfl rfl <| lx_move (.int .i64 ((y : Nat) : Int)) rfl rfl <| lx_ix (i := y) rfl eT58 ho4.rd rfl rfl (by omega) <| lx_ld (i := y) (j := 0) (.int .i64 (gt es2 y)) rfl rfl fl2 ho4.rd (by omega) rfl rfl <| lx_move (vl) rfl rfl <| lx_move (.int .i64 ((x : Nat) : Int)) rfl rfl <| lx_ix (i := x) rfl eT58 hr_vl rfl rfl (by omega) <| lx_ld (i := x) (j := 0) (.int .i64 (gt xs x)) rfl rfl fl2 (hr_vl.extS hx0_3) (by omega) rfl rfl <| lx_add ((gt es2 y) + (gt xs x)) rfl rfl rfl (by omega) (by omega) (by omega) <| lx_ix (i := y) rfl eT58 ho4.rd rfl rfl (by omega) <| lx_st (i := y) ((gt es2 y) + (gt xs x)) rfl rfl Try.sizeOf2 ho4 (by omega) rfl rfl (fun _ _ _ _ _ => trivial) fun h3 ho5 hc1 hsz1 => ?_
          have hx0_4 := hx0_3.trans (ho4.ext hc1 hx0_3.size)
          refine lx_nil <| wi_inBlock <| wi_reg rfl <| lx_add (((x + 1 : Nat) : Int)) rfl rfl rfl (by omega) (by omega) (by omega) <| lx_move (.int .i64 ((x + 1 : Nat) : Int)) rfl rfl <| lx_nil <| ?_
          -- L2.1
          refine IH2 _ _ (x + 1, es2.set y ((gt es2 y) + (gt xs x))) (agree_ups rfl agree_self) ⟨rfl, trivial⟩ ⟨?_, hx0_4, ?_, ?_⟩ ?_
          · first | exact ho5 | (simpa using ho5)
          · try dsimp only
            omega
          · try dsimp only
            rw [hg1, hes2]; exact accR_step (by omega) (by rw [smP_succ, if_pos (by assumption)])
          · first | omega | (dsimp only; omega)
        · refine wi_skip <| wi_inBlock <| wi_reg rfl <| lx_add (((x + 1 : Nat) : Int)) rfl rfl rfl (by omega) (by omega) (by omega) <| lx_move (.int .i64 ((x + 1 : Nat) : Int)) rfl rfl <| lx_nil <| ?_
          -- L2.2
          refine IH2 _ _ (x + 1, es2) (agree_ups rfl agree_self) ⟨rfl, trivial⟩ ⟨?_, hx0_3, ?_, ?_⟩ ?_
          · first | exact ho4 | (simpa using ho4)
          · try dsimp only
            omega
          · try dsimp only
            rw [hes2]; exact accR_same (by rw [smP_succ, if_neg (by rw [show pb p x y = false from by assumption]; simp), Int.add_zero])
          · first | omega | (dsimp only; omega)
      · refine lx_nil <| wi_seq <| wi_false rfl <| wi_exit rfl <| wi_inBlock <| wi_reg rfl <| lx_add (((y + 1 : Nat) : Int)) rfl rfl rfl (by omega) (by omega) (by omega) <| lx_move (.int .i64 ((y + 1 : Nat) : Int)) rfl rfl <| lx_nil <| ?_
        -- L0.1
        refine IH1 _ _ (y + 1, es2) (agree_ups rfl (agree_mix (rngB_sub (by decide) (by decide) rfl) (agree_ups rfl agree_self))) ⟨rfl, trivial⟩ ⟨?_, hx0_3, ?_, ?_⟩ ?_
        · first | exact ho4 | (simpa using ho4)
        · try dsimp only
          omega
        · try dsimp only
          rw [hes2, show x = p.length from by omega]; exact accR_next fun _ => rfl
        · first | omega | (dsimp only; omega)
    · refine lx_nil <| wi_seq <| wi_false rfl <| wi_exit rfl <| wi_seq <| wi_reg rfl <| lx_move (v1) rfl rfl <| lx_assign (v1) rfl rfl <| lx_assign (.int .i64 0) rfl rfl <| lx_nil <| ?_
      -- R2
      refine wi_ret ⟨.tuple #[v1, .int .i64 0], (res_two rfl rfl rfl), ⟨v1, es, ?_, ho3, ?_, hx0_2⟩⟩
      · rw [show lisE p xs = 0 from by omega]
      · exact .inr ⟨by omega, by rw [hes, show y = p.length from by omega]; exact accR_end⟩

set_option maxRecDepth 10000 in
theorem odiff_spec (h : Heap) (vp : Value) (hs : List Hdr) (p : List (List Bool)) (vl : Value) (xs : List Int) (hr_vp : RdE encHd h vp hs) (ht_vp : RT encB h hs p) (hr_vl : RdE encI h vl xs) (hp1 : p.length ≤ 1000000) (hp2 : ∀ i, i < p.length → (gt p i).length ≤ 1000000) (hp3 : xs.length ≤ 1000000) (hp4 : p.length ≤ 9) : Fx Try.prog 48 [vp, vl] h (fun v h' => ∃ (s : Value) (ys : List Int), v = .tuple #[s, .int .i64 (lisE p xs)] ∧ OwE encI h' h.size 2 s ys ∧ ((lisE p xs ≠ 0 ∧ ys = []) ∨ (lisE p xs = 0 ∧ ys = dfT p.length (pb p) xs)) ∧ Ext h.size h h') := by
  have hl_vp := ht_vp.1
  refine fx_intro (n := 53) [(0, vp), (1, vl)] Try.func48 rfl rfl (by simp) ⟨rfl, rfl, trivial⟩ fun g0 => ?_
  refine wi_seq <| wi_reg rfl <| lx_assign (.slice none 0 0) rfl rfl <| lx_assign (.int .i64 0) rfl rfl <| lx_nil <| wi_seq <| wi_seq <| wi_reg rfl <| lx_move (vp) rfl rfl <| lx_move (vl) rfl rfl <| lx_call [vp, vl] rfl rfl Try.call107 rfl (checkList_spec h vp hs p vl xs hr_vp ht_vp hr_vl (by omega) (by first | with_reducible assumption | omega) (by omega)) (fun _ _ _ => trivial) ?_
  rintro _ h1 ⟨rfl, hx1⟩
  refine lx_assign (.int .i64 (lisE p xs)) rfl rfl <| lx_nil <| wi_seq <| wi_reg rfl <| lx_move (.int .i64 (lisE p xs)) rfl rfl <| lx_neqS rfl rfl rfl (fun c1 => ?_) (fun c1 => ?_)
  · refine lx_nil <| wi_true rfl <| wi_seq <| wi_reg rfl <| lx_move (.int .i64 (lisE p xs)) rfl rfl <| lx_assign (.slice none 0 0) rfl rfl <| lx_assign (.int .i64 (lisE p xs)) rfl rfl <| lx_nil <| ?_
    -- R1
    refine wi_ret ⟨.tuple #[.slice none 0 0, .int .i64 (lisE p xs)], (res_two rfl rfl rfl), ⟨.slice none 0 0, [], rfl, (owE_nil encI _ h.size 2), ?_, hx1⟩⟩
    · exact .inl ⟨by omega, rfl⟩
  · refine lx_nil <| wi_false rfl <| wi_skip <| wi_seq <| wi_reg rfl <| ?_
    obtain ⟨hck, hxl, hxb⟩ := lisE_zero (p := p) (xs := xs) (by omega)
    have hok := chkT_ok (p := p) (by omega)
    have hp12 : p.length ≤ 12 := hok.2.1
    have hpq : Sq p p.length := isT_sq hok.2.2
    have hio := isT_o hok.2.2
    have hl_vp9 : hs.length = p.length := by first | assumption | omega
    refine lx_move (vp) rfl rfl <| lx_len rfl Try.underlying29 hr_vp rfl <| lx_make (E := encI) (n := hs.length) (B := h1.size) (0 : Int) rfl rfl Try.underlying58 (eZ58) rfl rfl (by omega) (by omega) (Nat.le_refl _) (fun _ _ => trivial) fun v1 h2 ho1 hx2 hvb1 => ?_
    have hx0_1 := hx1.trans2 hx2 hx1.size
    have ho2 := ho1.base hx1.size
    refine lx_assign (v1) rfl rfl <| lx_nil <| wi_seq <| wi_reg rfl <| lx_move (vp) rfl rfl <| lx_call [vp] rfl rfl Try.call108 rfl (moebius_spec h2 vp hs p (hr_vp.extS hx0_1) (ht_vp.extS hx0_1) hp12 hok.2.2) (fun _ _ _ => trivial) ?_
    rintro vmu h3 ⟨_, hmu, rfl, ho3, hot1, hx3⟩
    have hx0_2 := hx0_1.trans2 hx3 hx0_1.size
    have ho4 := ho2.extS hx3
    have ho5 := ho3.base hx0_1.size
    have hot2 := hot1.base hx0_1.size
    have hl_hot2 := hot2.1
    refine lx_assign (vmu) rfl rfl <| lx_nil <| wi_seq <| wi_seq <| wi_reg rfl <| ?_
    have hml : (muT p.length (pb p)).length = p.length := muT_len _ _
    refine lx_move (vp) rfl rfl <| lx_len rfl Try.underlying29 hr_vp rfl <| lx_move (.int .i64 0) rfl rfl <| lx_nil <| wi_block <| ?_
    refine wi_loop (σ := Nat × (List Int)) (rngB 24 52 [9, 10]) (fun (ss : Nat × (List Int)) => [(24, .int .i64 ((ss.1 : Nat) : Int))]) (fun (ss : Nat × (List Int)) (hh : Heap) => OwE encI hh h.size 2 v1 ss.2 ∧ OwE encHd hh h.size 25 vmu hmu ∧ OT encI hh h.size 3 hmu (muT p.length (pb p)) ∧ Djt hmu v1 ∧ Ext h.size h hh ∧ (ss.1 ≤ p.length) ∧ (ss.2 = accR p.length (dfP p.length (pb p) (gt xs)) ss.1 0)) (fun (ss : Nat × (List Int)) => p.length - ss.1) (0, List.replicate hs.length 0) ⟨rfl, trivial⟩ ⟨?_, ?_, ?_, (djt_newT ho2 hot1), hx0_2, ?_, ?_⟩ ?_
    · first | exact ho4 | (simpa using ho4)
    · first | exact ho5 | (simpa using ho5)
    · first | exact hot2 | (simpa using hot2)
    · try dsimp only
      omega
    · try dsimp only
      rw [hl_vp9]; exact accR_zero fun _ => rfl
    rintro g1 ⟨y, es⟩ hh1 ⟨ho6, ho7, hot3, hdt1, hx0_3, hy, hes⟩ IH1
    dsimp only at *
    have hl_hot3 := hot3.1
    refine wi_seq <| wi_reg rfl <| lx_lssS rfl rfl rfl (fun c2 => ?_) (fun c2 => ?_)
    · refine lx_nil <| wi_seq <| wi_true rfl <| wi_skip <| wi_seq <| wi_block <| wi_seq <| wi_reg rfl <| lx_move (.int .i64 ((y : Nat) : Int)) rfl rfl <| lx_assign (.int .i64 ((y : Nat) : Int)) rfl rfl <| lx_nil <| wi_seq <| wi_reg rfl <| lx_move (vp) rfl rfl <| lx_len rfl Try.underlying29 hr_vp rfl <| lx_move (.int .i64 0) rfl rfl <| lx_nil <| wi_block <| ?_
      refine wi_loop (σ := Nat × (List Int)) (rngB 29 51 [10]) (fun (ss : Nat × (List Int)) => [(29, .int .i64 ((ss.1 : Nat) : Int))]) (fun (ss : Nat × (List Int)) (hh : Heap) => OwE encI hh h.size 2 v1 ss.2 ∧ OwE encHd hh h.size 25 vmu hmu ∧ OT encI hh h.size 3 hmu (muT p.length (pb p)) ∧ Djt hmu v1 ∧ Ext h.size h hh ∧ (ss.1 ≤ p.length) ∧ (ss.2 = accR p.length (dfP p.length (pb p) (gt xs)) y ss.1)) (fun (ss : Nat × (List Int)) => p.length - ss.1) (0, es) ⟨rfl, trivial⟩ ⟨?_, ?_, ?_, hdt1, hx0_3, ?_, ?_⟩ ?_
      · first | exact ho6 | (simpa using ho6)
      · first | exact ho7 | (simpa using ho7)
      · first | exact hot3 | (simpa using hot3)
      · try dsimp only
        omega
      · try dsimp only
        exact hes
      rintro g2 ⟨x, es2⟩ hh2 ⟨ho8, ho9, hot4, hdt2, hx0_4, hx, hes2⟩ IH2
      dsimp only at *
      have hel2 : es2.length = p.length := by rw [hes2]; exact accR_len _ _ _ _
      have hl_hot4 := hot4.1
      refine wi_seq <| wi_reg rfl <| lx_lssS rfl rfl rfl (fun c3 => ?_) (fun c3 => ?_)
      · refine lx_nil <| wi_seq <| wi_true rfl <| wi_skip <| wi_seq <| wi_block <| wi_seq <| wi_reg rfl <| lx_move (.int .i64 ((x : Nat) : Int)) rfl rfl <| lx_assign (.int .i64 ((x : Nat) : Int)) rfl rfl <| lx_nil <| wi_draw mo rfl (by decide +kernel) <| ?_
        have hg1 := accR_at (F := (dfP p.length (pb p) (gt xs))) (x := x) (show y < p.length by omega)
        rw [← hes2] at hg1
        have hb1 := dfP_bd hio hp4 (a := gt xs) (y := y) (j := x) (by omega) (by omega) fun i hi => hxb i (by omega)
        rw [← hg1] at hb1
        have hb2 := hxb x (by omega)
        have hb3 := mu9 hio hp4 (show x < p.length by omega) (show y < p.length by omega)
        have hb4 := mul_bd hb2 hb3
        have hb5 := dfP_bd hio hp4 (a := gt xs) (y := y) (j := x + 1) (by omega) (by omega) fun i hi => hxb i (by omega)
        rw [dfP_succ, ← hg1] at hb5
        have hmr : (gt (muT p.length (pb p)) x).length = p.length := by rw [gt_muT (by omega)]; exact mapR_len _ _
        have hmg : gt (gt (muT p.length (pb p)) x) y = muF p.length (pb p) x y := by rw [gt_muT (by omega), gt_mapR (by omega)]
        refine lx_move (v1) rfl rfl <| lx_move (.int .i64 ((y : Nat) : Int)) rfl rfl <| lx_ix (i := y) rfl eT58 ho8.rd rfl rfl (by omega) <| lx_ld (i := y) (j := 0) (.int .i64 (gt es2 y)) rfl rfl fl2 ho8.rd (by omega) rfl rfl <| lx_move (vl) rfl rfl <| lx_move (.int .i64 ((x : Nat) : Int)) rfl rfl <| lx_ix (i := x) rfl eT58 hr_vl rfl rfl (by omega) <| lx_ld (i := x) (j := 0) (.int .i64 (gt xs x)) rfl rfl fl2 (hr_vl.extS hx0_4) (by omega) rfl rfl <| lx_move (vmu) rfl rfl <| lx_move (.int .i64 ((x : Nat) : Int)) rfl rfl <| lx_ix (i := x) rfl eT49 ho9.rd rfl rfl (by omega) <| lx_ld (i := x) (j := 0) ((gt hmu x).v) rfl rfl fl25 ho9.rd (by omega) rfl rfl <| lx_move (.int .i64 ((y : Nat) : Int)) rfl rfl <| lx_ix (i := y) rfl eT25 (hot4.2.1 x (by omega)).rd rfl rfl (by omega) <| lx_ld (i := y) (j := 0) (.int .i64 (muF p.length (pb p) x y)) rfl rfl fl3 (hot4.2.1 x (by omega)).rd (by omega) (by show some (Value.int .i64 (gt (gt (muT p.length (pb p)) x) y)) = _; rw [hmg]) rfl <| lx_mul ((gt xs x) * (muF p.length (pb p) x y)) rfl rfl rfl (by omega) (by omega) (by omega) <| lx_add ((gt es2 y) + ((gt xs x) * (muF p.length (pb p) x y))) rfl rfl rfl (by omega) (by omega) (by omega) <| lx_ix (i := y) rfl eT58 ho8.rd rfl rfl (by omega) <| lx_st (i := y) ((gt es2 y) + ((gt xs x) * (muF p.length (pb p) x y))) rfl rfl Try.sizeOf2 ho8 (by omega) rfl rfl (fun _ _ _ _ _ => trivial) fun h4 ho10 hc1 hsz1 => ?_
        have hx0_5 := hx0_4.trans (ho8.ext hc1 hx0_4.size)
        have ho11 := ho9.chg hc1 (Dj.symm (dj_new ho2 ho3))
        have hot5 := hot4.chg hc1 hdt2
        refine lx_nil <| wi_inBlock <| wi_reg rfl <| lx_add (((x + 1 : Nat) : Int)) rfl rfl rfl (by omega) (by omega) (by omega) <| lx_move (.int .i64 ((x + 1 : Nat) : Int)) rfl rfl <| lx_nil <| ?_
        -- L2.1
        refine IH2 _ _ (x + 1, es2.set y ((gt es2 y) + ((gt xs x) * (muF p.length (pb p) x y)))) (agree_ups rfl agree_self) ⟨rfl, trivial⟩ ⟨?_, ?_, ?_, hdt2, hx0_5, ?_, ?_⟩ ?_
        · first | exact ho10 | (simpa using ho10)
        · first | exact ho11 | (simpa using ho11)
        · first | exact hot5 | (simpa using hot5)
        · try dsimp only
          omega
        · try dsimp only
          rw [hg1, hes2]; exact accR_step (by omega) dfP_succ
        · first | omega | (dsimp only; omega)
      · refine lx_nil <| wi_seq <| wi_false rfl <| wi_exit rfl <| wi_inBlock <| wi_reg rfl <| lx_add (((y + 1 : Nat) : Int)) rfl rfl rfl (by omega) (by omega) (by omega) <| lx_move (.int .i64 ((y + 1 : Nat) : Int)) rfl rfl <| lx_nil <| ?_
        -- L0.1
        refine IH1 _ _ (y + 1, es2) (agree_ups rfl (agree_mix (rngB_sub (by decide) (by decide) rfl) (agree_ups rfl agree_self))) ⟨rfl, trivial⟩ ⟨?_, ?_, ?_, hdt2, hx0_4, ?_, ?_⟩ ?_
        · first | exact ho8 | (simpa using ho8)
        · first | exact ho9 | (simpa using ho9)
        · first | exact hot4 | (simpa using hot4)
        · try dsimp only
          omega
        · try dsimp only
          rw [hes2, show x = p.length from by omega]; exact accR_next fun _ => rfl
        · first | omega | (dsimp only; omega)
    · refine lx_nil <| wi_seq <| wi_false rfl <| wi_exit rfl <| wi_seq <| wi_reg rfl <| lx_move (v1) rfl rfl <| lx_assign (v1) rfl rfl <| lx_assign (.int .i64 0) rfl rfl <| lx_nil <| ?_
      -- R2
      refine wi_ret ⟨.tuple #[v1, .int .i64 0], (res_two rfl rfl rfl), ⟨v1, es, ?_, ho6, ?_, hx0_3⟩⟩
      · rw [show lisE p xs = 0 from by omega]
      · exact .inr ⟨by omega, by rw [hes, show y = p.length from by omega]; exact accR_end⟩

end Go.Proofs.Ytdokijbdnajhgaa
namespace Go.Proofs.Ytdokijbdnajhgaa
open Go Go.X

/-- The next row of the numbers of chains: from the elements before 'z', and from 'z' to those before 'w'. -/
def chP (n : Nat) (f : Nat → Nat → Bool) (x k z w q : Nat) : Int := (sumI z fun a => if blw f a q then chN n f x k a else 0) + if q < w then (if blw f z q then chN n f x k z else 0) else 0
theorem chP_zero {n : Nat} {f : Nat → Nat → Bool} {x k q : Nat} : chP n f x k 0 0 q = 0 := rfl
theorem chP_next {n : Nat} {f : Nat → Nat → Bool} {x k z q w : Nat} (hq : q < w) : chP n f x k z w q = chP n f x k (z + 1) 0 q := by unfold chP; rw [if_pos hq, if_neg (show ¬ q < 0 by omega), sumI]; omega
theorem chP_all {n : Nat} {f : Nat → Nat → Bool} {x k q : Nat} : chP n f x k n 0 q = chN n f x (k + 1) q := by unfold chP; rw [if_neg (show ¬ q < 0 by omega), chN, Int.add_zero]
theorem chP_step {n : Nat} {f : Nat → Nat → Bool} {x k z w q : Nat} : chP n f x k z (w + 1) q = chP n f x k z w q + if q = w then (if blw f z q then chN n f x k z else 0) else 0 := by
  unfold chP
  by_cases e : q = w
  · rw [if_pos e, if_pos (show q < w + 1 by omega), if_neg (show ¬ q < w by omega)]; omega
  · rw [if_neg e]
    by_cases e2 : q < w
    · rw [if_pos e2, if_pos (show q < w + 1 by omega)]; omega
    · rw [if_neg e2, if_neg (show ¬ q < w + 1 by omega)]; omega
theorem chP_bound {n : Nat} {f : Nat → Nat → Bool} {x k z w q : Nat} (hn : n ≤ 12) (hk : k ≤ 12) (hz : z < n) : 0 ≤ chP n f x k z w q ∧ chP n f x k z w q ≤ 115909305827328 := by
  have hb : ∀ a, 0 ≤ chN n f x k a ∧ chN n f x k a ≤ 8916100448256 := fun a => by
    have h1 := chN_bound (f := f) (x := x) hn k a
    have h2 : 12 ^ k ≤ 12 ^ 12 := Nat.pow_le_pow_right (by omega) hk
    omega
  have hpos : ∀ (m : Nat) (g : Nat → Int), (∀ i, i < m → 0 ≤ g i) → 0 ≤ sumI m g := by
    intro m
    induction m with
    | zero => intro g _; exact Int.le_refl _
    | succ m ih => intro g hg; unfold sumI; have := ih g (fun i hi => hg i (by omega)); have := hg m (by omega); omega
  have h1 : ∀ a, 0 ≤ (if blw f a q then chN n f x k a else 0) ∧ (if blw f a q then chN n f x k a else 0) ≤ 8916100448256 := fun a => by
    have := hb a
    split
    · exact this
    · omega
  have h2 := hpos z (fun a => if blw f a q then chN n f x k a else 0) fun i _ => (h1 i).1
  have h3 := (sumI_bound (B := 8916100448256) (by decide) (n := z) (g := fun a => if blw f a q then chN n f x k a else 0) fun i _ => ⟨by have := (h1 i).1; omega, (h1 i).2⟩).2
  have h4 := h1 z
  unfold chP
  split <;> omega
theorem chP_set {n : Nat} {f : Nat → Nat → Bool} {x k z w : Nat} (hw : w < n) (h : blw f z w = true) : (mapR n (chP n f x k z w)).set w (chP n f x k z w w + chN n f x k z) = mapR n (chP n f x k z (w + 1)) := by
  rw [mapR_set hw]
  refine mapR_congr fun q _ => ?_
  rw [chP_step]
  by_cases e : q = w
  · subst e; rw [if_pos rfl, if_pos rfl, if_pos h]
  · rw [if_neg e, if_neg e]; omega
theorem chP_skip {n : Nat} {f : Nat → Nat → Bool} {x k z w : Nat} (h : blw f z w = false) : mapR n (chP n f x k z w) = mapR n (chP n f x k z (w + 1)) := mapR_congr fun q _ => by
  rw [chP_step]
  by_cases e : q = w
  · subst e; rw [if_pos rfl, h, if_neg (by simp), Int.add_zero]
  · rw [if_neg e, Int.add_zero]
theorem chN_start {n : Nat} {f : Nat → Nat → Bool} {x : Nat} (hx : x < n) : (List.replicate n (0 : Int)).set x 1 = mapR n (chN n f x 0) := by
  rw [rep_mapR, mapR_set hx]; rfl

set_option maxRecDepth 10000 in
theorem lengths1_seq (b1 b2 b3 : Nat) (vp : Value) (hs : List Hdr) (p : List (List Bool)) (x y : Nat) (hp1 : p.length ≤ 12) (hp2 : Sq p p.length) (hp3 : x < p.length) (hp4 : y < p.length) (hp5 : hs.length = p.length) : SeqO Try.prog 145 [.pointer (some ⟨b1, 0, none⟩), .pointer (some ⟨b2, 0, none⟩), .pointer (some ⟨b3, 0, none⟩)] 2 (fun h => Blk h b1 #[vp] 29 ∧ Blk h b2 #[.int .i64 ((x : Nat) : Int)] 3 ∧ Blk h b3 #[.int .i64 ((y : Nat) : Int)] 3 ∧ RdE encHd h vp hs ∧ RT encB h hs p) p.length (fun k => [.int .i64 (chN p.length (pb p) x k y)]) := by
  intro l h J hJS hCap hLt hY h0
  obtain ⟨hcp1, hcp2, hcp3, hcp4, hcp5⟩ := hCap _ _ _ h0
  refine fx_intro (n := 57) [(0, .func (.yield l) #[] #[]), (1, .pointer (some ⟨b1, 0, none⟩)), (2, .pointer (some ⟨b2, 0, none⟩)), (3, .pointer (some ⟨b3, 0, none⟩))] Try.func145 rfl rfl (by simp) ⟨rfl, rfl, rfl, rfl, trivial⟩ fun g0 => ?_
  refine wi_seq <| wi_reg rfl <| lx_ldB (vp) rfl rfl fl29 hcp1 rfl rfl <| lx_len rfl Try.underlying29 hcp4 rfl <| lx_make (E := encI) (n := hs.length) (B := h.size) (0 : Int) rfl rfl Try.underlying58 (eZ58) rfl rfl (by omega) (by omega) (Nat.le_refl _) (fun _ _ => trivial) fun v1 h1 ho1 hx1 hvb1 => ?_
  have hch1 := hx1
  have hsz_hch1 := hch1.1
  have hx0_1 := hx1.mono (Nat.le_refl h.size)
  have hb1 := hcp1.extS hx1
  have hb2 := hcp2.extS hx1
  have hb3 := hcp3.extS hx1
  have hnw_v1 : ∀ g9, Value.ownBlock v1 = some g9 → (h).size ≤ g9 := fun g9 e9 => Nat.le_trans (Nat.le_refl _) (ho1.lt e9).1
  have ho2 := ho1.base (Nat.le_refl h.size)
  refine lx_assign (v1) rfl rfl <| lx_nil <| wi_seq <| wi_reg rfl <| lx_move (v1) rfl rfl <| lx_ldB (.int .i64 ((x : Nat) : Int)) rfl rfl fl3 hb2 rfl rfl <| lx_ix (i := x) rfl eT58 ho2.rd rfl rfl (by first | omega | (simp only [List.length_set, List.length_append, List.length_cons, List.length_nil, List.length_replicate, List.length_take, swp_length, exch_length]; omega)) <| lx_st (i := x) ((1 : Int)) rfl rfl Try.sizeOf2 ho2 (by first | omega | (simp only [List.length_set, List.length_append, List.length_cons, List.length_nil, List.length_replicate, List.length_take, swp_length, exch_length]; omega)) rfl rfl (fun _ _ _ _ _ => trivial) fun h2 ho3 hc1 hsz1 => ?_
  have hch2 := hch1.trans ((Ext.of_chgN hc1 (by assumption) hch1.size : Ext (h).size _ _))
  have hsz_hch2 := hch2.1
  have hx0_2 := hx0_1.trans (ho2.ext hc1 (Nat.le_trans (Nat.le_refl h.size) hx0_1.size))
  have hb4 := hb1.chg hc1 (nb_new hcp1 ho1)
  have hb5 := hb2.chg hc1 (nb_new hcp2 ho1)
  have hb6 := hb3.chg hc1 (nb_new hcp3 ho1)
  refine lx_nil <| wi_seq <| wi_reg rfl <| lx_ldB (vp) rfl rfl fl29 hb4 rfl rfl <| lx_len rfl Try.underlying29 hcp4 rfl <| lx_move (.int .i64 0) rfl rfl <| lx_nil <| wi_block <| ?_
  refine wi_loop (σ := Nat × (Option Nat) × Value × (List Int)) (rngB 18 57 [5, 6, 7, 8, 9]) (fun (ss : Nat × (Option Nat) × Value × (List Int)) => [(18, .int .i64 ((ss.1 : Nat) : Int)), (5, ss.2.2.1)]) (fun (ss : Nat × (Option Nat) × Value × (List Int)) (hh : Heap) => h.size ≤ hh.size ∧ J ss.1 ss.2.1 hh ∧ OwE encI hh h.size 2 ss.2.2.1 ss.2.2.2 ∧ (ss.1 ≤ p.length) ∧ (∀ g9, Value.ownBlock ss.2.2.1 = some g9 → ss.2.1 ≠ some g9) ∧ (ss.2.2.2 = mapR p.length (chN p.length (pb p) x ss.1))) (fun (ss : Nat × (Option Nat) × Value × (List Int)) => p.length - ss.1) (0, none, v1, (List.replicate hs.length (0 : Int)).set x ((1 : Int))) ⟨rfl, rfl, trivial⟩ ⟨(Nat.le_trans (Nat.le_refl h.size) hx0_2.size), (hJS _ _ _ _ h0 hch2), ?_, ?_, ?_, ?_⟩ ?_
  · first | exact ho3 | (simpa using ho3)
  · try dsimp only
    omega
  · try dsimp only
    intro g9 _ e9; cases e9
  · try dsimp only
    rw [hp5]; exact chN_start hp3
  rintro g1 ⟨k, o, v, es⟩ hh1 ⟨hle1, hJ1, ho4, hk, hvo, hes⟩ IH1
  dsimp only at *
  have hel : es.length = p.length := by rw [hes]; exact mapR_len _ _
  obtain ⟨hcp6, hcp7, hcp8, hcp9, hcp10⟩ := hCap _ _ _ hJ1
  refine wi_seq <| wi_reg rfl <| lx_lssS rfl rfl rfl (fun c1 => ?_) (fun c1 => ?_)
  · have hJk1 := hJ1
    have hy2 := hY _ _ _ (by omega) hJk1
    dsimp only at hy2
    rw [show chN p.length (pb p) x k y = gt es y from by rw [hes, gt_mapR hp4]] at hy2
    refine lx_nil <| wi_seq <| wi_true rfl <| wi_skip <| wi_seq <| wi_block <| wi_seq <| wi_seq <| wi_reg rfl <| lx_move (.func (.yield l) #[] #[]) rfl rfl <| lx_move (v) rfl rfl <| lx_ldB (.int .i64 ((y : Nat) : Int)) rfl rfl fl3 hcp8 rfl rfl <| lx_ix (i := y) rfl eT58 ho4.rd rfl rfl (by omega) <| lx_ld (i := y) (j := 0) (.int .i64 (gt es y)) rfl rfl fl2 ho4.rd (by omega) rfl rfl <| lx_yield [.int .i64 (gt es y)] rfl rfl rfl rfl hy2 (fun _ _ => trivial) fun h3 ⟨o1, hty1, hno1, hJ2⟩ => ?_
    have ho5 := hty1.owE ho4 (by assumption)
    have hlt_o1 : ∀ b9, o1 = some b9 → b9 < h3.size := hLt _ _ _ hJ2
    have hle2 : h.size ≤ h3.size := Nat.le_trans hle1 hty1.1
    obtain ⟨hcp11, hcp12, hcp13, hcp14, hcp15⟩ := hCap _ _ _ hJ2
    refine lx_notB false rfl rfl rfl <| lx_nil <| wi_false rfl <| wi_skip <| wi_seq <| wi_reg rfl <| lx_ldB (vp) rfl rfl fl29 hcp11 rfl rfl <| lx_len rfl Try.underlying29 hcp14 rfl <| lx_make (E := encI) (n := hs.length) (B := h3.size) (0 : Int) rfl rfl Try.underlying58 (eZ58) rfl rfl (by omega) (by omega) (Nat.le_refl _) (fun _ _ => trivial) fun v2 h4 ho6 hx2 hvb2 => ?_
    have hch3 := hx2
    have hsz_hch3 := hch3.1
    have hx0_3 := hx2.mono hle2
    have ho7 := ho5.extS hx2
    have hb7 := hcp11.extS hx2
    have hb8 := hcp12.extS hx2
    have hb9 := hcp13.extS hx2
    have hxr1 := (Ext.refl h3.size h3).trans2 hx2 (Ext.refl h3.size h3).size
    have hnw_v2 : ∀ g9, Value.ownBlock v2 = some g9 → (h3).size ≤ g9 := fun g9 e9 => Nat.le_trans (Nat.le_refl _) (ho6.lt e9).1
    have ho8 := ho6.base hle2
    refine lx_assign (v2) rfl rfl <| lx_nil <| wi_seq <| wi_seq <| wi_reg rfl <| lx_move (v) rfl rfl <| lx_len rfl Try.underlying58 ho7.rd rfl <| lx_move (.int .i64 0) rfl rfl <| lx_nil <| wi_block <| ?_
    refine wi_loop (σ := Nat × (List Int)) (rngB 32 55 [7, 8, 9]) (fun (ss : Nat × (List Int)) => [(32, .int .i64 ((ss.1 : Nat) : Int))]) (fun (ss : Nat × (List Int)) (hh : Heap) => Ext (h3).size h3 hh ∧ OwE encI hh h.size 2 v es ∧ OwE encI hh h.size 2 v2 ss.2 ∧ Dj v v2 ∧ (ss.1 ≤ p.length) ∧ (ss.2 = mapR p.length (chP p.length (pb p) x k ss.1 0))) (fun (ss : Nat × (List Int)) => p.length - ss.1) (0, List.replicate hs.length 0) ⟨rfl, trivial⟩ ⟨hch3, ?_, ?_, (dj_new ho5 ho6), ?_, ?_⟩ ?_
    · first | exact ho7 | (simpa using ho7)
    · first | exact ho8 | (simpa using ho8)
    · try dsimp only
      omega
    · try dsimp only
      rw [hp5]; exact (rep_mapR _ _).trans (mapR_congr fun q _ => chP_zero.symm)
    rintro g2 ⟨z, es2⟩ hh2 ⟨hch4, ho9, ho10, hdj1, hz, hes2⟩ IH2
    dsimp only at *
    have hx0_4 := hch4.mono hle2
    obtain ⟨hcp16, hcp17, hcp18, hcp19, hcp20⟩ := hCap _ _ _ (hJS _ _ _ _ hJ2 hch4)
    refine wi_seq <| wi_reg rfl <| lx_lssS rfl rfl rfl (fun c2 => ?_) (fun c2 => ?_)
    · refine lx_nil <| wi_seq <| wi_true rfl <| wi_skip <| wi_seq <| wi_block <| wi_seq <| wi_reg rfl <| lx_move (.int .i64 ((z : Nat) : Int)) rfl rfl <| lx_ix (i := z) rfl eT58 ho9.rd rfl rfl (by omega) <| lx_ld (i := z) (j := 0) (.int .i64 (gt es z)) rfl rfl fl2 ho9.rd (by omega) rfl rfl <| lx_assign (.int .i64 ((z : Nat) : Int)) rfl rfl <| lx_assign (.int .i64 (gt es z)) rfl rfl <| lx_nil <| wi_seq <| wi_reg rfl <| lx_ldB (vp) rfl rfl fl29 hcp16 rfl rfl <| lx_len rfl Try.underlying29 hcp19 rfl <| lx_move (.int .i64 0) rfl rfl <| lx_nil <| wi_block <| ?_
      refine wi_loop (σ := Nat × (List Int)) (rngB 39 54 [9]) (fun (ss : Nat × (List Int)) => [(39, .int .i64 ((ss.1 : Nat) : Int))]) (fun (ss : Nat × (List Int)) (hh : Heap) => Ext (h3).size h3 hh ∧ OwE encI hh h.size 2 v es ∧ OwE encI hh h.size 2 v2 ss.2 ∧ Dj v v2 ∧ (ss.1 ≤ p.length) ∧ (ss.2 = mapR p.length (chP p.length (pb p) x k z ss.1))) (fun (ss : Nat × (List Int)) => p.length - ss.1) (0, es2) ⟨rfl, trivial⟩ ⟨hch4, ?_, ?_, hdj1, ?_, ?_⟩ ?_
      · first | exact ho9 | (simpa using ho9)
      · first | exact ho10 | (simpa using ho10)
      · try dsimp only
        omega
      · try dsimp only
        exact hes2
      rintro g3 ⟨w, es3⟩ hh3 ⟨hch5, ho11, ho12, hdj2, hw, hes3⟩ IH3
      dsimp only at *
      have hel3 : es3.length = p.length := by rw [hes3]; exact mapR_len _ _
      have hx0_5 := hch5.mono hle2
      obtain ⟨hcp21, hcp22, hcp23, hcp24, hcp25⟩ := hCap _ _ _ (hJS _ _ _ _ hJ2 hch5)
      refine wi_seq <| wi_reg rfl <| lx_lssS rfl rfl rfl (fun c3 => ?_) (fun c3 => ?_)
      · refine lx_nil <| wi_seq <| wi_true rfl <| wi_skip <| wi_seq <| wi_block <| wi_seq <| wi_reg rfl <| lx_move (.int .i64 ((w : Nat) : Int)) rfl rfl <| lx_assign (.int .i64 ((w : Nat) : Int)) rfl rfl <| lx_nil <| wi_seq <| wi_reg rfl <| lx_ldB (vp) rfl rfl fl29 hcp21 rfl rfl <| lx_move (.int .i64 ((z : Nat) : Int)) rfl rfl <| lx_move (.int .i64 ((w : Nat) : Int)) rfl rfl <| lx_call [vp, .int .i64 ((z : Nat) : Int), .int .i64 ((w : Nat) : Int)] rfl rfl Try.call106 rfl (below_spec hh3 vp hs p z w hcp24 hcp25 (by omega) (by first | with_reducible assumption | omega) (by omega) (by omega)) (fun _ _ _ => trivial) ?_
        rintro _ h5 ⟨rfl, rfl⟩
        refine lx_nil <| wi_condS (t := decide (z ≠ w) && pb p z w) rfl (fun c4 => ?_) (fun c4 => ?_)
        · refine wi_reg rfl <| ?_
          have hbl : blw (pb p) z w = true := by assumption
          have hg1 : gt es3 w = chP p.length (pb p) x k z w w := by rw [hes3, gt_mapR (by omega)]
          have hg2 : gt es z = chN p.length (pb p) x k z := by rw [hes, gt_mapR (by omega)]
          have hb1 := chP_bound (f := pb p) (x := x) (k := k) (z := z) (w := w) (q := w) hp1 (by omega) (by omega)
          rw [← hg1] at hb1
          have hb2 := chN_bound (f := pb p) (x := x) hp1 k z
          have hb3 : 12 ^ k ≤ 12 ^ 12 := Nat.pow_le_pow_right (by omega) (by omega)
          rw [← hg2] at hb2
          refine lx_move (v2) rfl rfl <| lx_move (.int .i64 ((w : Nat) : Int)) rfl rfl <| lx_ix (i := w) rfl eT58 ho12.rd rfl rfl (by omega) <| lx_ld (i := w) (j := 0) (.int .i64 (gt es3 w)) rfl rfl fl2 ho12.rd (by omega) rfl rfl <| lx_move (.int .i64 (gt es z)) rfl rfl <| lx_add ((gt es3 w) + (gt es z)) rfl rfl rfl (by omega) (by omega) (by omega) <| lx_ix (i := w) rfl eT58 ho12.rd rfl rfl (by omega) <| lx_st (i := w) ((gt es3 w) + (gt es z)) rfl rfl Try.sizeOf2 ho12 (by omega) rfl rfl (fun _ _ _ _ _ => trivial) fun h6 ho13 hc2 hsz2 => ?_
          have hch6 := hch5.trans ((Ext.of_chgN hc2 (by assumption) hch5.size : Ext (h3).size _ _))
          have hsz_hch6 := hch6.1
          have hx0_6 := hx0_5.trans (ho12.ext hc2 (Nat.le_trans hle2 hx0_5.size))
          have ho14 := ho11.chg hc2 hdj2
          have hb10 := hcp21.chg hc2 (nb_new hcp11 ho6)
          have hb11 := hcp22.chg hc2 (nb_new hcp12 ho6)
          have hb12 := hcp23.chg hc2 (nb_new hcp13 ho6)
          refine lx_nil <| wi_inBlock <| wi_reg rfl <| lx_add (((w + 1 : Nat) : Int)) rfl rfl rfl (by omega) (by omega) (by omega) <| lx_move (.int .i64 ((w + 1 : Nat) : Int)) rfl rfl <| lx_nil <| ?_
          -- L4.1
          refine IH3 _ _ (w + 1, es3.set w ((gt es3 w) + (gt es z))) (agree_ups rfl agree_self) ⟨rfl, trivial⟩ ⟨hch6, ?_, ?_, hdj2, ?_, ?_⟩ ?_
          · first | exact ho14 | (simpa using ho14)
          · first | exact ho13 | (simpa using ho13)
          · try dsimp only
            omega
          · try dsimp only
            rw [hg1, hg2, hes3]; exact chP_set (by omega) hbl
          · first | omega | (dsimp only; omega)
        · refine wi_skip <| wi_inBlock <| wi_reg rfl <| lx_add (((w + 1 : Nat) : Int)) rfl rfl rfl (by omega) (by omega) (by omega) <| lx_move (.int .i64 ((w + 1 : Nat) : Int)) rfl rfl <| lx_nil <| ?_
          -- L4.2
          refine IH3 _ _ (w + 1, es3) (agree_ups rfl agree_self) ⟨rfl, trivial⟩ ⟨hch5, ?_, ?_, hdj2, ?_, ?_⟩ ?_
          · first | exact ho11 | (simpa using ho11)
          · first | exact ho12 | (simpa using ho12)
          · try dsimp only
            omega
          · try dsimp only
            rw [hes3]; exact chP_skip (by assumption)
          · first | omega | (dsimp only; omega)
      · refine lx_nil <| wi_seq <| wi_false rfl <| wi_exit rfl <| wi_inBlock <| wi_reg rfl <| lx_add (((z + 1 : Nat) : Int)) rfl rfl rfl (by omega) (by omega) (by omega) <| lx_move (.int .i64 ((z + 1 : Nat) : Int)) rfl rfl <| lx_nil <| ?_
        -- L2.1
        refine IH2 _ _ (z + 1, es3) (agree_ups rfl (agree_mix (rngB_sub (by decide) (by decide) rfl) (agree_ups rfl agree_self))) ⟨rfl, trivial⟩ ⟨hch5, ?_, ?_, hdj2, ?_, ?_⟩ ?_
        · first | exact ho11 | (simpa using ho11)
        · first | exact ho12 | (simpa using ho12)
        · try dsimp only
          omega
        · try dsimp only
          rw [hes3, show w = p.length from by omega]; exact mapR_congr fun q hq => chP_next hq
        · first | omega | (dsimp only; omega)
    · refine lx_nil <| wi_seq <| wi_false rfl <| wi_exit rfl <| wi_reg rfl <| lx_move (v2) rfl rfl <| lx_assign (v2) rfl rfl <| lx_nil <| wi_inBlock <| wi_reg rfl <| lx_add (((k + 1 : Nat) : Int)) rfl rfl rfl (by omega) (by omega) (by omega) <| lx_move (.int .i64 ((k + 1 : Nat) : Int)) rfl rfl <| lx_nil <| ?_
      -- L0.1
      refine IH1 _ _ (k + 1, o1, v2, es2) (agree_ups rfl (agree_mix (rngB_sub (by decide) (by decide) rfl) (agree_ups rfl agree_self))) ⟨rfl, rfl, trivial⟩ ⟨(Nat.le_trans hle2 hx0_4.size), (hJS _ _ _ _ hJ2 hch4), ?_, ?_, ?_, ?_⟩ ?_
      · first | exact ho10 | (simpa using ho10)
      · try dsimp only
        omega
      · try dsimp only
        intro g9 e9 e8; have h1 := hnw_v2 g9 e9; have h2 := hlt_o1 g9 e8; omega
      · try dsimp only
        rw [hes2, show z = p.length from by omega]; exact mapR_congr fun q _ => chP_all
      · first | omega | (dsimp only; omega)
  · refine lx_nil <| wi_seq <| wi_false rfl <| wi_exit rfl <| ?_
    -- R1
    refine wi_end ⟨.tuple #[], (res_none rfl), hle1, ?_⟩
    have hJk := hJ1
    rw [show p.length = k from by omega]; exact ⟨_, hJk⟩

end Go.Proofs.Ytdokijbdnajhgaa
namespace Go.Proofs.Ytdokijbdnajhgaa
open Go Go.X

set_option maxRecDepth 10000 in
theorem appendSeqL_spec (h : Heap) (x : Nat) (y : Nat) (vp : Value) (hs : List Hdr) (p : List (List Bool)) (b1 : Nat) (b2 : Nat) (b3 : Nat) (hb_b1 : Blk h b1 (#[vp]) 29) (hb_b2 : Blk h b2 (#[.int .i64 ((x : Nat) : Int)]) 3) (hb_b3 : Blk h b3 (#[.int .i64 ((y : Nat) : Int)]) 3) (hr_vp : RdE encHd h vp hs) (ht_vp : RT encB h hs p) (hp1 : p.length ≤ 12) (hp2 : Sq p p.length) (hp3 : x < p.length) (hp4 : y < p.length) : Fx Try.prog 144 [.slice none 0 0, .func (.func 145) #[] #[.pointer (some ⟨b1, 0, none⟩), .pointer (some ⟨b2, 0, none⟩), .pointer (some ⟨b3, 0, none⟩)]] h (fun v h' => ∃ (s : Value), v = s ∧ OwE encI h' h.size 2 s ((mapR p.length fun k9 => chN p.length (pb p) x k9 y)) ∧ Ext h.size h h') := by
  have hl_vp := ht_vp.1
  refine fx_intro (n := 13) [(0, .slice none 0 0), (1, .func (.func 145) #[] #[.pointer (some ⟨b1, 0, none⟩), .pointer (some ⟨b2, 0, none⟩), .pointer (some ⟨b3, 0, none⟩)])] Try.func144 rfl rfl (by simp) ⟨rfl, rfl, trivial⟩ fun g0 => ?_
  refine wi_seq <| wi_reg rfl <| lx_box #[.slice none 0 0] rfl rfl rfl (fun _ _ _ => trivial) fun bn1 h1 hbn1 hbk1 hx1 hsz1 => ?_
  have hbb1 : h.size ≤ bn1 := by have := (Nat.le_refl h.size); omega
  have hne1 : bn1 ≠ b1 := by have := hb_b1.lt; omega
  have hne2 : bn1 ≠ b2 := by have := hb_b2.lt; omega
  have hne3 : bn1 ≠ b3 := by have := hb_b3.lt; omega
  have hb1 := hb_b1.extS hx1
  have hb2 := hb_b2.extS hx1
  have hb3 := hb_b3.extS hx1
  refine lx_assign (.slice none 0 0) rfl rfl <| lx_nil <| wi_seq <| wi_seq <| wi_reg rfl <| lx_move (.func (.func 145) #[] #[.pointer (some ⟨b1, 0, none⟩), .pointer (some ⟨b2, 0, none⟩), .pointer (some ⟨b3, 0, none⟩)]) rfl rfl <| lx_nil <| wi_block <| ?_
  refine wi_range (Ds := []) (gf := 145) (lb := [.pointer (some ⟨b1, 0, none⟩), .pointer (some ⟨b2, 0, none⟩), .pointer (some ⟨b3, 0, none⟩)]) Try.call145 rfl (fun l1 D1 h2 rc1 hlD1 hll1 hDl1 hx2 hlr1 hDr1 hLo1 => ?_)
  have hbl1 : h.size ≤ l1 := Nat.le_trans hx1.size hll1
  have hbD1 : h.size ≤ D1 := Nat.le_trans hx1.size hlD1
  have hx0_1 := hx1.trans2 hx2 hx1.size
  have hb4 := hb1.extS hx2
  have hb5 := hb2.extS hx2
  have hb6 := hb3.extS hx2
  have hb7 := hbk1.extS hx2
  refine Fx.mono (lengths1_seq b1 b2 b3 vp hs p x y hp1 hp2 hp3 hp4 hl_vp l1 h2 (fun k o hh => hh[l1]? = some (.loop rc1) ∧ DsOk (D1 :: []) hh ∧ ∃ (v : Value), Blk hh bn1 #[v] 58 ∧ OwE encI hh h.size 2 v ((mapR p.length fun k9 => chN p.length (pb p) x k9 y).take k) ∧ Ext h.size h hh ∧ o = Value.ownBlock v) ?_ ?_ ?_ ?_ ?_) ?_
  · rintro k o ha hb9 ⟨hr9, hd9, v, hbk2, ho1, hx0_2, hov9⟩ hq1
    exact ⟨(hq1.block _ (Array.getElem?_eq_some_iff.1 hr9).1).trans hr9, fun D9 hD9 => (hq1.block D9 (Array.getElem?_eq_some_iff.1 (hd9 D9 hD9)).1).trans (hd9 D9 hD9), v, hbk2.extS hq1, ho1.extS hq1, hx0_2.trans2 hq1 hx0_2.size, hov9⟩
  · rintro k o ha ⟨hr9, hd9, v, hbk3, ho2, hx0_3, hov9⟩
    exact ⟨hb_b1.extS hx0_3, hb_b2.extS hx0_3, hb_b3.extS hx0_3, hr_vp.extS hx0_3, ht_vp.extS hx0_3⟩
  · rintro k o ha ⟨hr9, hd9, v, hbk4, ho3, hx0_4, hov9⟩ b9 e9
    exact (ho3.lt (hov9.symm.trans e9)).2
  · rintro k o ha1 hk1 ⟨hr1, hd1, v, hbk5, ho4, hx0_5, hov9⟩
    refine yield_ok hLo1 hr1 rfl (by decide) ?_
    refine wi_forget [(2, .pointer (some ⟨bn1, 0, none⟩)), (7, .int .i64 (chN p.length (pb p) x k y))] ⟨rfl, rfl, trivial⟩ fun g1 => ?_
    refine wi_reg rfl <| lx_assign (.int .i64 (chN p.length (pb p) x k y)) rfl rfl <| lx_nil <| ?_
    refine wi_begin hr1 hLo1.st (fun h3 hc1 hbu1 => ?_)
    have hcel1 := cel_loop hc1 hr1
    have hx0_6 := hx0_5.trans (hc1.ext hbl1)
    have ho5 := hcel1.owE ho4
    have hb8 := hcel1.blk hbk5
    have hch1 := (TkO.of_tk (Tk.of_loop hc1 hr1) : TkO 2 o _ _)
    have hsz_hch1 := hch1.1
    have hd2 := hd1.chgL hr1 hc1
    refine wi_block <| wi_reg rfl <| ?_
    have htk : ((mapR p.length fun k9 => chN p.length (pb p) x k9 y).take k).length = k := by rw [List.length_take, mapR_len]; omega
    refine lx_ldB (v) rfl rfl fl58 hb8 rfl rfl <| lx_move (.int .i64 (chN p.length (pb p) x k y)) rfl rfl <| lx_appendL (E := encI) (B := h.size) [chN p.length (pb p) x k y] [.int .i64 (chN p.length (pb p) x k y)] rfl rfl (fun _ => rfl) rfl eT58 rfl rfl rfl rfl ho5 (fun _ => rfl) (by show ((mapR p.length fun k9 => chN p.length (pb p) x k9 y).take k).length + 1 ≤ _; omega) (by show (((mapR p.length fun k9 => chN p.length (pb p) x k9 y).take k).length + 1) * 8 ≤ _; omega) hx0_6.size (fun _ _ => trivial) fun u1 v1 h4 ho6 hc2 hg1 => ?_
    have hch2 := hch1.trans (((by rw [hov9]; exact TkO.of_chg hc2) : TkO 2 o _ _))
    have hsz_hch2 := hch2.1
    have hch3 := Nc.of_chg hc2 ho5
    have hsz_hch3 := hch3.1
    have hx0_7 := hx0_6.trans (ho5.ext hc2 hx0_6.size)
    have hb9 := hb8.chg hc2 (nb_ty ho5 hb8 (by decide))
    refine lx_stB (v1) rfl rfl Try.sizeOf58 hb9 (by simp) rfl rfl (sl_cells ho6.rd) (sl_one ho6.rd) (fun _ _ _ _ => trivial) fun h5 hbk6 hc3 => ?_
    have hch4 := hch2.trans ((TkO.of_tk (Tk.of_chgB hc3 hb9 (by decide)) : TkO 2 o _ _))
    have hsz_hch4 := hch4.1
    have hch5 := hch3.trans (Nc.of_chgB hc3 hb9)
    have hsz_hch5 := hch5.1
    have hx0_8 := hx0_7.trans (hc3.ext hbb1)
    have ho7 := hc3.owE ho6 (nb_ty ho6 hb9 (by decide))
    have hbk6 : Blk h5 bn1 #[v1] 58 := hbk6
    refine lx_nil <| wi_inBlock <| ?_
    have hbu2 := (nc_loop hch5 hbu1)
    have hd3 := (hd2.nc hch5)
    -- Q0.1
    refine wi_end ⟨rfl, hbu2, fun h6 hc4 hlr2 => ?_⟩
    have hcel2 := cel_loop hc4 hbu2
    have hx0_9 := hx0_8.trans (hc4.ext hbl1)
    have ho8 := hcel2.owE ho7
    have hb10 := hcel2.blk hbk6
    refine ⟨Value.ownBlock v1, hch4.trans (TkO.of_tk (Tk.of_loop hc4 hbu2)), (fun b9 e9 => (hg1 b9 e9).elim (fun h9 => .inl (by rw [hov9]; exact h9)) fun h9 => .inr (by omega)), hlr2, hd3.chgL hbu2 hc4, (v1), ?_, ?_, hx0_9, rfl⟩
    · exact hb10
    · rw [List.take_add_one, gt_some (show k < (mapR p.length fun k9 => chN p.length (pb p) x k9 y).length by rw [mapR_len]; omega), gt_mapR (by omega)]; exact ho8
  · refine ⟨hlr1, DsOk.cons hDr1 (DsOk.nil _), (.slice none 0 0), ?_, ?_, hx0_1, rfl⟩
    · exact hb7
    · rw [List.take_zero]; exact (owE_nil encI _ h.size 2)
  rintro _ h7 ⟨_, _, hr2, hd4, v, hbk7, ho9, hx0_10, _⟩
  refine ⟨hr2, fun h8 hc5 => ?_⟩
  have hcel3 := cel_loop hc5 hr2
  have hx0_11 := hx0_10.trans (hc5.ext hbl1)
  have ho10 := hcel3.owE ho9
  have hb11 := hcel3.blk hbk7
  have hd5 := hd4.chgL hr2 hc5
  have hbDs1 : ∀ d ∈ D1 :: [], h.size ≤ d := fun d hd9 => by
    rw [List.mem_cons] at hd9
    rcases hd9 with rfl | hd9
    · exact hbD1
    · exact (fun d hd9 => by cases hd9) d hd9
  have hnd1 : (D1 :: []).Nodup := List.nodup_cons.2 ⟨fun hd9 => (by cases hd9), List.nodup_nil⟩
  have hlt1 : ∀ d ∈ D1 :: [], d < h8.size := fun d hd9 => (Array.getElem?_eq_some_iff.1 (hd5 d hd9)).1
  refine wi_inBlock <| wi_seq <| wi_reg rfl <| lx_ldB (v) rfl rfl fl58 hb11 rfl rfl <| lx_assign (v) rfl rfl <| lx_nil <| ?_
  -- R1
  have hd6 := hd5
  refine wi_retD (Ds := D1 :: []) hnd1 hd6 (fun h9 hcel4 hsz2 hbb2 => ?_)
  have hx0_12 := ext_marks2 hx0_11 hd6 hbDs1 hsz2 hbb2
  have ho11 := hcel4.owE ho10
  have hb12 := hcel4.blk hb11
  refine ⟨v, (res_one rfl rfl), ⟨v, rfl, ?_, hx0_12⟩⟩
  · have h99 := ho11
    rw [List.take_of_length_le (by rw [mapR_len]; exact Nat.le_refl _)] at h99; exact h99

end Go.Proofs.Ytdokijbdnajhgaa
namespace Go.Proofs.Ytdokijbdnajhgaa
open Go Go.X

set_option maxRecDepth 10000 in
theorem collectL_spec (h : Heap) (x : Nat) (y : Nat) (vp : Value) (hs : List Hdr) (p : List (List Bool)) (b1 : Nat) (b2 : Nat) (b3 : Nat) (hb_b1 : Blk h b1 (#[vp]) 29) (hb_b2 : Blk h b2 (#[.int .i64 ((x : Nat) : Int)]) 3) (hb_b3 : Blk h b3 (#[.int .i64 ((y : Nat) : Int)]) 3) (hr_vp : RdE encHd h vp hs) (ht_vp : RT encB h hs p) (hp1 : p.length ≤ 12) (hp2 : Sq p p.length) (hp3 : x < p.length) (hp4 : y < p.length) : Fx Try.prog 109 [.func (.func 145) #[] #[.pointer (some ⟨b1, 0, none⟩), .pointer (some ⟨b2, 0, none⟩), .pointer (some ⟨b3, 0, none⟩)]] h (fun v h' => ∃ (s : Value), v = s ∧ OwE encI h' h.size 2 s ((mapR p.length fun k9 => chN p.length (pb p) x k9 y)) ∧ Ext h.size h h') := by
  have hl_vp := ht_vp.1
  refine fx_intro (n := 5) [(0, .func (.func 145) #[] #[.pointer (some ⟨b1, 0, none⟩), .pointer (some ⟨b2, 0, none⟩), .pointer (some ⟨b3, 0, none⟩)])] Try.func109 rfl rfl (by simp) ⟨rfl, trivial⟩ fun g0 => ?_
  refine wi_seq <| wi_reg rfl <| lx_assign (.slice none 0 0) rfl rfl <| lx_nil <| wi_seq <| wi_reg rfl <| lx_move (.func (.func 145) #[] #[.pointer (some ⟨b1, 0, none⟩), .pointer (some ⟨b2, 0, none⟩), .pointer (some ⟨b3, 0, none⟩)]) rfl rfl <| lx_call [.slice none 0 0, .func (.func 145) #[] #[.pointer (some ⟨b1, 0, none⟩), .pointer (some ⟨b2, 0, none⟩), .pointer (some ⟨b3, 0, none⟩)]] rfl rfl Try.call144 rfl (appendSeqL_spec h x y vp hs p b1 b2 b3 hb_b1 hb_b2 hb_b3 hr_vp ht_vp (by omega) (by first | with_reducible assumption | omega) (by omega) (by omega)) (fun _ _ _ => trivial) ?_
  rintro v1 h1 ⟨_, rfl, ho1, hx1⟩
  have hb1 := hb_b1.extS hx1
  have hb2 := hb_b2.extS hx1
  have hb3 := hb_b3.extS hx1
  have ho2 := ho1.base (Nat.le_refl h.size)
  refine lx_assign (v1) rfl rfl <| lx_nil <| ?_
  -- R1
  refine wi_ret ⟨v1, (res_one rfl rfl), ⟨v1, rfl, ho2, hx1⟩⟩

set_option maxRecDepth 10000 in
theorem lengths_spec (h : Heap) (vp : Value) (hs : List Hdr) (p : List (List Bool)) (x : Nat) (y : Nat) (hr_vp : RdE encHd h vp hs) (ht_vp : RT encB h hs p) : Fx Try.prog 110 [vp, .int .i64 ((x : Nat) : Int), .int .i64 ((y : Nat) : Int)] h (fun v h' => ∃ (b1 : Nat) (b2 : Nat) (b3 : Nat), v = .func (.func 145) #[] #[.pointer (some ⟨b1, 0, none⟩), .pointer (some ⟨b2, 0, none⟩), .pointer (some ⟨b3, 0, none⟩)] ∧ h.size ≤ b1 ∧ Blk h' b1 (#[vp]) 29 ∧ h.size ≤ b2 ∧ Blk h' b2 (#[.int .i64 ((x : Nat) : Int)]) 3 ∧ h.size ≤ b3 ∧ Blk h' b3 (#[.int .i64 ((y : Nat) : Int)]) 3 ∧ Ext h.size h h') := by
  have hl_vp := ht_vp.1
  refine fx_intro (n := 8) [(0, vp), (1, .int .i64 ((x : Nat) : Int)), (2, .int .i64 ((y : Nat) : Int))] Try.func110 rfl rfl (by simp) ⟨rfl, rfl, rfl, trivial⟩ fun g0 => ?_
  refine wi_seq <| wi_reg rfl <| lx_box #[vp] rfl rfl (sl_cells hr_vp) (fun _ _ _ => trivial) fun bn1 h1 hbn1 hbk1 hx1 hsz1 => ?_
  have hbb1 : h.size ≤ bn1 := by have := (Nat.le_refl h.size); omega
  refine lx_box #[.int .i64 ((x : Nat) : Int)] rfl rfl rfl (fun _ _ _ => trivial) fun bn2 h2 hbn2 hbk2 hx2 hsz2 => ?_
  have hbb2 : h.size ≤ bn2 := by have := hx1.size; omega
  have hne1 : bn2 ≠ bn1 := by have := hbk1.lt; omega
  have hx0_1 := hx1.trans2 hx2 hx1.size
  have hb1 := hbk1.extS hx2
  refine lx_box #[.int .i64 ((y : Nat) : Int)] rfl rfl rfl (fun _ _ _ => trivial) fun bn3 h3 hbn3 hbk3 hx3 hsz3 => ?_
  have hbb3 : h.size ≤ bn3 := by have := hx0_1.size; omega
  have hne2 : bn3 ≠ bn1 := by have := hb1.lt; omega
  have hne3 : bn3 ≠ bn2 := by have := hbk2.lt; omega
  have hx0_2 := hx0_1.trans2 hx3 hx0_1.size
  have hb2 := hb1.extS hx3
  have hb3 := hbk2.extS hx3
  refine lx_assign (.nilFunc) rfl rfl <| lx_nil <| wi_seq <| wi_reg rfl <| lx_makeFunc [] [.pointer (some ⟨bn1, 0, none⟩), .pointer (some ⟨bn2, 0, none⟩), .pointer (some ⟨bn3, 0, none⟩)] rfl rfl rfl <| lx_assign (.func (.func 145) #[] #[.pointer (some ⟨bn1, 0, none⟩), .pointer (some ⟨bn2, 0, none⟩), .pointer (some ⟨bn3, 0, none⟩)]) rfl rfl <| lx_nil <| ?_
  -- R1
  refine wi_ret ⟨.func (.func 145) #[] #[.pointer (some ⟨bn1, 0, none⟩), .pointer (some ⟨bn2, 0, none⟩), .pointer (some ⟨bn3, 0, none⟩)], (res_one rfl rfl), ⟨bn1, bn2, bn3, rfl, ?_, hb2, ?_, hb3, ?_, hbk3, hx0_2⟩⟩
  · omega
  · omega
  · omega

/-- What Chains answers. -/
def chaC (p : List (List Bool)) (x y : Int) : Int := if chkT p = 0 then (if 0 ≤ x ∧ 0 ≤ y ∧ x < p.length ∧ y < p.length then 0 else 1) else chkT p
/-- The numbers of chains, without the noughts at the end. -/
def chaR (n : Nat) (f : Nat → Nat → Bool) (x y : Nat) (ys : List Int) : Prop := ∃ L, L ≤ n ∧ ys = mapR L (fun k => chN n f x k y) ∧ (∀ k, L ≤ k → k < n → chN n f x k y = 0) ∧ (L = 0 ∨ chN n f x (L - 1) y ≠ 0)
theorem mapR_take {n L : Nat} {g : Nat → Int} (h : L ≤ n) : (mapR n g).take L = mapR L g := by
  unfold mapR
  rw [← List.map_take, List.take_range, Nat.min_eq_left h]

set_option maxRecDepth 10000 in
theorem ochains_spec (h : Heap) (vp : Value) (hs : List Hdr) (p : List (List Bool)) (x : Int) (y : Int) (hr_vp : RdE encHd h vp hs) (ht_vp : RT encB h hs p) (hp1 : p.length ≤ 1000000) (hp2 : ∀ i, i < p.length → (gt p i).length ≤ 1000000) : Fx Try.prog 50 [vp, .int .i64 x, .int .i64 y] h (fun v h' => ∃ (s : Value) (ys : List Int), v = .tuple #[s, .int .i64 (chaC p x y)] ∧ OwE encI h' h.size 2 s ys ∧ ((chaC p x y ≠ 0 ∧ ys = []) ∨ (chaC p x y = 0 ∧ chaR p.length (pb p) x.toNat y.toNat ys)) ∧ Ext h.size h h') := by
  have hl_vp := ht_vp.1
  refine fx_intro (n := 50) [(0, vp), (1, .int .i64 x), (2, .int .i64 y)] Try.func50 rfl rfl (by simp) ⟨rfl, rfl, rfl, trivial⟩ fun g0 => ?_
  refine wi_seq <| wi_reg rfl <| lx_assign (.slice none 0 0) rfl rfl <| lx_assign (.int .i64 0) rfl rfl <| lx_nil <| wi_seq <| wi_seq <| wi_reg rfl <| lx_move (vp) rfl rfl <| lx_call [vp] rfl rfl Try.call62 rfl (ocheck_spec h vp hs p hr_vp ht_vp (by omega) (by first | with_reducible assumption | omega)) (fun _ _ _ => trivial) ?_
  rintro _ h1 ⟨rfl, hx1⟩
  refine lx_assign (.int .i64 (chkT p)) rfl rfl <| lx_nil <| wi_seq <| wi_reg rfl <| lx_move (.int .i64 (chkT p)) rfl rfl <| lx_neqS rfl rfl rfl (fun c1 => ?_) (fun c1 => ?_)
  · refine lx_nil <| wi_true rfl <| wi_seq <| wi_reg rfl <| lx_move (.int .i64 (chkT p)) rfl rfl <| lx_assign (.slice none 0 0) rfl rfl <| lx_assign (.int .i64 (chkT p)) rfl rfl <| lx_nil <| ?_
    have h99 : chaC p x y = chkT p := if_neg (by omega)
    -- R1
    refine wi_ret ⟨.tuple #[.slice none 0 0, .int .i64 (chkT p)], (res_two rfl rfl rfl), ⟨.slice none 0 0, [], ?_, (owE_nil encI _ h.size 2), ?_, hx1⟩⟩
    · rw [h99]
    · exact .inl ⟨by omega, rfl⟩
  · refine lx_nil <| wi_false rfl <| wi_skip <| wi_seq <| wi_seq <| wi_reg rfl <| ?_
    have hok := chkT_ok (p := p) (by omega)
    have hp12 : p.length ≤ 12 := hok.2.1
    have hpq : Sq p p.length := isT_sq hok.2.2
    have hl_vp9 : hs.length = p.length := by first | assumption | omega
    refine lx_move (.int .i64 x) rfl rfl <| lx_move (.int .i64 y) rfl rfl <| lx_min (min x y) rfl rfl rfl (by omega) <| lx_lssS rfl rfl rfl (fun c2 => ?_) (fun c2 => ?_)
    · refine lx_move (.bool true) rfl rfl <| lx_skip rfl <| lx_skip rfl <| lx_skip rfl <| lx_skip rfl <| lx_skip rfl <| lx_skip rfl <| lx_pick true (.bool true) rfl rfl rfl <| lx_nil <| wi_true rfl <| wi_seq <| wi_reg rfl <| lx_assign (.slice none 0 0) rfl rfl <| lx_assign (.int .i64 1) rfl rfl <| lx_nil <| ?_
      have h99 : chaC p x y = 1 := by unfold chaC; rw [if_pos (by omega), if_neg (by omega)]
      -- R2
      refine wi_ret ⟨.tuple #[.slice none 0 0, .int .i64 1], (res_two rfl rfl rfl), ⟨.slice none 0 0, [], ?_, (owE_nil encI _ h.size 2), ?_, hx1⟩⟩
      · rw [h99]
      · exact .inl ⟨by omega, rfl⟩
    · refine lx_move (.bool false) rfl rfl <| lx_move (.int .i64 x) rfl rfl <| lx_move (.int .i64 y) rfl rfl <| lx_max (max x y) rfl rfl rfl (by omega) <| lx_move (vp) rfl rfl <| lx_len rfl Try.underlying29 hr_vp rfl <| lx_geqS rfl rfl rfl (fun c3 => ?_) (fun c3 => ?_)
      · refine lx_pick false (.bool true) rfl rfl rfl <| lx_nil <| wi_true rfl <| wi_seq <| wi_reg rfl <| lx_assign (.slice none 0 0) rfl rfl <| lx_assign (.int .i64 1) rfl rfl <| lx_nil <| ?_
        have h99 : chaC p x y = 1 := by unfold chaC; rw [if_pos (by omega), if_neg (by omega)]
        -- R3
        refine wi_ret ⟨.tuple #[.slice none 0 0, .int .i64 1], (res_two rfl rfl rfl), ⟨.slice none 0 0, [], ?_, (owE_nil encI _ h.size 2), ?_, hx1⟩⟩
        · rw [h99]
        · exact .inl ⟨by omega, rfl⟩
      · refine lx_pick false (.bool false) rfl rfl rfl <| lx_nil <| wi_false rfl <| wi_skip <| wi_seq <| wi_reg rfl <| ?_
        have hx0 : 0 ≤ x ∧ 0 ≤ y := by omega
        have hxn : x < p.length ∧ y < p.length := by omega
        have hcc : chaC p x y = 0 := by unfold chaC; rw [if_pos (by omega), if_pos ⟨hx0.1, hx0.2, hxn.1, hxn.2⟩]
        obtain ⟨x9, rfl⟩ : ∃ x9 : Nat, x = ((x9 : Nat) : Int) := ⟨x.toNat, by omega⟩
        obtain ⟨y9, rfl⟩ : ∃ y9 : Nat, y = ((y9 : Nat) : Int) := ⟨y.toNat, by omega⟩
        refine lx_move (vp) rfl rfl <| lx_move (.int .i64 ((x9 : Nat) : Int)) rfl rfl <| lx_move (.int .i64 ((y9 : Nat) : Int)) rfl rfl <| lx_call [vp, .int .i64 ((x9 : Nat) : Int), .int .i64 ((y9 : Nat) : Int)] rfl rfl Try.call110 rfl (lengths_spec h1 vp hs p x9 y9 (hr_vp.extS hx1) (ht_vp.extS hx1)) (fun _ _ _ => trivial) ?_
        rintro _ h2 ⟨b1_1, b2_1, b3_1, rfl, ho1, hot1, ho2, hot2, ho3, hot3, hx2⟩
        have hx0_1 := hx1.trans2 hx2 hx1.size
        have hbx1 : h.size ≤ b1_1 := Nat.le_trans hx1.size ho1
        have hbx2 : h.size ≤ b2_1 := Nat.le_trans hx1.size ho2
        have hbx3 : h.size ≤ b3_1 := Nat.le_trans hx1.size ho3
        refine lx_call [.func (.func 145) #[] #[.pointer (some ⟨b1_1, 0, none⟩), .pointer (some ⟨b2_1, 0, none⟩), .pointer (some ⟨b3_1, 0, none⟩)]] rfl rfl Try.call109 rfl (collectL_spec h2 x9 y9 vp hs p b1_1 b2_1 b3_1 hot1 hot2 hot3 (hr_vp.extS hx0_1) (ht_vp.extS hx0_1) (by omega) hpq (by omega) (by omega)) (fun _ _ _ => trivial) ?_
        rintro v1 h3 ⟨_, rfl, ho4, hx3⟩
        have hx0_2 := hx0_1.trans2 hx3 hx0_1.size
        have hb1 := hot1.extS hx3
        have hb2 := hot2.extS hx3
        have hb3 := hot3.extS hx3
        have ho5 := ho4.base hx0_1.size
        refine lx_assign (v1) rfl rfl <| lx_nil <| wi_seq <| wi_block <| ?_
        refine wi_loop (σ := Nat × Value × (List Int)) (rngB 32 49 [9]) (fun (ss : Nat × Value × (List Int)) => [(9, ss.2.1)]) (fun (ss : Nat × Value × (List Int)) (hh : Heap) => OwE encI hh h.size 2 ss.2.1 ss.2.2 ∧ Ext h.size h hh ∧ (ss.1 ≤ p.length) ∧ (ss.2.2 = mapR ss.1 fun k9 => chN p.length (pb p) x9 k9 y9) ∧ (∀ k9, ss.1 ≤ k9 → k9 < p.length → chN p.length (pb p) x9 k9 y9 = 0)) (fun (ss : Nat × Value × (List Int)) => ss.1) (p.length, v1, (mapR p.length fun k9 => chN p.length (pb p) x9 k9 y9)) ⟨rfl, trivial⟩ ⟨?_, hx0_2, ?_, ?_, ?_⟩ ?_
        · first | exact ho5 | (simpa using ho5)
        · try dsimp only
          omega
        · try dsimp only
          first | done | rfl
        · try dsimp only
          intro k9 h1 h2; omega
        rintro g1 ⟨L, v, ys⟩ hh1 ⟨ho6, hx0_3, hL, hys, hz⟩ IH1
        dsimp only at *
        have hyl : ys.length = L := by rw [hys]; exact mapR_len _ _
        refine wi_seq <| wi_seq <| wi_reg rfl <| lx_move (v) rfl rfl <| lx_len rfl Try.underlying58 ho6.rd rfl <| lx_gtrS rfl rfl rfl (fun c4 => ?_) (fun c4 => ?_)
        · refine lx_move (.bool true) rfl rfl <| lx_move (v) rfl rfl <| lx_move (v) rfl rfl <| lx_len rfl Try.underlying58 ho6.rd rfl <| lx_sub (((L - 1 : Nat) : Int)) rfl rfl rfl (by omega) (by omega) (by omega) <| lx_ix (i := L - 1) rfl eT58 ho6.rd rfl rfl (by omega) <| lx_ld (i := L - 1) (j := 0) (.int .i64 (gt ys (L - 1))) rfl rfl fl2 ho6.rd (by omega) rfl rfl <| lx_eqlS rfl rfl rfl (fun c5 => ?_) (fun c5 => ?_)
          · refine lx_pick true (.bool true) rfl rfl rfl <| lx_nil <| wi_true rfl <| wi_skip <| wi_block <| wi_reg rfl <| lx_move (v) rfl rfl <| lx_move (v) rfl rfl <| lx_len rfl Try.underlying58 ho6.rd rfl <| lx_sub (((L - 1 : Nat) : Int)) rfl rfl rfl (by omega) (by omega) (by omega) <| lx_slice (E := encI) 0 (L - 1) rfl eT58 rfl rfl ⟨_, rfl⟩ ho6.rd (by omega) (by omega) fun v2 hs1 hso1 => ?_
            have ho7 := sl_own ho6 (hso1 rfl).2 (by omega)
            refine lx_assign (v2) rfl rfl <| lx_nil <| wi_inBlock <| ?_
            -- L0.1
            refine IH1 _ _ (L - 1, v2, ys.take (L - 1)) (agree_ups rfl agree_self) ⟨rfl, trivial⟩ ⟨?_, hx0_3, ?_, ?_, ?_⟩ ?_
            · first | exact ho7 | (simpa using ho7)
            · try dsimp only
              omega
            · try dsimp only
              rw [hys]; exact mapR_take (by omega)
            · try dsimp only
              intro k9 h1 h2
              by_cases e : k9 = L - 1
              · have h3 : gt ys (L - 1) = 0 := by omega
                rw [hys, gt_mapR (by omega)] at h3; rw [e]; exact h3
              · exact hz k9 (by omega) h2
            · first | omega | (dsimp only; omega)
          · refine lx_pick true (.bool false) rfl rfl rfl <| lx_nil <| wi_false rfl <| wi_exit rfl <| wi_seq <| wi_reg rfl <| lx_move (v) rfl rfl <| lx_assign (v) rfl rfl <| lx_assign (.int .i64 0) rfl rfl <| lx_nil <| ?_
            -- R4
            refine wi_ret ⟨.tuple #[v, .int .i64 0], (res_two rfl rfl rfl), ⟨v, ys, ?_, ho6, ?_, hx0_3⟩⟩
            · rw [hcc]
            · refine .inr ⟨hcc, L, hL, by rw [Int.toNat_natCast, Int.toNat_natCast]; exact hys, fun k h1 h2 => by rw [Int.toNat_natCast, Int.toNat_natCast]; exact hz k h1 h2, ?_⟩
              rw [Int.toNat_natCast, Int.toNat_natCast]
              by_cases e0 : L = 0
              · exact .inl e0
              · refine .inr fun h9 => ?_
                have h3 : gt ys (L - 1) = 0 := by rw [hys, gt_mapR (by omega)]; exact h9
                omega
        · refine lx_move (.bool false) rfl rfl <| lx_skip rfl <| lx_skip rfl <| lx_skip rfl <| lx_skip rfl <| lx_skip rfl <| lx_skip rfl <| lx_skip rfl <| lx_pick false (.bool false) rfl rfl rfl <| lx_nil <| wi_false rfl <| wi_exit rfl <| wi_seq <| wi_reg rfl <| lx_move (v) rfl rfl <| lx_assign (v) rfl rfl <| lx_assign (.int .i64 0) rfl rfl <| lx_nil <| ?_
          -- R5
          refine wi_ret ⟨.tuple #[v, .int .i64 0], (res_two rfl rfl rfl), ⟨v, ys, ?_, ho6, ?_, hx0_3⟩⟩
          · rw [hcc]
          · refine .inr ⟨hcc, L, hL, by rw [Int.toNat_natCast, Int.toNat_natCast]; exact hys, fun k h1 h2 => by rw [Int.toNat_natCast, Int.toNat_natCast]; exact hz k h1 h2, ?_⟩
            rw [Int.toNat_natCast, Int.toNat_natCast]
            by_cases e0 : L = 0
            · exact .inl e0
            · refine .inr fun h9 => ?_
              have h3 : gt ys (L - 1) = 0 := by rw [hys, gt_mapR (by omega)]; exact h9
              omega

end Go.Proofs.Ytdokijbdnajhgaa
namespace Go.Proofs.Ytdokijbdnajhgaa
open Go Go.X

theorem rbF_iff {n x y : Nat} {f : Nat → Nat → Bool} : rbF n f x y = true ↔ (x ≠ y ∧ f x y = true) ∧ ∀ z, z < n → x ≠ z → f x z = true → z ≠ y → f z y = true → False := by
  unfold rbF
  rw [Bool.and_eq_true, Bool.and_eq_true, decide_eq_true_iff, rall_iff]
  refine and_congr_right fun _ => ?_
  constructor
  · intro h z hz h1 h2 h3 h4
    have := h z hz
    rw [decide_eq_true h1, h2, decide_eq_true h3, h4] at this
    cases this
  · intro h z hz
    rw [Bool.not_eq_true', Bool.eq_false_iff]
    intro h9
    simp only [Bool.and_eq_true, decide_eq_true_iff] at h9
    exact h z hz h9.1.1 h9.1.2 h9.2.1 h9.2.2
section
variable {n : Nat} {f : Nat → Nat → Bool}
/-- Something of a kind has nothing of it below. -/
theorem min_ex (ho : IsO n f) (P : Nat → Prop) : ∀ (c : Nat) {x : Nat}, x < n → cntD n f x ≤ c → P x → ∃ w, w < n ∧ f w x = true ∧ P w ∧ ∀ v, v < n → v ≠ w → f v w = true → ¬ P v
  | 0, x, hx, hc, _ => absurd (cntD_pos ho hx) (by omega)
  | c + 1, x, hx, hc, h => by
    by_cases e : ∃ v, v < n ∧ v ≠ x ∧ f v x = true ∧ P v
    · obtain ⟨v, h1, h2, h3, h4⟩ := e
      have := cntD_lt ho h1 hx h3 h2
      obtain ⟨w, w1, w2, w3, w4⟩ := min_ex ho P c h1 (by omega) h4
      exact ⟨w, w1, ho.trans w1 h1 hx w2 h3, w3, w4⟩
    · exact ⟨x, hx, ho.refl hx, h, fun v h1 h2 h3 h4 => e ⟨v, h1, h2, h3, h4⟩⟩
variable (ho : IsO n f) (hg : noGap n f)
include ho hg
end
section
variable {n : Nat} {f : Nat → Nat → Bool} (ho : IsO n f) (hg : noGap n f) (hn : 1 ≤ n)
include ho in
include ho hg in
include ho in
include ho hg hn in
include ho hg hn in
include ho hg hn in
include ho hg hn in
include ho hg in
include ho hg hn in
include ho hg hn in
end
end Go.Proofs.Ytdokijbdnajhgaa
namespace Go.Proofs.Ytdokijbdnajhgaa
open Go Go.X

theorem rota_sum {n : Nat} {f : Nat → Nat → Bool} (ho : IsO n f) (os : List Int) {y : Nat} (hy : y < n) : dfP n f (gt (sumT n f os)) y n = gt os y := by
  have h1 : dfP n f (gt (sumT n f os)) y n = dfP n f (fun x => smP f (gt os) x n) y n := sumI_congr fun x hx => by rw [sumT, gt_mapR hx]
  rw [h1, diff_sum ho _ hy]
theorem rota_own {n : Nat} {f : Nat → Nat → Bool} {os : List Int} (ho : IsO n f) (hl : os.length = n) : dfT n f (sumT n f os) = os := by
  refine gt_ext (by rw [hl]; exact mapR_len _ _) fun i hi => ?_
  have hi2 : i < n := by rw [dfT, mapR_len] at hi; exact hi
  rw [dfT, gt_mapR hi2, rota_sum ho os hi2]
theorem altS_bd {g : Nat → Int} {K : Nat} {B : Int} (hB : 0 ≤ B) (h : ∀ k, k < K → -B ≤ g k ∧ g k ≤ B) : -(K * B) ≤ altS g K ∧ altS g K ≤ K * B := sumI_bound hB fun k hk => by
  have := h k hk
  skip
  split
  · exact this
  · omega
theorem rota_hall {n : Nat} {f : Nat → Nat → Bool} {x y : Nat} {cs : List Int} (ho : IsO n f) (hx : x < n) (hy : y < n) (hn : n ≤ 12) (h : chaR n f x y cs) :
    altS (gt cs) cs.length = muF n f x y ∧ decide (((cs.length : Nat) : Int) = 0) = (!f x y) ∧ cs.length ≤ 12 ∧ ∀ k, k < cs.length → -8916100448256 ≤ gt cs k ∧ gt cs k ≤ 8916100448256 := by
  obtain ⟨L, hL, rfl, hz, hne⟩ := h
  rw [mapR_len]
  refine ⟨?_, ?_, by omega, fun k hk => ?_⟩
  · rw [show altS (gt (mapR L fun k => chN n f x k y)) L = altS (fun k => chN n f x k y) L from altS_congr fun k hk => gt_mapR hk, ← altS_more hL fun k h1 h2 => hz k h1 h2]
    exact hall ho hx (Nat.le_refl _) hy
  · cases c : f x y
    · have : L = 0 := hne.elim id fun h9 => absurd (chN_sup ho hx (L - 1) hy c) h9
      rw [this]; rfl
    · have : L ≠ 0 := fun e => by
        obtain ⟨k, h1, h2⟩ := chN_some hx hy c
        exact h2 (hz k (by omega) h1)
      rw [decide_eq_false (by omega)]; rfl
  · rw [gt_mapR hk]
    have h1 := chN_bound (f := f) (x := x) hn k y
    have h2 : 12 ^ k ≤ 12 ^ 12 := Nat.pow_le_pow_right (by omega) (by omega)
    omega
theorem rota_cut {n : Nat} {f : Nat → Nat → Bool} (ho : IsO n f) (hg : noGap n f) (hn : 1 ≤ n) : altS (gt (crF n f)) (crF n f).length = muF n f (loN n f) (hiN n f) := by
  have hlo := (lo_at ho hg hn).2
  have hhi := (hi_at ho hg hn).2
  have hat : ∀ i, i < (atL n f).length → (gt (atL n f) i).toNat < n ∧ rbF n f (loN n f) (gt (atL n f) i).toNat = true := fun i hi => by
    obtain ⟨a, h1, h2, h3⟩ := atL_at hi
    rw [h1, Int.toNat_natCast]; exact ⟨h2, h3⟩
  have e : (crF n f).length = (atL n f).length + 1 := crL_len _ _ _ _ _ _
  rw [e]
  refine cut_law ho hg hlo.1 (fun i hi => (hat i hi).1) hlo.2 (fun t ht hne => ?_) (fun i hi => ?_) hhi.1
  · obtain ⟨w, w1, w2, w3, w4⟩ := min_ex ho (fun w => w ≠ loN n f) _ ht (Nat.le_refl _) hne
    have hrb : rbF n f (loN n f) w = true := rbF_iff.2 ⟨⟨Ne.symm w3, hlo.2 w w1⟩, fun z hz h1 h2 h3 h4 => w4 z hz h3 h4 (Ne.symm h1)⟩
    obtain ⟨i, h1, h2⟩ := mem_gt (filtF_mem.2 ⟨w, w1, hrb, rfl⟩ : (w : Int) ∈ atL n f)
    exact ⟨i, h1, by rw [show gt (atL n f) i = (w : Int) from h2, Int.toNat_natCast]; exact w2⟩
  · rw [Bool.eq_false_iff]
    intro h
    obtain ⟨h1, h2⟩ := hat i hi
    have h3 := (rbF_iff.1 h2).1
    exact h3.1 (ho.anti hlo.1 h1 h3.2 h)
end Go.Proofs.Ytdokijbdnajhgaa
namespace Go.Proofs.Ytdokijbdnajhgaa
open Go Go.X

theorem tmod_bd (a : Int) : -1000 < a.tmod 1000 ∧ a.tmod 1000 < 1000 := ⟨Int.lt_tmod_of_pos a (by decide), Int.tmod_lt_of_pos a (by decide)⟩

set_option maxRecDepth 10000 in
theorem orderRota_spec (h : Heap) (n : Int) (vl : Value) (ls : List (Int × Int)) (vf : Value) (fs : List Int) (hr_vl : RdE encP h vl ls) (hr_vf : RdE encI h vf fs) (hp1 : ls.length ≤ 9223372036854775807) (hp2 : fs.length ≤ 9223372036854775807) : Fx Try.prog 8 [.int .i64 n, vl, vf] h (fun v h' => v = .bool true ∧ Ext h.size h h') := by
  refine fx_intro (n := 247) [(0, .int .i64 n), (1, vl), (2, vf)] Try.func8 rfl rfl (by simp) ⟨rfl, rfl, rfl, trivial⟩ fun g0 => ?_
  refine wi_seq <| wi_reg rfl <| lx_assign (.bool false) rfl rfl <| lx_nil <| wi_seq <| wi_reg rfl <| lx_move (.int .i64 n) rfl rfl <| lx_move (vl) rfl rfl <| lx_call [.int .i64 n, vl, .int .i64 9] rfl rfl Try.call15 rfl (tame_spec h n vl ls 9 hr_vl (by omega) (by omega) (by omega)) (fun _ _ _ => trivial) ?_
  rintro vp h1 ⟨_, hsp, p, rfl, ho1, hot1, htm, hx1⟩
  have ho2 := ho1.base (Nat.le_refl h.size)
  have hot2 := hot1.base (Nat.le_refl h.size)
  have hl_hot2 := hot2.1
  refine lx_assign (vp) rfl rfl <| lx_nil <| wi_seq <| wi_reg rfl <| ?_
  obtain ⟨hpt, hp0, hpm⟩ := htm
  have hpq : Sq p p.length := isT_sq hpt
  have hio := isT_o hpt
  have hck : chkT p = 0 := chkT_zero hp0 (by omega) hpt
  have hle : ∀ i, i < p.length → (gt p i).length ≤ 1000000 := fun i hi => by rw [hpq.2 i hi]; omega
  refine lx_assign (.slice none 0 0) rfl rfl <| lx_nil <| wi_seq <| wi_seq <| wi_reg rfl <| lx_assign (.int .i64 0) rfl rfl <| lx_nil <| wi_block <| ?_
  refine wi_loop (σ := Nat × Value × (List Int)) (rngB 37 59 [8, 9, 10]) (fun (ss : Nat × Value × (List Int)) => [(9, .int .i64 ((ss.1 : Nat) : Int)), (8, ss.2.1)]) (fun (ss : Nat × Value × (List Int)) (hh : Heap) => OwE encHd hh h.size 70 vp hsp ∧ OT encB hh h.size 4 hsp p ∧ OwE encI hh h.size 2 ss.2.1 ss.2.2 ∧ Ext h.size h hh ∧ (ss.1 ≤ p.length) ∧ (ss.2.2.length = ss.1) ∧ (∀ i, i < ss.1 → -1000 ≤ gt ss.2.2 i ∧ gt ss.2.2 i ≤ 1000)) (fun (ss : Nat × Value × (List Int)) => p.length - ss.1) (0, .slice none 0 0, []) ⟨rfl, rfl, trivial⟩ ⟨?_, ?_, ?_, hx1, ?_, ?_, ?_⟩ ?_
  · first | exact ho2 | (simpa using ho2)
  · first | exact hot2 | (simpa using hot2)
  · first | exact (owE_nil encI _ h.size 2) | (simpa using (owE_nil encI _ h.size 2))
  · try dsimp only
    omega
  · try dsimp only
    first | done | rfl
  · try dsimp only
    intro i hi; omega
  rintro g1 ⟨x, v, os⟩ hh1 ⟨ho3, hot3, ho4, hx0_1, hx, hol, hob⟩ IH1
  dsimp only at *
  have hl_hot3 := hot3.1
  refine wi_seq <| wi_seq <| wi_reg rfl <| lx_move (.int .i64 ((x : Nat) : Int)) rfl rfl <| lx_move (vp) rfl rfl <| lx_len rfl Try.underlying23 ho3.rd rfl <| lx_lssS rfl rfl rfl (fun c1 => ?_) (fun c1 => ?_)
  · refine lx_nil <| wi_true rfl <| wi_skip <| wi_seq <| wi_block <| wi_seq <| wi_reg rfl <| ?_
    have hxx : x * x ≤ 9 * 9 := Nat.mul_le_mul (by omega) (by omega)
    refine lx_move (.int .i64 ((x : Nat) : Int)) rfl rfl <| lx_move (.int .i64 ((x : Nat) : Int)) rfl rfl <| lx_mul (((x * x : Nat) : Int)) rfl rfl rfl (by omega) (by omega) (by omega) <| lx_assign (.int .i64 ((x * x : Nat) : Int)) rfl rfl <| lx_nil <| wi_seq <| wi_seq <| wi_reg rfl <| lx_move (.int .i64 ((x : Nat) : Int)) rfl rfl <| lx_move (vf) rfl rfl <| lx_len rfl Try.underlying58 hr_vf rfl <| lx_lssS rfl rfl rfl (fun c2 => ?_) (fun c2 => ?_)
    · refine lx_nil <| wi_true rfl <| wi_reg rfl <| lx_move (vf) rfl rfl <| lx_move (.int .i64 ((x : Nat) : Int)) rfl rfl <| lx_ix (i := x) rfl eT58 hr_vf rfl rfl (by omega) <| lx_ld (i := x) (j := 0) (.int .i64 (gt fs x)) rfl rfl fl2 (hr_vf.extS hx0_1) (by omega) rfl rfl <| lx_remZ rfl rfl rfl (by omega) <| lx_assign (.int .i64 ((gt fs x).tmod ((1000 : Int)))) rfl rfl <| lx_nil <| wi_reg rfl <| ?_
      have htb9 := tmod_bd (gt fs x)
      refine lx_move (v) rfl rfl <| lx_move (.int .i64 ((gt fs x).tmod ((1000 : Int)))) rfl rfl <| lx_appendL (E := encI) (B := h.size) [(gt fs x).tmod ((1000 : Int))] [.int .i64 ((gt fs x).tmod ((1000 : Int)))] rfl rfl (fun _ => rfl) rfl eT58 rfl rfl rfl rfl ho4 (fun _ => rfl) (by show os.length + 1 ≤ _; omega) (by show (os.length + 1) * 8 ≤ _; omega) hx0_1.size (fun _ _ => trivial) fun u1 v1 h2 ho5 hc1 hg1 => ?_
      have hx0_2 := hx0_1.trans (ho4.ext hc1 hx0_1.size)
      have ho6 := ho3.chg hc1 (dj_ty ho3 ho4 (by decide))
      have hot4 := hot3.chg hc1 (djt_ty hot3 ho4 (by decide))
      refine lx_assign (v1) rfl rfl <| lx_nil <| wi_inBlock <| wi_reg rfl <| lx_move (.int .i64 ((x : Nat) : Int)) rfl rfl <| lx_add (((x + 1 : Nat) : Int)) rfl rfl rfl (by omega) (by omega) (by omega) <| lx_assign (.int .i64 ((x + 1 : Nat) : Int)) rfl rfl <| lx_nil <| ?_
      -- L0.1
      refine IH1 _ _ (x + 1, v1, os ++ [(gt fs x).tmod ((1000 : Int))]) (agree_ups rfl agree_self) ⟨rfl, rfl, trivial⟩ ⟨?_, ?_, ?_, hx0_2, ?_, ?_, ?_⟩ ?_
      · first | exact ho6 | (simpa using ho6)
      · first | exact hot4 | (simpa using hot4)
      · first | exact ho5 | (simpa using ho5)
      · try dsimp only
        omega
      · try dsimp only
        rw [List.length_append, hol]; rfl
      · try dsimp only
        intro i hi
        by_cases e : i < os.length
        · rw [gt_append_left e]; exact hob i (by omega)
        · rw [show i = os.length from by omega, gt_append_right]; omega
      · first | omega | (dsimp only; omega)
    · refine lx_nil <| wi_false rfl <| wi_skip <| wi_reg rfl <| ?_
      have htb9 := tmod_bd (gt fs x)
      refine lx_move (v) rfl rfl <| lx_move (.int .i64 ((x * x : Nat) : Int)) rfl rfl <| lx_appendL (E := encI) (B := h.size) [((x * x : Nat) : Int)] [.int .i64 ((x * x : Nat) : Int)] rfl rfl (fun _ => rfl) rfl eT58 rfl rfl rfl rfl ho4 (fun _ => rfl) (by show os.length + 1 ≤ _; omega) (by show (os.length + 1) * 8 ≤ _; omega) hx0_1.size (fun _ _ => trivial) fun u2 v2 h3 ho7 hc2 hg2 => ?_
      have hx0_3 := hx0_1.trans (ho4.ext hc2 hx0_1.size)
      have ho8 := ho3.chg hc2 (dj_ty ho3 ho4 (by decide))
      have hot5 := hot3.chg hc2 (djt_ty hot3 ho4 (by decide))
      refine lx_assign (v2) rfl rfl <| lx_nil <| wi_inBlock <| wi_reg rfl <| lx_move (.int .i64 ((x : Nat) : Int)) rfl rfl <| lx_add (((x + 1 : Nat) : Int)) rfl rfl rfl (by omega) (by omega) (by omega) <| lx_assign (.int .i64 ((x + 1 : Nat) : Int)) rfl rfl <| lx_nil <| ?_
      -- L0.2
      refine IH1 _ _ (x + 1, v2, os ++ [((x * x : Nat) : Int)]) (agree_ups rfl agree_self) ⟨rfl, rfl, trivial⟩ ⟨?_, ?_, ?_, hx0_3, ?_, ?_, ?_⟩ ?_
      · first | exact ho8 | (simpa using ho8)
      · first | exact hot5 | (simpa using hot5)
      · first | exact ho7 | (simpa using ho7)
      · try dsimp only
        omega
      · try dsimp only
        rw [List.length_append, hol]; rfl
      · try dsimp only
        intro i hi
        by_cases e : i < os.length
        · rw [gt_append_left e]; exact hob i (by omega)
        · rw [show i = os.length from by omega, gt_append_right]; omega
      · first | omega | (dsimp only; omega)
  · refine lx_nil <| wi_false rfl <| wi_exit rfl <| wi_seq <| wi_reg rfl <| ?_
    have hol9 : os.length = p.length := by omega
    have hl0 : lisE p os = 0 := lisE_ok hck hol9 fun i hi => by have := hob i (by omega); omega
    refine lx_move (vp) rfl rfl <| lx_move (v) rfl rfl <| lx_call [vp, v] rfl rfl Try.call47 rfl (osums_spec hh1 vp hsp p v os ho3.rd hot3.rt ho4.rd (by omega) hle (by omega)) (fun _ _ _ => trivial) ?_
    rintro _ h4 ⟨vsu, su, rfl, ho9, hsu, hx2⟩
    have hx0_4 := hx0_1.trans2 hx2 hx0_1.size
    have ho10 := ho3.extS hx2
    have hot6 := hot3.extS hx2
    have ho11 := ho4.extS hx2
    have ho12 := ho9.base hx0_1.size
    refine lx_move (.tuple #[vsu, .int .i64 (lisE p os)]) rfl rfl <| lx_extract (vsu) rfl rfl rfl <| lx_extract (.int .i64 (lisE p os)) rfl rfl rfl <| lx_assign (vsu) rfl rfl <| lx_assign (.int .i64 (lisE p os)) rfl rfl <| lx_nil <| wi_seq <| wi_reg rfl <| ?_
    have hsu0 := goodA hsu hl0
    have hsl : su.length = p.length := by rw [hsu0]; exact mapR_len _ _
    have hsb : ∀ i, i < su.length → -12000 ≤ gt su i ∧ gt su i ≤ 12000 := fun i hi => by
      rw [hsu0, sumT, gt_mapR (by omega)]
      have := smP_bound (f := pb p) (a := gt os) (y := i) (B := 1000) (by decide) (show p.length ≤ 12 by omega) fun x hx => hob x (by omega)
      omega
    have hl1 : lisE p su = 0 := lisE_ok hck hsl fun i hi => by have := hsb i hi; omega
    refine lx_move (vp) rfl rfl <| lx_move (vsu) rfl rfl <| lx_call [vp, vsu] rfl rfl Try.call48 rfl (odiff_spec h4 vp hsp p vsu su ho10.rd hot6.rt ho12.rd (by omega) hle (by omega) hpm) (fun _ _ _ => trivial) ?_
    rintro _ h5 ⟨vd, ds, rfl, ho13, hdi, hx3⟩
    have hx0_5 := hx0_4.trans2 hx3 hx0_4.size
    have ho14 := ho10.extS hx3
    have hot7 := hot6.extS hx3
    have ho15 := ho11.extS hx3
    have ho16 := ho12.extS hx3
    have ho17 := ho13.base hx0_4.size
    refine lx_move (.tuple #[vd, .int .i64 (lisE p su)]) rfl rfl <| lx_extract (vd) rfl rfl rfl <| lx_extract (.int .i64 (lisE p su)) rfl rfl rfl <| lx_assign (vd) rfl rfl <| lx_assign (.int .i64 (lisE p su)) rfl rfl <| lx_nil <| wi_seq <| wi_reg rfl <| lx_move (vp) rfl rfl <| lx_call [vp] rfl rfl Try.call49 rfl (omoebius_spec h5 vp hsp p ho14.rd hot7.rt (by omega) hle) (fun _ _ _ => trivial) ?_
    rintro _ h6 ⟨vm, hm9, rm, rfl, ho18, hot8, hmo, hx4⟩
    have hx0_6 := hx0_5.trans2 hx4 hx0_5.size
    have ho19 := ho14.extS hx4
    have hot9 := hot7.extS hx4
    have ho20 := ho15.extS hx4
    have ho21 := ho16.extS hx4
    have ho22 := ho17.extS hx4
    have ho23 := ho18.base hx0_5.size
    have hot10 := hot8.base hx0_5.size
    have hl_hot10 := hot10.1
    refine lx_move (.tuple #[vm, .int .i64 (chkT p)]) rfl rfl <| lx_extract (vm) rfl rfl rfl <| lx_extract (.int .i64 (chkT p)) rfl rfl rfl <| lx_assign (vm) rfl rfl <| lx_assign (.int .i64 (chkT p)) rfl rfl <| lx_nil <| wi_seq <| wi_seq <| wi_reg rfl <| ?_
    have hds : ds = os := by rw [goodA hdi hl1, hsu0]; exact rota_own hio hol9
    have hrm := goodA hmo hck
    have hrl : rm.length = p.length := by rw [hrm]; exact muT_len _ _
    refine lx_move (.int .i64 (lisE p os)) rfl rfl <| lx_neqF rfl rfl rfl (fun h9 => h9 hl0) <| lx_move (.bool false) rfl rfl <| lx_move (.int .i64 (lisE p su)) rfl rfl <| lx_neqF rfl rfl rfl (fun h9 => h9 hl1) <| lx_pick false (.bool false) rfl rfl rfl <| lx_move (.bool false) rfl rfl <| lx_move (.int .i64 (chkT p)) rfl rfl <| lx_neqF rfl rfl rfl (fun h9 => h9 hck) <| lx_pick false (.bool false) rfl rfl rfl <| lx_move (.bool false) rfl rfl <| lx_move (vd) rfl rfl <| lx_move (v) rfl rfl <| lx_call [vd, v] rfl rfl Try.call41 rfl (longs_spec h6 vd ds v os ho22.rd ho20.rd (by rw [hds]; omega) (by omega)) (fun _ _ _ => trivial) ?_
    rintro _ h7 ⟨rfl, rfl⟩
    rw [decide_eq_true hds]
    refine lx_notB false rfl rfl rfl <| lx_pick false (.bool false) rfl rfl rfl <| lx_nil <| wi_false rfl <| wi_skip <| wi_seq <| wi_seq <| wi_reg rfl <| lx_assign (.int .i64 0) rfl rfl <| lx_nil <| wi_block <| ?_
    refine wi_loop (σ := Nat) (rngB 92 178 [6, 17, 18, 19, 20, 21, 22, 23]) (fun (y : Nat) => [(17, .int .i64 ((y : Nat) : Int))]) (fun (y : Nat) (hh : Heap) => OwE encHd hh h.size 70 vp hsp ∧ OT encB hh h.size 4 hsp p ∧ OwE encI hh h.size 2 v os ∧ OwE encI hh h.size 2 vsu su ∧ OwE encHd hh h.size 25 vm hm9 ∧ OT encI hh h.size 3 hm9 rm ∧ Ext h.size h hh ∧ (y ≤ p.length)) (fun (y : Nat) => p.length - y) 0 ⟨rfl, trivial⟩ ⟨?_, ?_, ?_, ?_, ?_, ?_, hx0_6, ?_⟩ ?_
    · first | exact ho19 | (simpa using ho19)
    · first | exact hot9 | (simpa using hot9)
    · first | exact ho20 | (simpa using ho20)
    · first | exact ho21 | (simpa using ho21)
    · first | exact ho23 | (simpa using ho23)
    · first | exact hot10 | (simpa using hot10)
    · try dsimp only
      omega
    rintro g2 y hh2 ⟨ho24, hot11, ho25, ho26, ho27, hot12, hx0_7, hy⟩ IH2
    have hl_hot11 := hot11.1
    have hl_hot12 := hot12.1
    refine wi_seq <| wi_seq <| wi_reg rfl <| lx_move (.int .i64 ((y : Nat) : Int)) rfl rfl <| lx_move (vp) rfl rfl <| lx_len rfl Try.underlying23 ho24.rd rfl <| lx_lssS rfl rfl rfl (fun c3 => ?_) (fun c3 => ?_)
    · refine lx_nil <| wi_true rfl <| wi_skip <| wi_seq <| wi_block <| wi_seq <| wi_reg rfl <| lx_assign (.int .i64 0) rfl rfl <| lx_nil <| wi_seq <| wi_seq <| wi_reg rfl <| lx_assign (.int .i64 0) rfl rfl <| lx_nil <| wi_block <| ?_
      refine wi_loop (σ := Nat × Int) (rngB 98 172 [6, 18, 19, 20, 21, 22, 23]) (fun (ss : Nat × Int) => [(19, .int .i64 ((ss.1 : Nat) : Int)), (18, .int .i64 ss.2)]) (fun (ss : Nat × Int) (hh : Heap) => OwE encHd hh h.size 70 vp hsp ∧ OT encB hh h.size 4 hsp p ∧ OwE encI hh h.size 2 v os ∧ OwE encI hh h.size 2 vsu su ∧ OwE encHd hh h.size 25 vm hm9 ∧ OT encI hh h.size 3 hm9 rm ∧ Ext h.size h hh ∧ (ss.1 ≤ p.length) ∧ (ss.2 = dfP p.length (pb p) (gt su) y ss.1)) (fun (ss : Nat × Int) => p.length - ss.1) (0, 0) ⟨rfl, rfl, trivial⟩ ⟨?_, ?_, ?_, ?_, ?_, ?_, hx0_7, ?_, ?_⟩ ?_
      · first | exact ho24 | (simpa using ho24)
      · first | exact hot11 | (simpa using hot11)
      · first | exact ho25 | (simpa using ho25)
      · first | exact ho26 | (simpa using ho26)
      · first | exact ho27 | (simpa using ho27)
      · first | exact hot12 | (simpa using hot12)
      · try dsimp only
        omega
      · try dsimp only
        first | done | rfl
      rintro g3 ⟨x, sm⟩ hh3 ⟨ho28, hot13, ho29, ho30, ho31, hot14, hx0_8, hx, hsm⟩ IH3
      dsimp only at *
      have hl_hot13 := hot13.1
      have hl_hot14 := hot14.1
      refine wi_seq <| wi_seq <| wi_reg rfl <| lx_move (.int .i64 ((x : Nat) : Int)) rfl rfl <| lx_move (vp) rfl rfl <| lx_len rfl Try.underlying23 ho28.rd rfl <| lx_lssS rfl rfl rfl (fun c4 => ?_) (fun c4 => ?_)
      · refine lx_nil <| wi_true rfl <| wi_skip <| wi_seq <| wi_block <| wi_seq <| wi_draw mo rfl (by decide +kernel) <| ?_
        have hmr : (gt rm (x)).length = p.length := by rw [hrm, gt_muT (by omega)]; exact mapR_len _ _
        have hmg : gt (gt rm (x)) (y) = muF p.length (pb p) (x) (y) := by rw [hrm, gt_muT (by omega), gt_mapR (by omega)]
        have hb1 := dfP_bd hio hpm (a := gt su) (y := y) (j := x) (by omega) (by omega) fun i hi => by have := hsb i (by omega); omega
        rw [← hsm] at hb1
        have hb2 := mul_bd (a := gt su x) (by have := hsb x (by omega); omega) (mu9 hio hpm (show x < p.length by omega) (show y < p.length by omega))
        have hb3 := dfP_bd hio hpm (a := gt su) (y := y) (j := x + 1) (by omega) (by omega) fun i hi => by have := hsb i (by omega); omega
        rw [dfP_succ, ← hsm] at hb3
        refine lx_move (.int .i64 sm) rfl rfl <| lx_move (vsu) rfl rfl <| lx_move (.int .i64 ((x : Nat) : Int)) rfl rfl <| lx_ix (i := x) rfl eT58 ho30.rd rfl rfl (by omega) <| lx_ld (i := x) (j := 0) (.int .i64 (gt su x)) rfl rfl fl2 ho30.rd (by omega) rfl rfl <| lx_move (vm) rfl rfl <| lx_move (.int .i64 ((x : Nat) : Int)) rfl rfl <| lx_ix (i := x) rfl eT49 ho31.rd rfl rfl (by omega) <| lx_ld (i := x) (j := 0) ((gt hm9 x).v) rfl rfl fl25 ho31.rd (by omega) rfl rfl <| lx_move (.int .i64 ((y : Nat) : Int)) rfl rfl <| lx_ix (i := y) rfl eT25 (hot14.2.1 x (by omega)).rd rfl rfl (by omega) <| lx_ld (i := y) (j := 0) (.int .i64 (muF p.length (pb p) (x) (y))) rfl rfl fl3 (hot14.2.1 x (by omega)).rd (by omega) (by show some (Value.int .i64 (gt (gt rm (x)) (y))) = _; rw [hmg]) rfl <| lx_mul ((gt su x) * (muF p.length (pb p) (x) (y))) rfl rfl rfl (by omega) (by omega) (by omega) <| lx_add (sm + ((gt su x) * (muF p.length (pb p) (x) (y)))) rfl rfl rfl (by omega) (by omega) (by omega) <| lx_assign (.int .i64 (sm + ((gt su x) * (muF p.length (pb p) (x) (y))))) rfl rfl <| lx_nil <| wi_seq <| wi_reg rfl <| lx_move (vp) rfl rfl <| lx_move (.int .i64 ((x : Nat) : Int)) rfl rfl <| lx_move (.int .i64 ((y : Nat) : Int)) rfl rfl <| lx_call [vp, .int .i64 ((x : Nat) : Int), .int .i64 ((y : Nat) : Int)] rfl rfl Try.call50 rfl (ochains_spec hh3 vp hsp p (((x : Nat) : Int)) (((y : Nat) : Int)) ho28.rd hot13.rt (by omega) hle) (fun _ _ _ => trivial) ?_
        rintro _ h8 ⟨vc, cs, rfl, ho32, hcr, hx5⟩
        have hx0_9 := hx0_8.trans2 hx5 hx0_8.size
        have ho33 := ho28.extS hx5
        have hot15 := hot13.extS hx5
        have ho34 := ho29.extS hx5
        have ho35 := ho30.extS hx5
        have ho36 := ho31.extS hx5
        have hot16 := hot14.extS hx5
        have ho37 := ho32.base hx0_8.size
        refine lx_move (.tuple #[vc, .int .i64 (chaC p (((x : Nat) : Int)) (((y : Nat) : Int)))]) rfl rfl <| lx_extract (vc) rfl rfl rfl <| lx_extract (.int .i64 (chaC p (((x : Nat) : Int)) (((y : Nat) : Int)))) rfl rfl rfl <| lx_assign (vc) rfl rfl <| lx_assign (.int .i64 (chaC p (((x : Nat) : Int)) (((y : Nat) : Int)))) rfl rfl <| lx_nil <| wi_seq <| wi_reg rfl <| ?_
        have hcc : chaC p ((x : Nat) : Int) ((y : Nat) : Int) = 0 := by unfold chaC; rw [if_pos hck, if_pos ⟨by omega, by omega, by omega, by omega⟩]
        have hcr9 := goodA hcr hcc
        rw [Int.toNat_natCast, Int.toNat_natCast] at hcr9
        obtain ⟨hha, hhl, hcl, hcb⟩ := rota_hall hio (show x < p.length by omega) (show y < p.length by omega) (by omega) hcr9
        refine lx_assign (.int .i64 0) rfl rfl <| lx_nil <| wi_seq <| wi_seq <| wi_reg rfl <| lx_assign (.int .i64 0) rfl rfl <| lx_nil <| wi_block <| ?_
        refine wi_loop (σ := Nat × Int) (rngB 125 146 [22, 23]) (fun (ss : Nat × Int) => [(23, .int .i64 ((ss.1 : Nat) : Int)), (22, .int .i64 ss.2)]) (fun (ss : Nat × Int) (hh : Heap) => h8 = hh ∧ (ss.1 ≤ cs.length) ∧ (ss.2 = altS (gt cs) ss.1)) (fun (ss : Nat × Int) => cs.length - ss.1) (0, 0) ⟨rfl, rfl, trivial⟩ ⟨rfl, ?_, ?_⟩ ?_
        · try dsimp only
          omega
        · try dsimp only
          first | done | rfl
        rintro g4 ⟨k, tot⟩ hh4 ⟨rfl, hk, htot⟩ IH4
        dsimp only at *
        refine wi_seq <| wi_seq <| wi_reg rfl <| lx_move (.int .i64 ((k : Nat) : Int)) rfl rfl <| lx_move (vc) rfl rfl <| lx_len rfl Try.underlying58 ho37.rd rfl <| lx_lssS rfl rfl rfl (fun c5 => ?_) (fun c5 => ?_)
        · refine lx_nil <| wi_true rfl <| wi_skip <| wi_seq <| wi_block <| wi_seq <| wi_reg rfl <| ?_
          have hb1 := altS_bd (g := gt cs) (K := k) (B := 8916100448256) (by decide) fun i hi => hcb i (by omega)
          rw [← htot] at hb1
          have hb2 := hcb k (by omega)
          refine lx_move (.int .i64 ((k : Nat) : Int)) rfl rfl <| lx_rem (m := k) (n := 2) rfl rfl rfl (by omega) <| lx_eqlS rfl rfl rfl (fun c6 => ?_) (fun c6 => ?_)
          · refine lx_nil <| wi_true rfl <| wi_reg rfl <| lx_move (.int .i64 tot) rfl rfl <| lx_move (vc) rfl rfl <| lx_move (.int .i64 ((k : Nat) : Int)) rfl rfl <| lx_ix (i := k) rfl eT58 ho37.rd rfl rfl (by omega) <| lx_ld (i := k) (j := 0) (.int .i64 (gt cs k)) rfl rfl fl2 ho37.rd (by omega) rfl rfl <| lx_add (tot + (gt cs k)) rfl rfl rfl (by omega) (by omega) (by omega) <| lx_assign (.int .i64 (tot + (gt cs k))) rfl rfl <| lx_nil <| wi_inBlock <| wi_reg rfl <| lx_move (.int .i64 ((k : Nat) : Int)) rfl rfl <| lx_add (((k + 1 : Nat) : Int)) rfl rfl rfl (by omega) (by omega) (by omega) <| lx_assign (.int .i64 ((k + 1 : Nat) : Int)) rfl rfl <| lx_nil <| ?_
            -- L6.1
            refine IH4 _ _ (k + 1, tot + (gt cs k)) (agree_ups rfl agree_self) ⟨rfl, rfl, trivial⟩ ⟨rfl, ?_, ?_⟩ ?_
            · try dsimp only
              omega
            · try dsimp only
              rw [htot, altS_succ, if_pos (by omega)]
            · first | omega | (dsimp only; omega)
          · refine lx_nil <| wi_false rfl <| wi_reg rfl <| lx_move (.int .i64 tot) rfl rfl <| lx_move (vc) rfl rfl <| lx_move (.int .i64 ((k : Nat) : Int)) rfl rfl <| lx_ix (i := k) rfl eT58 ho37.rd rfl rfl (by omega) <| lx_ld (i := k) (j := 0) (.int .i64 (gt cs k)) rfl rfl fl2 ho37.rd (by omega) rfl rfl <| lx_sub (tot - (gt cs k)) rfl rfl rfl (by omega) (by omega) (by omega) <| lx_assign (.int .i64 (tot - (gt cs k))) rfl rfl <| lx_nil <| wi_inBlock <| wi_reg rfl <| lx_move (.int .i64 ((k : Nat) : Int)) rfl rfl <| lx_add (((k + 1 : Nat) : Int)) rfl rfl rfl (by omega) (by omega) (by omega) <| lx_assign (.int .i64 ((k + 1 : Nat) : Int)) rfl rfl <| lx_nil <| ?_
            -- L6.2
            refine IH4 _ _ (k + 1, tot - (gt cs k)) (agree_ups rfl agree_self) ⟨rfl, rfl, trivial⟩ ⟨rfl, ?_, ?_⟩ ?_
            · try dsimp only
              omega
            · try dsimp only
              rw [htot, altS_succ, if_neg (by omega)]
            · first | omega | (dsimp only; omega)
        · refine lx_nil <| wi_false rfl <| wi_exit rfl <| wi_seq <| wi_reg rfl <| ?_
          have hmr : (gt rm (x)).length = p.length := by rw [hrm, gt_muT (by omega)]; exact mapR_len _ _
          have hmg : gt (gt rm (x)) (y) = muF p.length (pb p) (x) (y) := by rw [hrm, gt_muT (by omega), gt_mapR (by omega)]
          have htm : tot = muF p.length (pb p) (x) (y) := by rw [htot, show k = cs.length from by omega]; exact hha
          refine lx_move (.int .i64 (chaC p (((x : Nat) : Int)) (((y : Nat) : Int)))) rfl rfl <| lx_neqF rfl rfl rfl (fun h9 => h9 hcc) <| lx_move (.bool false) rfl rfl <| lx_move (.int .i64 tot) rfl rfl <| lx_move (vm) rfl rfl <| lx_move (.int .i64 ((x : Nat) : Int)) rfl rfl <| lx_ix (i := x) rfl eT49 ho36.rd rfl rfl (by omega) <| lx_ld (i := x) (j := 0) ((gt hm9 x).v) rfl rfl fl25 ho36.rd (by omega) rfl rfl <| lx_move (.int .i64 ((y : Nat) : Int)) rfl rfl <| lx_ix (i := y) rfl eT25 (hot16.2.1 x (by omega)).rd rfl rfl (by omega) <| lx_ld (i := y) (j := 0) (.int .i64 (muF p.length (pb p) (x) (y))) rfl rfl fl3 (hot16.2.1 x (by omega)).rd (by omega) (by show some (Value.int .i64 (gt (gt rm (x)) (y))) = _; rw [hmg]) rfl <| lx_neqF rfl rfl rfl (fun h9 => h9 htm) <| lx_pick false (.bool false) rfl rfl rfl <| lx_move (.bool false) rfl rfl <| lx_move (vc) rfl rfl <| lx_len rfl Try.underlying58 ho37.rd rfl <| lx_eql rfl rfl rfl <| lx_move (vp) rfl rfl <| lx_move (.int .i64 ((x : Nat) : Int)) rfl rfl <| lx_ix (i := x) rfl eT23 ho33.rd rfl rfl (by omega) <| lx_ld (i := x) (j := 0) ((gt hsp x).v) rfl rfl fl70 ho33.rd (by omega) rfl rfl <| lx_move (.int .i64 ((y : Nat) : Int)) rfl rfl <| lx_ix (i := y) rfl eT70 (hot15.2.1 x (by omega)).rd rfl rfl (by rw [hpq.2 x (by omega)]; omega) <| lx_ld (i := y) (j := 0) (.bool (gt (gt p x) y)) rfl rfl fl4 (hot15.2.1 x (by omega)).rd (by rw [hpq.2 x (by omega)]; omega) rfl rfl <| lx_eqlBool false rfl Try.underlying4 rfl rfl (by rw [hhl]; show ((!pb p x y) == pb p x y) = false; cases pb p x y <;> rfl) <| lx_pick false (.bool false) rfl rfl rfl <| lx_nil <| wi_false rfl <| wi_skip <| wi_inBlock <| wi_reg rfl <| lx_move (.int .i64 ((x : Nat) : Int)) rfl rfl <| lx_add (((x + 1 : Nat) : Int)) rfl rfl rfl (by omega) (by omega) (by omega) <| lx_assign (.int .i64 ((x + 1 : Nat) : Int)) rfl rfl <| lx_nil <| ?_
          -- L4.1
          refine IH3 _ _ (x + 1, sm + ((gt su x) * (muF p.length (pb p) (x) (y)))) (agree_ups rfl (agree_mix (rngB_sub (by decide) (by decide) rfl) (agree_ups rfl agree_self))) ⟨rfl, rfl, trivial⟩ ⟨?_, ?_, ?_, ?_, ?_, ?_, hx0_9, ?_, ?_⟩ ?_
          · first | exact ho33 | (simpa using ho33)
          · first | exact hot15 | (simpa using hot15)
          · first | exact ho34 | (simpa using ho34)
          · first | exact ho35 | (simpa using ho35)
          · first | exact ho36 | (simpa using ho36)
          · first | exact hot16 | (simpa using hot16)
          · try dsimp only
            omega
          · try dsimp only
            rw [dfP_succ, hsm]
          · first | omega | (dsimp only; omega)
      · refine lx_nil <| wi_false rfl <| wi_exit rfl <| wi_seq <| wi_reg rfl <| ?_
        have hsy : sm = gt os y := by rw [hsm, show x = p.length from by omega, hsu0]; exact rota_sum hio os (by omega)
        refine lx_move (.int .i64 sm) rfl rfl <| lx_move (v) rfl rfl <| lx_move (.int .i64 ((y : Nat) : Int)) rfl rfl <| lx_ix (i := y) rfl eT58 ho29.rd rfl rfl (by omega) <| lx_ld (i := y) (j := 0) (.int .i64 (gt os y)) rfl rfl fl2 ho29.rd (by omega) rfl rfl <| lx_neqF rfl rfl rfl (fun h9 => h9 hsy) <| lx_nil <| wi_false rfl <| wi_skip <| wi_inBlock <| wi_reg rfl <| lx_move (.int .i64 ((y : Nat) : Int)) rfl rfl <| lx_add (((y + 1 : Nat) : Int)) rfl rfl rfl (by omega) (by omega) (by omega) <| lx_assign (.int .i64 ((y + 1 : Nat) : Int)) rfl rfl <| lx_nil <| ?_
        -- L2.1
        refine IH2 _ _ (y + 1) (agree_ups rfl (agree_mix (rngB_sub (by decide) (by decide) rfl) (agree_ups rfl agree_self))) ⟨rfl, trivial⟩ ⟨?_, ?_, ?_, ?_, ?_, ?_, hx0_8, ?_⟩ ?_
        · first | exact ho28 | (simpa using ho28)
        · first | exact hot13 | (simpa using hot13)
        · first | exact ho29 | (simpa using ho29)
        · first | exact ho30 | (simpa using ho30)
        · first | exact ho31 | (simpa using ho31)
        · first | exact hot14 | (simpa using hot14)
        · try dsimp only
          omega
        · first | omega | (dsimp only; omega)
    · refine lx_nil <| wi_false rfl <| wi_exit rfl <| wi_seq <| wi_reg rfl <| ?_
      have hsb9 := hsb
      refine lx_move (vp) rfl rfl <| lx_call [vp] rfl rfl Try.call30 rfl (ogap_spec hh2 vp hsp p ho24.rd hot11.rt (by omega) hle) (fun _ _ _ => trivial) ?_
      rintro _ h9 ⟨ox, oy, gb, rfl, hog, hx6⟩
      have hx0_10 := hx0_7.trans2 hx6 hx0_7.size
      have ho38 := ho24.extS hx6
      have hot17 := hot11.extS hx6
      have ho39 := ho25.extS hx6
      have ho40 := ho26.extS hx6
      have ho41 := ho27.extS hx6
      have hot18 := hot12.extS hx6
      refine lx_move (.tuple #[.int .i64 ((ox : Nat) : Int), .int .i64 ((oy : Nat) : Int), .bool gb, .int .i64 (chkT p)]) rfl rfl <| lx_extract (.int .i64 ((ox : Nat) : Int)) rfl rfl rfl <| lx_extract (.int .i64 ((oy : Nat) : Int)) rfl rfl rfl <| lx_extract (.bool gb) rfl rfl rfl <| lx_extract (.int .i64 (chkT p)) rfl rfl rfl <| lx_assign (.int .i64 ((ox : Nat) : Int)) rfl rfl <| lx_assign (.int .i64 ((oy : Nat) : Int)) rfl rfl <| lx_assign (.bool gb) rfl rfl <| lx_assign (.int .i64 (chkT p)) rfl rfl <| lx_nil <| wi_seq <| wi_seq <| wi_reg rfl <| ?_
      have hgr := goodA hog hck
      have hgb := gapR_ng hgr
      refine lx_move (.int .i64 (chkT p)) rfl rfl <| lx_neqF rfl rfl rfl (fun h9 => h9 hck) <| lx_move (.bool false) rfl rfl <| lx_move (.bool gb) rfl rfl <| lx_pick false (.bool gb) rfl rfl rfl <| lx_move (.bool gb) rfl rfl <| ?_
      cases c7 : gb
      · refine lx_move (vp) rfl rfl <| lx_len rfl Try.underlying23 ho38.rd rfl <| lx_eqlS rfl rfl rfl (fun c8 => ?_) (fun c8 => ?_)
        · refine lx_pick false (.bool true) rfl rfl rfl <| lx_nil <| wi_true rfl <| wi_seq <| wi_reg rfl <| lx_move (.int .i64 (chkT p)) rfl rfl <| lx_eqlT rfl rfl rfl hck <| lx_move (.bool true) rfl rfl <| lx_call [] rfl rfl Try.call20 rfl (awake_spec h9 ) (fun _ _ _ => trivial) ?_
          rintro _ h10 ⟨rfl, hx7⟩
          have hx0_11 := hx0_10.trans2 hx7 hx0_10.size
          have ho42 := ho38.extS hx7
          have hot19 := hot17.extS hx7
          have ho43 := ho39.extS hx7
          have ho44 := ho40.extS hx7
          have ho45 := ho41.extS hx7
          have hot20 := hot18.extS hx7
          refine lx_pick true (.bool true) rfl rfl rfl <| lx_assign (.bool true) rfl rfl <| lx_nil <| ?_
          -- R1
          refine wi_ret ⟨.bool true, (res_one rfl rfl), ⟨rfl, hx0_11⟩⟩
        · refine lx_pick false (.bool false) rfl rfl rfl <| lx_nil <| wi_false rfl <| wi_skip <| wi_seq <| wi_reg rfl <| ?_
          have hng : noGap p.length (pb p) := ngB_iff.1 (by rw [show gb = false from by assumption] at hgb; simpa using hgb.symm)
          refine lx_move (vp) rfl rfl <| lx_call [vp] rfl rfl Try.call51 rfl (ends_spec h9 vp hsp p ho38.rd hot17.rt (by omega) hpq hio hng (by omega)) (fun _ _ _ => trivial) ?_
          rintro _ h11 ⟨rfl, hx8⟩
          have hx0_12 := hx0_10.trans2 hx8 hx0_10.size
          have ho46 := ho38.extS hx8
          have hot21 := hot17.extS hx8
          have ho47 := ho39.extS hx8
          have ho48 := ho40.extS hx8
          have ho49 := ho41.extS hx8
          have hot22 := hot18.extS hx8
          refine lx_move (.tuple #[.int .i64 ((loN p.length (pb p) : Nat) : Int), .int .i64 ((hiN p.length (pb p) : Nat) : Int)]) rfl rfl <| lx_extract (.int .i64 ((loN p.length (pb p) : Nat) : Int)) rfl rfl rfl <| lx_extract (.int .i64 ((hiN p.length (pb p) : Nat) : Int)) rfl rfl rfl <| lx_assign (.int .i64 ((loN p.length (pb p) : Nat) : Int)) rfl rfl <| lx_assign (.int .i64 ((hiN p.length (pb p) : Nat) : Int)) rfl rfl <| lx_nil <| wi_seq <| wi_reg rfl <| lx_move (vp) rfl rfl <| lx_call [vp] rfl rfl Try.call35 rfl (ocrosscut_spec h11 vp hsp p ho46.rd hot21.rt (by omega) hle) (fun _ _ _ => trivial) ?_
          rintro _ h12 ⟨vcr, cr, rfl, ho50, hcr, hx9⟩
          have hx0_13 := hx0_12.trans2 hx9 hx0_12.size
          have ho51 := ho46.extS hx9
          have hot23 := hot21.extS hx9
          have ho52 := ho47.extS hx9
          have ho53 := ho48.extS hx9
          have ho54 := ho49.extS hx9
          have hot24 := hot22.extS hx9
          have ho55 := ho50.base hx0_12.size
          refine lx_move (.tuple #[vcr, .int .i64 (opnC p)]) rfl rfl <| lx_extract (vcr) rfl rfl rfl <| lx_extract (.int .i64 (opnC p)) rfl rfl rfl <| lx_assign (vcr) rfl rfl <| lx_assign (.int .i64 (opnC p)) rfl rfl <| lx_nil <| wi_seq <| wi_reg rfl <| ?_
          have hop9 : opnC p = 0 := opnC_of hck (ngB_iff.2 hng)
          have hcr0 : cr = crF p.length (pb p) := by rw [hcr, if_pos hop9]
          have hcl9 : cr.length = (atL p.length (pb p)).length + 1 := by rw [hcr0]; exact crL_len _ _ _ _ _ _
          have hal9 := atL_len p.length (pb p)
          have hpw9 := pow12 (show (atL p.length (pb p)).length ≤ 12 by omega)
          have hcb : ∀ i, i < cr.length → -4096 ≤ gt cr i ∧ gt cr i ≤ 4096 := fun i hi => by
            rw [hcr0]
            have := crL_at (n := p.length) (f := pb p) (lo := loN p.length (pb p)) (hi := hiN p.length (pb p)) (al := atL p.length (pb p)) (t := 2 ^ (atL p.length (pb p)).length) (c := i) (by omega)
            unfold crF
            omega
          refine lx_assign (.int .i64 0) rfl rfl <| lx_nil <| wi_seq <| wi_seq <| wi_reg rfl <| lx_assign (.int .i64 0) rfl rfl <| lx_nil <| wi_block <| ?_
          refine wi_loop (σ := Nat × Int) (rngB 210 231 [32, 33]) (fun (ss : Nat × Int) => [(33, .int .i64 ((ss.1 : Nat) : Int)), (32, .int .i64 ss.2)]) (fun (ss : Nat × Int) (hh : Heap) => h12 = hh ∧ (ss.1 ≤ cr.length) ∧ (ss.2 = altS (gt cr) ss.1)) (fun (ss : Nat × Int) => cr.length - ss.1) (0, 0) ⟨rfl, rfl, trivial⟩ ⟨rfl, ?_, ?_⟩ ?_
          · try dsimp only
            omega
          · try dsimp only
            first | done | rfl
          rintro g5 ⟨k, tot⟩ hh5 ⟨rfl, hk, htot⟩ IH5
          dsimp only at *
          refine wi_seq <| wi_seq <| wi_reg rfl <| lx_move (.int .i64 ((k : Nat) : Int)) rfl rfl <| lx_move (vcr) rfl rfl <| lx_len rfl Try.underlying58 ho55.rd rfl <| lx_lssS rfl rfl rfl (fun c9 => ?_) (fun c9 => ?_)
          · refine lx_nil <| wi_true rfl <| wi_skip <| wi_seq <| wi_block <| wi_seq <| wi_reg rfl <| ?_
            have hb1 := altS_bd (g := gt cr) (K := k) (B := 4096) (by decide) fun i hi => hcb i (by omega)
            rw [← htot] at hb1
            have hb2 := hcb k (by omega)
            refine lx_move (.int .i64 ((k : Nat) : Int)) rfl rfl <| lx_rem (m := k) (n := 2) rfl rfl rfl (by omega) <| lx_eqlS rfl rfl rfl (fun c10 => ?_) (fun c10 => ?_)
            · refine lx_nil <| wi_true rfl <| wi_reg rfl <| lx_move (.int .i64 tot) rfl rfl <| lx_move (vcr) rfl rfl <| lx_move (.int .i64 ((k : Nat) : Int)) rfl rfl <| lx_ix (i := k) rfl eT58 ho55.rd rfl rfl (by omega) <| lx_ld (i := k) (j := 0) (.int .i64 (gt cr k)) rfl rfl fl2 ho55.rd (by omega) rfl rfl <| lx_add (tot + (gt cr k)) rfl rfl rfl (by omega) (by omega) (by omega) <| lx_assign (.int .i64 (tot + (gt cr k))) rfl rfl <| lx_nil <| wi_inBlock <| wi_reg rfl <| lx_move (.int .i64 ((k : Nat) : Int)) rfl rfl <| lx_add (((k + 1 : Nat) : Int)) rfl rfl rfl (by omega) (by omega) (by omega) <| lx_assign (.int .i64 ((k + 1 : Nat) : Int)) rfl rfl <| lx_nil <| ?_
              -- L8.1
              refine IH5 _ _ (k + 1, tot + (gt cr k)) (agree_ups rfl agree_self) ⟨rfl, rfl, trivial⟩ ⟨rfl, ?_, ?_⟩ ?_
              · try dsimp only
                omega
              · try dsimp only
                rw [htot, altS_succ, if_pos (by omega)]
              · first | omega | (dsimp only; omega)
            · refine lx_nil <| wi_false rfl <| wi_reg rfl <| lx_move (.int .i64 tot) rfl rfl <| lx_move (vcr) rfl rfl <| lx_move (.int .i64 ((k : Nat) : Int)) rfl rfl <| lx_ix (i := k) rfl eT58 ho55.rd rfl rfl (by omega) <| lx_ld (i := k) (j := 0) (.int .i64 (gt cr k)) rfl rfl fl2 ho55.rd (by omega) rfl rfl <| lx_sub (tot - (gt cr k)) rfl rfl rfl (by omega) (by omega) (by omega) <| lx_assign (.int .i64 (tot - (gt cr k))) rfl rfl <| lx_nil <| wi_inBlock <| wi_reg rfl <| lx_move (.int .i64 ((k : Nat) : Int)) rfl rfl <| lx_add (((k + 1 : Nat) : Int)) rfl rfl rfl (by omega) (by omega) (by omega) <| lx_assign (.int .i64 ((k + 1 : Nat) : Int)) rfl rfl <| lx_nil <| ?_
              -- L8.2
              refine IH5 _ _ (k + 1, tot - (gt cr k)) (agree_ups rfl agree_self) ⟨rfl, rfl, trivial⟩ ⟨rfl, ?_, ?_⟩ ?_
              · try dsimp only
                omega
              · try dsimp only
                rw [htot, altS_succ, if_neg (by omega)]
              · first | omega | (dsimp only; omega)
          · refine lx_nil <| wi_false rfl <| wi_exit rfl <| wi_seq <| wi_reg rfl <| ?_
            have hlo := (lo_at hio hng hp0).2.1
            have hhi := (hi_at hio hng hp0).2.1
            have hmr : (gt rm (loN p.length (pb p))).length = p.length := by rw [hrm, gt_muT (by omega)]; exact mapR_len _ _
            have hmg : gt (gt rm (loN p.length (pb p))) (hiN p.length (pb p)) = muF p.length (pb p) (loN p.length (pb p)) (hiN p.length (pb p)) := by rw [hrm, gt_muT (by omega), gt_mapR (by omega)]
            have htm : tot = muF p.length (pb p) (loN p.length (pb p)) (hiN p.length (pb p)) := by rw [htot, show k = cr.length from by omega, hcr0]; exact rota_cut hio hng hp0
            refine lx_move (.int .i64 (opnC p)) rfl rfl <| lx_eqlT rfl rfl rfl hop9 <| lx_move (.bool true) rfl rfl <| lx_move (.int .i64 tot) rfl rfl <| lx_move (vm) rfl rfl <| lx_move (.int .i64 ((loN p.length (pb p) : Nat) : Int)) rfl rfl <| lx_ix (i := loN p.length (pb p)) rfl eT49 ho54.rd rfl rfl (by omega) <| lx_ld (i := loN p.length (pb p)) (j := 0) ((gt hm9 (loN p.length (pb p))).v) rfl rfl fl25 ho54.rd (by omega) rfl rfl <| lx_move (.int .i64 ((hiN p.length (pb p) : Nat) : Int)) rfl rfl <| lx_ix (i := hiN p.length (pb p)) rfl eT25 (hot24.2.1 (loN p.length (pb p)) (by omega)).rd rfl rfl (by omega) <| lx_ld (i := hiN p.length (pb p)) (j := 0) (.int .i64 (muF p.length (pb p) (loN p.length (pb p)) (hiN p.length (pb p)))) rfl rfl fl3 (hot24.2.1 (loN p.length (pb p)) (by omega)).rd (by omega) (by show some (Value.int .i64 (gt (gt rm (loN p.length (pb p))) (hiN p.length (pb p)))) = _; rw [hmg]) rfl <| lx_eqlT rfl rfl rfl htm <| lx_pick true (.bool true) rfl rfl rfl <| lx_move (.bool true) rfl rfl <| lx_call [] rfl rfl Try.call20 rfl (awake_spec h12 ) (fun _ _ _ => trivial) ?_
            rintro _ h13 ⟨rfl, hx10⟩
            have hx0_14 := hx0_13.trans2 hx10 hx0_13.size
            have ho56 := ho51.extS hx10
            have hot25 := hot23.extS hx10
            have ho57 := ho52.extS hx10
            have ho58 := ho53.extS hx10
            have ho59 := ho54.extS hx10
            have hot26 := hot24.extS hx10
            have ho60 := ho55.extS hx10
            refine lx_pick true (.bool true) rfl rfl rfl <| lx_assign (.bool true) rfl rfl <| lx_nil <| ?_
            -- R2
            refine wi_ret ⟨.bool true, (res_one rfl rfl), ⟨rfl, hx0_14⟩⟩
      · refine lx_skip rfl <| lx_skip rfl <| lx_skip rfl <| lx_pick true (.bool true) rfl rfl rfl <| lx_nil <| wi_true rfl <| wi_seq <| wi_reg rfl <| lx_move (.int .i64 (chkT p)) rfl rfl <| lx_eqlT rfl rfl rfl hck <| lx_move (.bool true) rfl rfl <| lx_call [] rfl rfl Try.call20 rfl (awake_spec h9 ) (fun _ _ _ => trivial) ?_
        rintro _ h14 ⟨rfl, hx11⟩
        have hx0_15 := hx0_10.trans2 hx11 hx0_10.size
        have ho61 := ho38.extS hx11
        have hot27 := hot17.extS hx11
        have ho62 := ho39.extS hx11
        have ho63 := ho40.extS hx11
        have ho64 := ho41.extS hx11
        have hot28 := hot18.extS hx11
        refine lx_pick true (.bool true) rfl rfl rfl <| lx_assign (.bool true) rfl rfl <| lx_nil <| ?_
        -- R3
        refine wi_ret ⟨.bool true, (res_one rfl rfl), ⟨rfl, hx0_15⟩⟩

end Go.Proofs.Ytdokijbdnajhgaa
namespace Go.Proofs.Ytdokijbdnajhgaa
open Go Go.X Go.ChangeShapes Go.WideShapes Go.ChangeAt Go.RowKit

theorem orderRota_own : ownKnob Try.prog.godebug = none := by kernel_rfl
theorem orderRota_laidOut : laidOutB Try.prog = true := by kernel_rfl

set_option maxRecDepth 100000 in
theorem orderRota_lifted (os : Os) (started : os.Started) (H : Type) (enc : TypeId × Value → H) :
    ReturnsInHanded {} Try.checked os 8 .any (Rows.orderRotaSpec.pre6 enc Try.prog Try.f8 Rows.orderRotaRow.domain false) (Rows.orderRotaSpec.post enc Try.prog Try.f8 false true false false) := by
  refine returnsInHanded_of_change (C := Try.checked) orderRota_own started (by kernel_rfl) Try.func8
    (ChangeSpec.witness6 (enc := enc) (C := Try.checked) false ⟨#[], #[.int .i64 0, .slice none 0 0, .slice none 0 0], []⟩ 8 (by kernel_rfl) (by kernel_rfl) (by kernel_rfl) (by kernel_rfl)) ?_
  intro W base args ds gs before hval0 hW hcnd _
  have hval : ∀ (j : Nat) t v, Try.f8.params[j]? = some t → args[j]? = some v → Value.okWide Try.prog W .any base t v := hval0
  have hW' := hW
  obtain ⟨p, q, hA0, hV, rfl, hfz, hnd⟩ := hW
  have hA : DataW.TrodAll enc Try.prog W 0 (fun _ => true) true Try.f8.params.toList args.toList ds p := hA0
  rw [Try.params8] at hA hval
  obtain ⟨v0, vs0, d0, ds0, p0, q0, hargs, rfl, rfl, h0, r0⟩ := trodAll_cons hA
  obtain ⟨v1, vs1, d1, ds1, p1, q1, rfl, rfl, rfl, h1, r1⟩ := trodAll_cons r0
  obtain ⟨v2, vs2, d2, ds2, p2, q2, rfl, rfl, rfl, h2, r2⟩ := trodAll_cons r1
  obtain ⟨rfl, rfl, rfl⟩ := trodAll_nil r2
  obtain rfl : args = #[v0, v1, v2] := by cases args; simp_all
  obtain ⟨rfl, rfl⟩ := trodVars_none hV
  obtain ⟨n, rfl, rfl, rfl, w0⟩ := open_int Try.underlying3 (hval 0 3 v0 rfl rfl) h0
  have hb_n := bounds_i64 w0
  have k1 := h1
  have lt1 : ∀ x ∈ p1, x.block < W.heap.size := by obtain ⟨m, hm⟩ := k1; exact DataW.trod_lt m _ _ _ hm
  obtain ⟨l, hr_l, hl_l, hb_l⟩ := lift_pairs Try.underlying22 Try.underlying85 Try.underlying3 (by kernel_rfl) (by kernel_rfl) (hval 1 22 v1 rfl rfl) h1
  have k2 := h2
  have lt2 : ∀ x ∈ p2, x.block < W.heap.size := by obtain ⟨m, hm⟩ := k2; exact DataW.trod_lt m _ _ _ hm
  obtain ⟨f, hr_f, hl_f, hb_f⟩ := lift_ints Try.underlying58 Try.underlying2 (by kernel_rfl) (hval 2 58 v2 rfl rfl) h2
  clear hA0 hval0
  refine (lift_walk (args := [.int .i64 n, v1, v2]) (orderRota_spec W.heap n v1 l v2 f hr_l hr_f hl_l hl_f)).mono fun e W' ⟨he, bel⟩ => ?_
  subst he
  exact ⟨_, rfl, _, _, _, [], _, [], hW', trodAll_mk1 (shut_bool Try.underlying4 _), (trodAll_cons_mk (shut_int Try.underlying3 w0) (trodAll_cons_mk (Below.trod orderRota_laidOut (by kernel_rfl) (of_decide_eq_true (by kernel_rfl)) k1 bel lt1) (trodAll_cons_mk (Below.trod orderRota_laidOut (by kernel_rfl) (of_decide_eq_true (by kernel_rfl)) k2 bel lt2) trodAll_mk0))), rfl, bel.frame _, fun h => by cases h⟩

theorem orderRota_holds : Rows.OrderRotaSaid :=
  OpenClaim.holds_of_wide 8 Try.f8 rfl rfl rfl rfl rfl rfl rfl ⟨rfl, rfl, rfl, rfl, rfl⟩ rfl rfl rfl rfl rfl (by kernel_rfl) Try.func8 (by kernel_rfl)
    (of_decide_eq_true (by kernel_rfl)) (by unfold Func.isWrapper; first | (rw [if_pos (by decide +kernel)]; kernel_rfl) | (rw [if_neg (by decide +kernel)]; exact ⟨rfl, rfl⟩))
    (fun os started H enc _ => orderRota_lifted os started H enc)
#print axioms orderRota_holds
end Go.Proofs.Ytdokijbdnajhgaa
