/-
  Of any integer, any pairs and any map: the law OrderCompletions returns true (the completion of the order, and the fixed elements of the map, are as the reference says, or the errors), and nothing that was there turns.
  Conditions: none beyond the given statement's.
-/
import Derived.Test.YtdokijbdnajhgaaMCompl10
import Derived.Test.YtdokijbdnajhgaaRows
set_option linter.unusedSimpArgs false
set_option linter.unusedVariables false
namespace Go.Proofs.Ytdokijbdnajhgaa
open Go Go.X

set_option maxRecDepth 10000 in
theorem completion_spec (h : Heap) (vp : Value) (hs : List Hdr) (p : List (List Bool)) (hr_vp : RdE encHd h vp hs) (ht_vp : RT encB h hs p) (hp1 : p.length ≤ 1000000) (hp2 : ∀ i, i < p.length → (gt p i).length ≤ 1000000) : Fx Try.prog 23 [vp] h (fun v h' => ∃ (s : Value) (q : Value) (c : Value) (xs : List Int) (hq : List Hdr) (r : List (List Bool)) (cs : List Int), v = .tuple #[s, q, c, .int .i64 (chkT p)] ∧ OwE encI h' h.size 3 s xs ∧ OwE encHd h' h.size 70 q hq ∧ OT encB h' h.size 4 hq r ∧ OwE encI h' h.size 3 c cs ∧ ((chkT p ≠ 0 ∧ xs = [] ∧ r = [] ∧ cs = []) ∨ (chkT p = 0 ∧ xs = cutsF p.length (pb p) ∧ r = tabF xs.length (incF xs) ∧ cs = placesF p.length (pb p) p.length)) ∧ Ext h.size h h') := by
  have hl_vp := ht_vp.1
  refine fx_intro (n := 75) [(0, vp)] Try.func23 rfl rfl (by simp) ⟨rfl, trivial⟩ fun g0 => ?_
  refine wi_seq <| wi_reg rfl <| lx_assign (.slice none 0 0) rfl rfl <| lx_assign (.slice none 0 0) rfl rfl <| lx_assign (.slice none 0 0) rfl rfl <| lx_assign (.int .i64 0) rfl rfl <| lx_nil <| wi_seq <| wi_seq <| wi_reg rfl <| lx_move (vp) rfl rfl <| lx_call [vp] rfl rfl Try.call62 rfl (ocheck_spec h vp hs p hr_vp ht_vp (by omega) (by first | with_reducible assumption | omega)) (fun _ _ _ => trivial) ?_
  rintro _ h1 ⟨rfl, hx1⟩
  refine lx_assign (.int .i64 (chkT p)) rfl rfl <| lx_nil <| wi_seq <| wi_reg rfl <| lx_move (.int .i64 (chkT p)) rfl rfl <| lx_neqS rfl rfl rfl (fun c1 => ?_) (fun c1 => ?_)
  · refine lx_nil <| wi_true rfl <| wi_seq <| wi_reg rfl <| lx_move (.int .i64 (chkT p)) rfl rfl <| lx_assign (.slice none 0 0) rfl rfl <| lx_assign (.slice none 0 0) rfl rfl <| lx_assign (.slice none 0 0) rfl rfl <| lx_assign (.int .i64 (chkT p)) rfl rfl <| lx_nil <| ?_
    -- R1
    refine wi_ret ⟨.tuple #[.slice none 0 0, .slice none 0 0, .slice none 0 0, .int .i64 (chkT p)], (res_four rfl rfl rfl rfl rfl), ⟨.slice none 0 0, .slice none 0 0, .slice none 0 0, [], [], [], [], rfl, (owE_nil encI _ h.size 3), (owE_nil encHd _ h.size 70), (OT.nil encB _ h.size 4), (owE_nil encI _ h.size 3), ?_, hx1⟩⟩
    · exact .inl ⟨by omega, rfl, rfl, rfl⟩
  · refine lx_nil <| wi_false rfl <| wi_skip <| wi_seq <| wi_reg rfl <| ?_
    have hok := chkT_ok (p := p) (by omega)
    have hp12 : p.length ≤ 12 := hok.2.1
    have hpq : Sq p p.length := isT_sq hok.2.2
    have hsq := hpq.2
    refine lx_makeMap rfl rfl (fun _ _ _ => trivial) fun l1 h2 hl1 hmp1 hx2 => ?_
    have hbb1 : h.size ≤ l1 := by have := hx1.size; omega
    have hx0_1 := hx1.trans2 hx2 hx1.size
    refine lx_assign (.map (some l1)) rfl rfl <| lx_nil <| wi_seq <| wi_seq <| wi_reg rfl <| ?_
    have hpw := pow12 hp12
    have hpe : 2 ^ hs.length = 2 ^ p.length := by rw [hl_vp]
    refine lx_move (vp) rfl rfl <| lx_len rfl Try.underlying29 hr_vp rfl <| lx_conv ((hs.length : Nat) : Int) rfl Try.underlying3 Try.underlying45 rfl (wrap_u64 (by omega) (by omega)) <| lx_shl (m := 1) (n := hs.length) rfl rfl rfl (by show _ ≤ 64; omega) (wrap_i64 (by omega) (by omega)) <| lx_move (.int .i64 0) rfl rfl <| lx_nil <| wi_block <| ?_
    refine wi_loop (σ := Nat × (List Int)) (rngB 26 41 [8, 9]) (fun (ss : Nat × (List Int)) => [(26, .int .i64 ((ss.1 : Nat) : Int))]) (fun (ss : Nat × (List Int)) (hh : Heap) => MpO hh l1 (kv ss.2) ∧ Ext h.size h hh ∧ (ss.1 ≤ 2 ^ p.length) ∧ ss.2.Nodup ∧ (∀ x : Int, x ∈ ss.2 ↔ ∃ s, s < ss.1 ∧ x = ((cutF p.length (pb p) s : Nat) : Int))) (fun (ss : Nat × (List Int)) => 2 ^ p.length - ss.1) (0, []) ⟨rfl, trivial⟩ ⟨?_, hx0_1, ?_, ?_, ?_⟩ ?_
    · exact hmp1
    · try dsimp only
      exact Nat.zero_le _
    · try dsimp only
      exact List.nodup_nil
    · try dsimp only
      intro x; simp
    rintro g1 ⟨t, ks⟩ hh1 ⟨hmp2, hx0_2, ht, hnd, hks⟩ IH1
    dsimp only at *
    refine wi_seq <| wi_reg rfl <| lx_lssS rfl rfl rfl (fun c2 => ?_) (fun c2 => ?_)
    · refine lx_nil <| wi_seq <| wi_true rfl <| wi_skip <| wi_seq <| wi_block <| wi_seq <| wi_reg rfl <| lx_move (.int .i64 ((t : Nat) : Int)) rfl rfl <| lx_assign (.int .i64 ((t : Nat) : Int)) rfl rfl <| lx_nil <| wi_seq <| wi_reg rfl <| lx_move (vp) rfl rfl <| lx_move (.int .i64 ((t : Nat) : Int)) rfl rfl <| lx_move (vp) rfl rfl <| lx_makeFunc [vp] [] rfl rfl rfl <| lx_call [vp, .int .i64 ((t : Nat) : Int), .func (.func 80) #[vp] #[]] rfl rfl Try.call79 rfl (common_up_spec hh1 vp hs p t (hr_vp.extS hx0_2) (ht_vp.extS hx0_2) (by omega) (by first | with_reducible assumption | omega) (by omega)) (fun _ _ _ => trivial) ?_
      rintro _ h3 ⟨rfl, rfl⟩
      refine lx_assign (.int .i64 ((uppS p.length (pb p) t : Nat) : Int)) rfl rfl <| lx_nil <| wi_reg rfl <| ?_
      have hupl := uppS_lt p.length (pb p) t
      refine lx_move (.map (some l1)) rfl rfl <| lx_move (vp) rfl rfl <| lx_move (.int .i64 ((uppS p.length (pb p) t : Nat) : Int)) rfl rfl <| lx_move (vp) rfl rfl <| lx_makeFunc [vp] [] rfl rfl rfl <| lx_call [vp, .int .i64 ((uppS p.length (pb p) t : Nat) : Int), .func (.func 81) #[vp] #[]] rfl rfl Try.call79 rfl (common_dn_spec hh1 vp hs p (uppS p.length (pb p) t) (hr_vp.extS hx0_2) (ht_vp.extS hx0_2) (by omega) (by first | with_reducible assumption | omega) (by omega)) (fun _ _ _ => trivial) ?_
      rintro _ h4 ⟨rfl, rfl⟩
      refine lx_mapUpdate (((lowS p.length (pb p) (uppS p.length (pb p) t) : Nat) : Int)) (.bool true) rfl rfl Try.underlying109 Try.underlying3 hmp2 rfl rfl rfl (fun _ _ => trivial) fun h5 hmp3 hc1 => ?_
      have hx0_3 := hx0_2.trans (hc1.ext hbb1)
      rw [putM_kv] at hmp3
      refine lx_nil <| wi_inBlock <| wi_reg rfl <| lx_add (((t + 1 : Nat) : Int)) rfl rfl rfl (by omega) (by omega) (by omega) <| lx_move (.int .i64 ((t + 1 : Nat) : Int)) rfl rfl <| lx_nil <| ?_
      -- L0.1
      refine IH1 _ _ (t + 1, insK ks (((lowS p.length (pb p) (uppS p.length (pb p) t) : Nat) : Int))) (agree_ups rfl agree_self) ⟨rfl, trivial⟩ ⟨?_, hx0_3, ?_, ?_, ?_⟩ ?_
      · exact hmp3
      · try dsimp only
        omega
      · try dsimp only
        exact insK_nodup hnd
      · try dsimp only
        intro x
        rw [insK_mem, hks]
        constructor
        · rintro (⟨s, h1, h2⟩ | h1)
          · exact ⟨s, by omega, h2⟩
          · exact ⟨t, by omega, h1⟩
        · rintro ⟨s, h1, h2⟩
          rcases Nat.lt_or_ge s t with h3 | h3
          · exact .inl ⟨s, h3, h2⟩
          · obtain rfl : s = t := by omega
            exact .inr h2
      · first | omega | (dsimp only; omega)
    · refine lx_nil <| wi_seq <| wi_false rfl <| wi_exit rfl <| wi_seq <| wi_reg rfl <| lx_assign (.slice none 0 0) rfl rfl <| lx_nil <| wi_seq <| wi_seq <| wi_reg rfl <| lx_move (.map (some l1)) rfl rfl <| lx_mapRange rfl rfl Try.underlying109 hmp2 rfl (fun _ _ _ => trivial) fun l2 h6 hl2 hit1 hx3 => ?_
      have hbb2 : h.size ≤ l2 := by have := hx0_2.size; omega
      have hne1 : l1 ≠ l2 := by have := hmp2.lt; omega
      have hmp4 := hmp2.extS hx3
      have hx0_4 := hx0_2.trans2 hx3 hx0_2.size
      refine lx_nil <| wi_block <| ?_
      refine wi_loop (σ := Value × (List Int) × (List Nat)) (rngB 43 51 [10, 11]) (fun (ss : Value × (List Int) × (List Nat)) => [(10, ss.1)]) (fun (ss : Value × (List Int) × (List Nat)) (hh : Heap) => OwE encI hh h.size 3 ss.1 ss.2.1 ∧ MpO hh l1 (kv ks) ∧ ItO hh l2 l1 ((kv ks).length) ss.2.2 ∧ Ext h.size h hh ∧ (ss.2.1 = ss.2.2.map fun i => gt ks i) ∧ ss.2.2.Nodup ∧ (∀ i, i ∈ ss.2.2 → i < ks.length)) (fun (ss : Value × (List Int) × (List Nat)) => ks.length - ss.2.2.length) (.slice none 0 0, [], []) ⟨rfl, trivial⟩ ⟨?_, ?_, ?_, hx0_4, ?_, ?_, ?_⟩ ?_
      · first | exact (owE_nil encI _ h.size 3) | (simpa using (owE_nil encI _ h.size 3))
      · exact hmp4
      · exact hit1
      · try dsimp only
        first | done | rfl
      · try dsimp only
        exact List.nodup_nil
      · try dsimp only
        intro i hi; cases hi
      rintro g2 ⟨v, out, sn⟩ hh2 ⟨ho1, hmp5, hmp6, hx0_5, hout, hsn, hsl⟩ IH2
      dsimp only at *
      have hkl := keys_le hp12 hnd hks
      have hsl9 := seen_le hsn hsl
      have hol9 : out.length = sn.length := by rw [hout]; simp
      refine wi_seq <| wi_reg rfl <| lx_mapNext rfl rfl hmp5 hmp6 rfl (fun _ => trivial) (fun hall1 => ?_) (fun mi1 h7 mk1 mv1 hil1 hns1 hmg1 hit2 hc2 => ?_)
      · refine lx_extract (.bool false) rfl rfl rfl <| lx_nil <| wi_seq <| wi_false rfl <| wi_exit rfl <| wi_seq <| wi_reg rfl <| ?_
        have hso := out_sorted (n := p.length) (f := pb p) (ks := ks) (sn := sn) (fun x => by rw [hks, show t = 2 ^ p.length from by omega]) hnd hsn hsl (fun i hi => hall1 i (by rw [kv_len]; exact hi))
        rw [← hout] at hso
        have hnb := cutsF_nb (f := pb p) hp12
        have hole : out.length ≤ 4096 := by have h9 := congrArg List.length hso; rw [sort_len] at h9; omega
        have hone : out ≠ [] := fun e => cutsF_ne p.length (pb p) (by rw [← hso, e]; simp)
        refine lx_move (v) rfl rfl <| lx_call [v] rfl rfl Try.call82 rfl (lsort_spec hh2 h.size v out ho1 hx0_5.size hone (by omega)) (fun _ _ _ => trivial) ?_
        rintro _ h8 ⟨rfl, ho3, hx4⟩
        have hmp8 := hmp5.nc (Nc.of_chg hx4 ho1)
        have hmp9 := hmp6.nc (Nc.of_chg hx4 ho1)
        have hx0_7 := hx0_5.trans (ho1.ext hx4 hx0_5.size)
        refine lx_nil <| wi_seq <| wi_reg rfl <| ?_
        skip
        rw [hso] at ho3
        refine lx_assign (.slice none 0 0) rfl rfl <| lx_nil <| wi_seq <| wi_seq <| wi_reg rfl <| lx_move (vp) rfl rfl <| lx_len rfl Try.underlying29 hr_vp rfl <| lx_move (.int .i64 0) rfl rfl <| lx_nil <| wi_block <| ?_
        refine wi_loop (σ := Nat × Value × (List Int)) (rngB 55 71 [12, 13, 14, 15]) (fun (ss : Nat × Value × (List Int)) => [(55, .int .i64 ((ss.1 : Nat) : Int)), (12, ss.2.1)]) (fun (ss : Nat × Value × (List Int)) (hh : Heap) => OwE encI hh h.size 3 ss.2.1 ss.2.2 ∧ OwE encI hh h.size 3 v (cutsF p.length (pb p)) ∧ Ext h.size h hh ∧ Dj ss.2.1 v ∧ (ss.1 ≤ p.length) ∧ (ss.2.2 = placesF p.length (pb p) ss.1)) (fun (ss : Nat × Value × (List Int)) => p.length - ss.1) (0, .slice none 0 0, []) ⟨rfl, rfl, trivial⟩ ⟨?_, ?_, hx0_7, (dj_nil_l _), ?_, ?_⟩ ?_
        · first | exact (owE_nil encI _ h.size 3) | (simpa using (owE_nil encI _ h.size 3))
        · first | exact ho3 | (simpa using ho3)
        · try dsimp only
          omega
        · try dsimp only
          first | done | rfl
        rintro g3 ⟨x, w, cs⟩ hh3 ⟨ho4, ho5, hx0_8, hdj1, hx, hcs⟩ IH3
        dsimp only at *
        have hcl : cs.length = x := by rw [hcs]; exact placesF_len _ _ _
        refine wi_seq <| wi_reg rfl <| lx_lssS rfl rfl rfl (fun c3 => ?_) (fun c3 => ?_)
        · refine lx_nil <| wi_seq <| wi_true rfl <| wi_skip <| wi_seq <| wi_block <| wi_seq <| wi_reg rfl <| lx_move (.int .i64 ((x : Nat) : Int)) rfl rfl <| lx_assign (.int .i64 ((x : Nat) : Int)) rfl rfl <| lx_nil <| wi_seq <| wi_reg rfl <| lx_move (v) rfl rfl <| lx_move (vp) rfl rfl <| lx_move (.int .i64 ((x : Nat) : Int)) rfl rfl <| lx_call [vp, .int .i64 ((x : Nat) : Int)] rfl rfl Try.call81 rfl (down_spec hh3 vp hs p x (hr_vp.extS hx0_8) (ht_vp.extS hx0_8) (by omega) (by first | with_reducible assumption | omega) (by omega)) (fun _ _ _ => trivial) ?_
          rintro _ h9 ⟨rfl, rfl⟩
          refine lx_call [v, .int .i64 ((dnF p.length (pb p) x : Nat) : Int)] rfl rfl Try.call83 rfl (lfind_spec hh3 h.size v (cutsF p.length (pb p)) (((dnF p.length (pb p) x : Nat) : Int)) ho5 hx0_8.size (cutsF_ne _ _) (by omega) (cutsF_asc _ _)) (fun _ _ _ => trivial) ?_
          rintro _ h10 ⟨rfl, rfl⟩
          refine lx_move (.tuple #[.int .i64 (((cutsF p.length (pb p)).countP (fun y => decide (y < (((dnF p.length (pb p) x : Nat) : Int)))) : Nat) : Int), .bool ((cutsF p.length (pb p)).contains (((dnF p.length (pb p) x : Nat) : Int)))]) rfl rfl <| lx_extract (.int .i64 (((cutsF p.length (pb p)).countP (fun y => decide (y < (((dnF p.length (pb p) x : Nat) : Int)))) : Nat) : Int)) rfl rfl rfl <| lx_extract (.bool ((cutsF p.length (pb p)).contains (((dnF p.length (pb p) x : Nat) : Int)))) rfl rfl rfl <| lx_assign (.int .i64 (((cutsF p.length (pb p)).countP (fun y => decide (y < (((dnF p.length (pb p) x : Nat) : Int)))) : Nat) : Int)) rfl rfl <| lx_assign (.bool ((cutsF p.length (pb p)).contains (((dnF p.length (pb p) x : Nat) : Int)))) rfl rfl <| lx_nil <| wi_reg rfl <| lx_move (w) rfl rfl <| lx_move (.int .i64 (((cutsF p.length (pb p)).countP (fun y => decide (y < (((dnF p.length (pb p) x : Nat) : Int)))) : Nat) : Int)) rfl rfl <| lx_appendL (E := encI) (B := h.size) [(((cutsF p.length (pb p)).countP (fun y => decide (y < (((dnF p.length (pb p) x : Nat) : Int)))) : Nat) : Int)] [.int .i64 (((cutsF p.length (pb p)).countP (fun y => decide (y < (((dnF p.length (pb p) x : Nat) : Int)))) : Nat) : Int)] rfl rfl (fun _ => rfl) rfl eT25 rfl rfl rfl rfl ho4 (fun _ => rfl) (by show cs.length + 1 ≤ _; omega) (by show (cs.length + 1) * 8 ≤ _; omega) hx0_8.size (fun _ _ => trivial) fun u1 v1 h11 ho6 hc3 hg1 => ?_
          have hx0_9 := hx0_8.trans (ho4.ext hc3 hx0_8.size)
          have ho7 := ho5.chg hc3 (Dj.symm hdj1)
          refine lx_assign (v1) rfl rfl <| lx_nil <| wi_inBlock <| wi_reg rfl <| lx_add (((x + 1 : Nat) : Int)) rfl rfl rfl (by omega) (by omega) (by omega) <| lx_move (.int .i64 ((x + 1 : Nat) : Int)) rfl rfl <| lx_nil <| ?_
          -- L4.1
          refine IH3 _ _ (x + 1, v1, cs ++ [(((cutsF p.length (pb p)).countP (fun y => decide (y < (((dnF p.length (pb p) x : Nat) : Int)))) : Nat) : Int)]) (agree_ups rfl agree_self) ⟨rfl, rfl, trivial⟩ ⟨?_, ?_, hx0_9, (Dj.symm (dj_app (Dj.symm hdj1) ho5 hg1)), ?_, ?_⟩ ?_
          · first | exact ho6 | (simpa using ho6)
          · first | exact ho7 | (simpa using ho7)
          · try dsimp only
            omega
          · try dsimp only
            rw [placesF_succ, hcs]
          · first | omega | (dsimp only; omega)
        · refine lx_nil <| wi_seq <| wi_false rfl <| wi_exit rfl <| wi_seq <| wi_reg rfl <| lx_move (v) rfl rfl <| lx_move (v) rfl rfl <| lx_call [v] rfl rfl Try.call77 rfl (inclusion_spec hh3 v (cutsF p.length (pb p)) ho5.rd (by omega) hnb.2) (fun _ _ _ => trivial) ?_
          rintro v2 h12 ⟨_, hs_1, rfl, ho8, hot1, hx5⟩
          have hx0_10 := hx0_8.trans2 hx5 hx0_8.size
          have ho9 := ho5.extS hx5
          have ho10 := ho4.extS hx5
          have ho11 := ho8.base hx0_8.size
          have hot2 := hot1.base hx0_8.size
          have hl_hot2 := hot2.1
          refine lx_move (w) rfl rfl <| lx_assign (v) rfl rfl <| lx_assign (v2) rfl rfl <| lx_assign (w) rfl rfl <| lx_assign (.int .i64 0) rfl rfl <| lx_nil <| ?_
          -- R2
          refine wi_ret ⟨.tuple #[v, v2, w, .int .i64 0], (res_four rfl rfl rfl rfl rfl), ⟨v, v2, w, cutsF p.length (pb p), hs_1, tabF (cutsF p.length (pb p)).length (incF (cutsF p.length (pb p))), cs, ?_, ho9, ho11, hot2, ho10, ?_, hx0_10⟩⟩
          · rw [show chkT p = 0 from by omega]
          · exact .inr ⟨by omega, rfl, rfl, by rw [hcs, show x = p.length from by omega]⟩
      · have hx0_6 := hx0_5.trans (hc2.ext hbb2)
        have ho2 := hc2.owE ho1 (nb_it ho1 hmp6)
        have hmp7 := hmp5.other hc2 hne1
        refine lx_extract (.bool true) rfl rfl rfl <| lx_nil <| wi_seq <| wi_true rfl <| wi_skip <| wi_block <| wi_seq <| wi_reg rfl <| lx_mapEntry rfl rfl hmp7 hit2 hmg1 rfl (fun _ => trivial) <| lx_extract (.int .i64 mk1) rfl rfl rfl <| lx_assign (.int .i64 mk1) rfl rfl <| lx_nil <| wi_reg rfl <| lx_move (v) rfl rfl <| lx_move (.int .i64 mk1) rfl rfl <| lx_appendL (E := encI) (B := h.size) [mk1] [.int .i64 mk1] rfl rfl (fun _ => rfl) rfl eT25 rfl rfl rfl rfl ho2 (fun _ => rfl) (by show out.length + 1 ≤ _; omega) (by show (out.length + 1) * 8 ≤ _; omega) hx0_6.size (fun _ _ => trivial) fun u2 v3 h13 ho12 hc4 hg2 => ?_
        have hmp10 := hmp7.nc (Nc.of_chg hc4 ho2)
        have hmp11 := hit2.nc (Nc.of_chg hc4 ho2)
        have hx0_11 := hx0_6.trans (ho2.ext hc4 hx0_6.size)
        refine lx_assign (v3) rfl rfl <| lx_nil <| wi_inBlock <| ?_
        obtain ⟨hq1, hq2, hq3⟩ := seen_snoc hsn hsl (by rw [kv_len] at hil1; exact hil1) hns1
        -- L2.1
        refine IH2 _ _ (v3, out ++ [mk1], sn ++ [mi1]) (agree_ups rfl agree_self) ⟨rfl, trivial⟩ ⟨?_, ?_, ?_, hx0_11, ?_, ?_, ?_⟩ ?_
        · first | exact ho12 | (simpa using ho12)
        · exact hmp10
        · exact hmp11
        · try dsimp only
          rw [hout, List.map_append]; simp only [List.map_cons, List.map_nil]; rw [kv_get hmg1]
        · try dsimp only
          exact hq1
        · try dsimp only
          exact hq2
        · rw [List.length_append]; show _ - (_ + 1) < _; omega

end Go.Proofs.Ytdokijbdnajhgaa
namespace Go.Proofs.Ytdokijbdnajhgaa
open Go Go.X

theorem iota_map {n : Nat} {f : Nat → Nat → Bool} {xs : List Int} (hl : xs.length = n) (h : ∀ j, j < n → gt xs j = (j : Int)) : mapE n f xs = 0 :=
  mapE_ok hl (fun i hi => by rw [h i (by omega)]; omega) fun x y hx hy hf => by rw [h x (by omega), h y (by omega)]; exact hf
theorem gt_takeI {xs : List Int} {n j : Nat} (h1 : j < n) (h2 : n ≤ xs.length) : gt (xs.take n) j = gt xs j := by
  rw [gt_eq (by rw [List.length_take]; omega), gt_eq (by omega), List.getElem_take]
theorem take_rng {xs : List Int} {n : Nat} (hn : n ≤ xs.length) (h : ∀ j, j < xs.length → 0 ≤ gt xs j ∧ gt xs j < n) : (xs.take n).length = n ∧ ∀ j, j < n → 0 ≤ gt (xs.take n) j ∧ gt (xs.take n) j < n := by
  refine ⟨by rw [List.length_take]; omega, fun j hj => ?_⟩
  rw [gt_takeI hj hn]; exact h j (by omega)

set_option maxRecDepth 10000 in
theorem keeping_spec (h : Heap) (vp : Value) (hs : List Hdr) (p : List (List Bool)) (vl : Value) (xs : List Int) (hr_vp : RdE encHd h vp hs) (ht_vp : RT encB h hs p) (hr_vl : RdE encI h vl xs) (hp1 : p.length ≤ 12) (hp2 : Sq p p.length) (hp3 : 1 ≤ p.length) (hp4 : xs.length = p.length) (hp5 : ∀ j, j < xs.length → 0 ≤ gt xs j ∧ gt xs j < p.length) : Fx Try.prog 28 [vp, vl] h (fun v h' => ∃ (s : Value) (ys : List Int), v = s ∧ OwE encI h' h.size 3 s ys ∧ (mapE p.length (pb p) ys = 0) ∧ Ext h.size h h') := by
  have hl_vp := ht_vp.1
  refine fx_intro (n := 62) [(0, vp), (1, vl)] Try.func28 rfl rfl (by simp) ⟨rfl, rfl, trivial⟩ fun g0 => ?_
  refine wi_seq <| wi_reg rfl <| lx_assign (.slice none 0 0) rfl rfl <| lx_nil <| wi_seq <| wi_reg rfl <| lx_assign (.slice none 0 0) rfl rfl <| lx_nil <| wi_seq <| wi_seq <| wi_reg rfl <| lx_assign (.int .i64 0) rfl rfl <| lx_nil <| wi_block <| ?_
  refine wi_loop (σ := Nat × Value × (List Int)) (rngB 11 47 [5, 6, 7, 8, 9]) (fun (ss : Nat × Value × (List Int)) => [(6, .int .i64 ((ss.1 : Nat) : Int)), (5, ss.2.1)]) (fun (ss : Nat × Value × (List Int)) (hh : Heap) => OwE encI hh h.size 3 ss.2.1 ss.2.2 ∧ Ext h.size h hh ∧ (ss.1 ≤ p.length) ∧ (ss.2.2.length = ss.1) ∧ (∀ j, j < ss.2.2.length → 0 ≤ gt ss.2.2 j ∧ gt ss.2.2 j < p.length)) (fun (ss : Nat × Value × (List Int)) => p.length - ss.1) (0, .slice none 0 0, []) ⟨rfl, rfl, trivial⟩ ⟨?_, (Ext.refl _ _), ?_, ?_, ?_⟩ ?_
  · first | exact (owE_nil encI _ h.size 3) | (simpa using (owE_nil encI _ h.size 3))
  · try dsimp only
    omega
  · try dsimp only
    first | done | rfl
  · try dsimp only
    intro j hj; cases hj
  rintro g1 ⟨x, v, ys⟩ hh1 ⟨ho1, hx0_1, hx, hyl, hyr⟩ IH1
  dsimp only at *
  refine wi_seq <| wi_seq <| wi_reg rfl <| ?_
  have hrg := hp5
  refine lx_move (.int .i64 ((x : Nat) : Int)) rfl rfl <| lx_move (vp) rfl rfl <| lx_len rfl Try.underlying23 hr_vp rfl <| lx_lssS rfl rfl rfl (fun c1 => ?_) (fun c1 => ?_)
  · refine lx_nil <| wi_true rfl <| wi_skip <| wi_seq <| wi_block <| wi_seq <| wi_reg rfl <| ?_
    obtain ⟨a0, hga0, ha04⟩ : ∃ a0 : Nat, gt xs 0 = (a0 : Int) ∧ a0 < p.length := ⟨(gt xs 0).toNat, by have := hrg (0) (by omega); omega, by have := hrg (0) (by omega); omega⟩
    refine lx_move (vl) rfl rfl <| lx_ix (i := 0) rfl eT25 hr_vl rfl rfl (by first | omega | (simp only [List.length_set, List.length_append, List.length_cons, List.length_nil, List.length_replicate, List.length_take, swp_length, exch_length]; omega)) <| lx_ld (i := 0) (j := 0) (.int .i64 ((a0 : Nat) : Int)) rfl rfl fl3 (hr_vl.extS hx0_1) (by first | omega | (simp only [List.length_set, List.length_append, List.length_cons, List.length_nil, List.length_replicate, List.length_take, swp_length, exch_length]; omega)) (by show some (Value.int .i64 (gt xs 0)) = _; rw [hga0]) rfl <| lx_assign (.int .i64 ((a0 : Nat) : Int)) rfl rfl <| lx_nil <| wi_seq <| wi_seq <| wi_reg rfl <| lx_assign (.int .i64 0) rfl rfl <| lx_nil <| wi_block <| ?_
    refine wi_loop (σ := Nat × Nat) (rngB 20 43 [7, 8, 9]) (fun (ss : Nat × Nat) => [(8, .int .i64 ((ss.1 : Nat) : Int)), (7, .int .i64 ((ss.2 : Nat) : Int))]) (fun (ss : Nat × Nat) (hh : Heap) => hh1 = hh ∧ (ss.1 ≤ p.length) ∧ (ss.2 < p.length)) (fun (ss : Nat × Nat) => p.length - ss.1) (0, a0) ⟨rfl, rfl, trivial⟩ ⟨rfl, ?_, ?_⟩ ?_
    · try dsimp only
      omega
    · try dsimp only
      omega
    rintro g2 ⟨y, a⟩ hh2 ⟨rfl, hy, ha⟩ IH2
    dsimp only at *
    refine wi_seq <| wi_seq <| wi_reg rfl <| lx_move (.int .i64 ((y : Nat) : Int)) rfl rfl <| lx_move (vp) rfl rfl <| lx_len rfl Try.underlying23 hr_vp rfl <| lx_lssS rfl rfl rfl (fun c2 => ?_) (fun c2 => ?_)
    · refine lx_nil <| wi_true rfl <| wi_skip <| wi_seq <| wi_block <| wi_seq <| wi_reg rfl <| lx_move (vp) rfl rfl <| lx_move (.int .i64 ((y : Nat) : Int)) rfl rfl <| lx_ix (i := y) rfl eT23 hr_vp rfl rfl (by first | omega | (simp only [List.length_set, List.length_append, List.length_cons, List.length_nil, List.length_replicate, List.length_take, swp_length, exch_length]; omega)) <| lx_ld (i := y) (j := 0) ((gt hs y).v) rfl rfl fl70 (hr_vp.extS hx0_1) (by first | omega | (simp only [List.length_set, List.length_append, List.length_cons, List.length_nil, List.length_replicate, List.length_take, swp_length, exch_length]; omega)) rfl rfl <| lx_move (.int .i64 ((x : Nat) : Int)) rfl rfl <| lx_ix (i := x) rfl eT70 (ht_vp.2 y (by first | omega | (simp only [List.length_set, List.length_append, List.length_cons, List.length_nil, List.length_replicate, List.length_take, swp_length, exch_length]; omega))) rfl rfl (by rw [hp2.2 y (by first | omega | (simp only [List.length_set, List.length_append, List.length_cons, List.length_nil, List.length_replicate, List.length_take, swp_length, exch_length]; omega))]; omega) <| lx_ld (i := x) (j := 0) (.bool (gt (gt p y) x)) rfl rfl fl4 ((ht_vp.extS hx0_1).2 y (by first | omega | (simp only [List.length_set, List.length_append, List.length_cons, List.length_nil, List.length_replicate, List.length_take, swp_length, exch_length]; omega))) (by rw [hp2.2 y (by first | omega | (simp only [List.length_set, List.length_append, List.length_cons, List.length_nil, List.length_replicate, List.length_take, swp_length, exch_length]; omega))]; omega) rfl rfl <| lx_nil <| wi_condS (t := gt (gt p y) x) rfl (fun c3 => ?_) (fun c3 => ?_)
      · refine wi_seq <| wi_reg rfl <| ?_
        obtain ⟨b, hgb, hb4⟩ : ∃ b : Nat, gt xs y = (b : Int) ∧ b < p.length := ⟨(gt xs y).toNat, by have := hrg (y) (by omega); omega, by have := hrg (y) (by omega); omega⟩
        refine lx_move (vp) rfl rfl <| lx_move (.int .i64 ((a : Nat) : Int)) rfl rfl <| lx_move (vl) rfl rfl <| lx_move (.int .i64 ((y : Nat) : Int)) rfl rfl <| lx_ix (i := y) rfl eT25 hr_vl rfl rfl (by first | omega | (simp only [List.length_set, List.length_append, List.length_cons, List.length_nil, List.length_replicate, List.length_take, swp_length, exch_length]; omega)) <| lx_ld (i := y) (j := 0) (.int .i64 ((b : Nat) : Int)) rfl rfl fl3 (hr_vl.extS hx0_1) (by first | omega | (simp only [List.length_set, List.length_append, List.length_cons, List.length_nil, List.length_replicate, List.length_take, swp_length, exch_length]; omega)) (by show some (Value.int .i64 (gt xs y)) = _; rw [hgb]) rfl <| lx_call [vp, .int .i64 ((a : Nat) : Int), .int .i64 ((b : Nat) : Int)] rfl rfl Try.call88 rfl (join_spec hh1 vp hs p a b (hr_vp.extS hx0_1) (ht_vp.extS hx0_1) (by omega) (by first | with_reducible assumption | omega) (by omega) (by omega)) (fun _ _ _ => trivial) ?_
        rintro _ h1 ⟨rfl, rfl⟩
        refine lx_assign (.int .i64 (joinF p.length (pb p) a b)) rfl rfl <| lx_nil <| wi_seq <| wi_reg rfl <| lx_move (.int .i64 (joinF p.length (pb p) a b)) rfl rfl <| lx_geqS rfl rfl rfl (fun c4 => ?_) (fun c4 => ?_)
        · refine lx_nil <| wi_true rfl <| wi_reg rfl <| ?_
          obtain ⟨jj, hjj, hjn, _⟩ := joinF_some (show 0 ≤ joinF p.length (pb p) a b by omega)
          rw [hjj]
          refine lx_move (.int .i64 ((jj : Nat) : Int)) rfl rfl <| lx_assign (.int .i64 ((jj : Nat) : Int)) rfl rfl <| lx_nil <| wi_inBlock <| wi_reg rfl <| lx_move (.int .i64 ((y : Nat) : Int)) rfl rfl <| lx_add (((y + 1 : Nat) : Int)) rfl rfl rfl (by omega) (by omega) (by omega) <| lx_assign (.int .i64 ((y + 1 : Nat) : Int)) rfl rfl <| lx_nil <| ?_
          -- L2.1
          refine IH2 _ _ (y + 1, jj) (agree_ups rfl agree_self) ⟨rfl, rfl, trivial⟩ ⟨rfl, ?_, ?_⟩ ?_
          · try dsimp only
            omega
          · try dsimp only
            omega
          · first | omega | (dsimp only; omega)
        · refine lx_nil <| wi_false rfl <| wi_skip <| wi_inBlock <| wi_reg rfl <| lx_move (.int .i64 ((y : Nat) : Int)) rfl rfl <| lx_add (((y + 1 : Nat) : Int)) rfl rfl rfl (by omega) (by omega) (by omega) <| lx_assign (.int .i64 ((y + 1 : Nat) : Int)) rfl rfl <| lx_nil <| ?_
          -- L2.2
          refine IH2 _ _ (y + 1, a) (agree_ups rfl agree_self) ⟨rfl, rfl, trivial⟩ ⟨rfl, ?_, ?_⟩ ?_
          · try dsimp only
            omega
          · try dsimp only
            omega
          · first | omega | (dsimp only; omega)
      · refine wi_skip <| wi_inBlock <| wi_reg rfl <| lx_move (.int .i64 ((y : Nat) : Int)) rfl rfl <| lx_add (((y + 1 : Nat) : Int)) rfl rfl rfl (by omega) (by omega) (by omega) <| lx_assign (.int .i64 ((y + 1 : Nat) : Int)) rfl rfl <| lx_nil <| ?_
        -- L2.3
        refine IH2 _ _ (y + 1, a) (agree_ups rfl agree_self) ⟨rfl, rfl, trivial⟩ ⟨rfl, ?_, ?_⟩ ?_
        · try dsimp only
          omega
        · try dsimp only
          omega
        · first | omega | (dsimp only; omega)
    · refine lx_nil <| wi_false rfl <| wi_exit rfl <| wi_reg rfl <| lx_move (v) rfl rfl <| lx_move (.int .i64 ((a : Nat) : Int)) rfl rfl <| lx_appendL (E := encI) (B := h.size) [((a : Nat) : Int)] [.int .i64 ((a : Nat) : Int)] rfl rfl (fun _ => rfl) rfl eT25 rfl rfl rfl rfl ho1 (fun _ => rfl) (by show ys.length + 1 ≤ _; omega) (by show (ys.length + 1) * 8 ≤ _; omega) hx0_1.size (fun _ _ => trivial) fun u1 v1 h2 ho2 hc1 hg1 => ?_
      have hx0_2 := hx0_1.trans (ho1.ext hc1 hx0_1.size)
      refine lx_assign (v1) rfl rfl <| lx_nil <| wi_inBlock <| wi_reg rfl <| lx_move (.int .i64 ((x : Nat) : Int)) rfl rfl <| lx_add (((x + 1 : Nat) : Int)) rfl rfl rfl (by omega) (by omega) (by omega) <| lx_assign (.int .i64 ((x + 1 : Nat) : Int)) rfl rfl <| lx_nil <| ?_
      -- L0.1
      refine IH1 _ _ (x + 1, v1, ys ++ [((a : Nat) : Int)]) (agree_ups rfl (agree_mix (rngB_sub (by decide) (by decide) rfl) (agree_ups rfl agree_self))) ⟨rfl, rfl, trivial⟩ ⟨?_, hx0_2, ?_, ?_, ?_⟩ ?_
      · first | exact ho2 | (simpa using ho2)
      · try dsimp only
        omega
      · try dsimp only
        first | omega | (simp only [List.length_append, List.length_cons, List.length_nil]; omega)
      · try dsimp only
        intro j hj
        rw [List.length_append, List.length_cons, List.length_nil] at hj
        by_cases e : j < ys.length
        · rw [gt_append_left e]; exact hyr j e
        · rw [show j = ys.length from by omega, gt_append_right]; omega
      · first | omega | (dsimp only; omega)
  · refine lx_nil <| wi_false rfl <| wi_exit rfl <| wi_seq <| wi_seq <| wi_reg rfl <| ?_
    have hyn : ys.length = p.length := by omega
    refine lx_move (vp) rfl rfl <| lx_move (v) rfl rfl <| lx_call [vp, v] rfl rfl Try.call26 rfl (rmap_spec hh1 vp hs p v ys (hr_vp.extS hx0_1) (ht_vp.extS hx0_1) ho1.rd (by omega) (by first | with_reducible assumption | omega) (by omega)) (fun _ _ _ => trivial) ?_
    rintro _ h3 ⟨rfl, rfl⟩
    refine lx_neqS rfl rfl rfl (fun c5 => ?_) (fun c5 => ?_)
    · refine lx_nil <| wi_true rfl <| wi_seq <| wi_reg rfl <| lx_assign (.int .i64 0) rfl rfl <| lx_nil <| wi_block <| ?_
      refine wi_loop (σ := Nat × (List Int)) (rngB 51 61 [10]) (fun (ss : Nat × (List Int)) => [(10, .int .i64 ((ss.1 : Nat) : Int))]) (fun (ss : Nat × (List Int)) (hh : Heap) => OwE encI hh h.size 3 v ss.2 ∧ Ext h.size h hh ∧ (ss.1 ≤ p.length) ∧ (ss.2.length = p.length) ∧ (∀ j, j < ss.1 → gt ss.2 j = (j : Int))) (fun (ss : Nat × (List Int)) => p.length - ss.1) (0, ys) ⟨rfl, trivial⟩ ⟨?_, hx0_1, ?_, ?_, ?_⟩ ?_
      · first | exact ho1 | (simpa using ho1)
      · try dsimp only
        omega
      · try dsimp only
        exact hyn
      · try dsimp only
        intro j hj; omega
      rintro g3 ⟨z, zs⟩ hh3 ⟨ho3, hx0_3, hz, hzl, hzr⟩ IH3
      dsimp only at *
      refine wi_seq <| wi_seq <| wi_reg rfl <| lx_move (.int .i64 ((z : Nat) : Int)) rfl rfl <| lx_move (vp) rfl rfl <| lx_len rfl Try.underlying23 hr_vp rfl <| lx_lssS rfl rfl rfl (fun c6 => ?_) (fun c6 => ?_)
      · refine lx_nil <| wi_true rfl <| wi_skip <| wi_seq <| wi_block <| wi_reg rfl <| lx_move (v) rfl rfl <| lx_move (.int .i64 ((z : Nat) : Int)) rfl rfl <| lx_move (.int .i64 ((z : Nat) : Int)) rfl rfl <| lx_ix (i := z) rfl eT25 ho3.rd rfl rfl (by first | omega | (simp only [List.length_set, List.length_append, List.length_cons, List.length_nil, List.length_replicate, List.length_take, swp_length, exch_length]; omega)) <| lx_st (i := z) (((z : Nat) : Int)) rfl rfl Try.sizeOf3 ho3 (by first | omega | (simp only [List.length_set, List.length_append, List.length_cons, List.length_nil, List.length_replicate, List.length_take, swp_length, exch_length]; omega)) rfl rfl (fun _ _ _ _ _ => trivial) fun h4 ho4 hc2 hsz1 => ?_
        have hx0_4 := hx0_3.trans (ho3.ext hc2 hx0_3.size)
        refine lx_nil <| wi_inBlock <| wi_reg rfl <| lx_move (.int .i64 ((z : Nat) : Int)) rfl rfl <| lx_add (((z + 1 : Nat) : Int)) rfl rfl rfl (by omega) (by omega) (by omega) <| lx_assign (.int .i64 ((z + 1 : Nat) : Int)) rfl rfl <| lx_nil <| ?_
        -- L4.1
        refine IH3 _ _ (z + 1, zs.set z (((z : Nat) : Int))) (agree_ups rfl agree_self) ⟨rfl, trivial⟩ ⟨?_, hx0_4, ?_, ?_, ?_⟩ ?_
        · first | exact ho4 | (simpa using ho4)
        · try dsimp only
          omega
        · try dsimp only
          rw [List.length_set]; exact hzl
        · try dsimp only
          intro j hj
          rw [gt_set (by omega)]
          by_cases e : j = z
          · rw [if_pos e, e]
          · rw [if_neg e]; exact hzr j (by omega)
        · first | omega | (dsimp only; omega)
      · refine lx_nil <| wi_false rfl <| wi_exit rfl <| wi_seq <| wi_reg rfl <| lx_move (v) rfl rfl <| lx_assign (v) rfl rfl <| lx_nil <| ?_
        -- R1
        refine wi_ret ⟨v, (res_one rfl rfl), ⟨v, zs, rfl, ho3, ?_, hx0_3⟩⟩
        · exact iota_map hzl fun j hj => hzr j (by omega)
    · refine lx_nil <| wi_false rfl <| wi_skip <| wi_seq <| wi_reg rfl <| lx_move (v) rfl rfl <| lx_assign (v) rfl rfl <| lx_nil <| ?_
      -- R2
      refine wi_ret ⟨v, (res_one rfl rfl), ⟨v, ys, rfl, ho1, ?_, hx0_1⟩⟩
      · omega

set_option maxRecDepth 10000 in
theorem orderCompletions_spec (h : Heap) (n : Int) (vl : Value) (ls : List (Int × Int)) (vf : Value) (fs : List Int) (hr_vl : RdE encP h vl ls) (hr_vf : RdE encI h vf fs) (hp1 : ls.length ≤ 9223372036854775807) (hp2 : fs.length ≤ 9223372036854775807) : Fx Try.prog 4 [.int .i64 n, vl, vf] h (fun v h' => v = .bool true ∧ Ext h.size h h') := by
  refine fx_intro (n := 134) [(0, .int .i64 n), (1, vl), (2, vf)] Try.func4 rfl rfl (by simp) ⟨rfl, rfl, rfl, trivial⟩ fun g0 => ?_
  refine wi_seq <| wi_reg rfl <| lx_assign (.bool false) rfl rfl <| lx_nil <| wi_seq <| wi_reg rfl <| lx_move (.int .i64 n) rfl rfl <| lx_move (vl) rfl rfl <| lx_call [.int .i64 n, vl, .int .i64 10] rfl rfl Try.call15 rfl (tame_spec h n vl ls 10 hr_vl (by omega) (by omega) (by omega)) (fun _ _ _ => trivial) ?_
  rintro vp h1 ⟨_, hsp, p, rfl, ho1, hot1, htm, hx1⟩
  have ho2 := ho1.base (Nat.le_refl h.size)
  have hot2 := hot1.base (Nat.le_refl h.size)
  have hl_hot2 := hot2.1
  refine lx_assign (vp) rfl rfl <| lx_nil <| wi_seq <| wi_reg rfl <| ?_
  obtain ⟨hpt, hp0, hpm⟩ := htm
  have hpq : Sq p p.length := isT_sq hpt
  have hio := isT_o hpt
  have hck : chkT p = 0 := chkT_zero hp0 (by omega) hpt
  have hle : ∀ i, i < p.length → (gt p i).length ≤ 1000000 := fun i hi => by rw [hpq.2 i hi]; omega
  refine lx_move (vp) rfl rfl <| lx_call [vp] rfl rfl Try.call23 rfl (completion_spec h1 vp hsp p ho2.rd hot2.rt (by omega) hle) (fun _ _ _ => trivial) ?_
  rintro _ h2 ⟨va, vq, vc, xa, hqq, rq, xc, rfl, ho3, ho4, hot3, ho5, hco, hx2⟩
  have hx0_1 := hx1.trans2 hx2 hx1.size
  have ho6 := ho2.extS hx2
  have hot4 := hot2.extS hx2
  have ho7 := ho3.base hx1.size
  have ho8 := ho4.base hx1.size
  have hot5 := hot3.base hx1.size
  have hl_hot5 := hot5.1
  have ho9 := ho5.base hx1.size
  refine lx_move (.tuple #[va, vq, vc, .int .i64 (chkT p)]) rfl rfl <| lx_extract (va) rfl rfl rfl <| lx_extract (vq) rfl rfl rfl <| lx_extract (vc) rfl rfl rfl <| lx_extract (.int .i64 (chkT p)) rfl rfl rfl <| lx_assign (va) rfl rfl <| lx_assign (vq) rfl rfl <| lx_assign (vc) rfl rfl <| lx_assign (.int .i64 (chkT p)) rfl rfl <| lx_nil <| wi_seq <| wi_reg rfl <| ?_
  obtain ⟨hxa, hrq, hxc⟩ := goodA hco hck
  have hnb := cutsF_nb (f := pb p) (show p.length ≤ 12 by omega)
  rw [hxa] at hrq
  refine lx_move (vp) rfl rfl <| lx_call [vp] rfl rfl Try.call24 rfl (rcompletion_spec h2 vp hsp p ho6.rd hot4.rt (by omega) hpq hio) (fun _ _ _ => trivial) ?_
  rintro _ h3 ⟨vw, vpl, rfl, ho10, ho11, hx3⟩
  have hx0_2 := hx0_1.trans2 hx3 hx0_1.size
  have ho12 := ho6.extS hx3
  have hot6 := hot4.extS hx3
  have ho13 := ho7.extS hx3
  have ho14 := ho8.extS hx3
  have hot7 := hot5.extS hx3
  have ho15 := ho9.extS hx3
  have ho16 := ho10.base hx0_1.size
  have ho17 := ho11.base hx0_1.size
  refine lx_move (.tuple #[vw, vpl]) rfl rfl <| lx_extract (vw) rfl rfl rfl <| lx_extract (vpl) rfl rfl rfl <| lx_assign (vw) rfl rfl <| lx_assign (vpl) rfl rfl <| lx_nil <| wi_seq <| wi_seq <| wi_reg rfl <| lx_move (.int .i64 (chkT p)) rfl rfl <| lx_neqF rfl rfl rfl (fun h9 => h9 hck) <| lx_move (.bool false) rfl rfl <| lx_move (va) rfl rfl <| lx_move (vw) rfl rfl <| lx_call [va, vw] rfl rfl Try.call19 rfl (ints_spec h3 va xa vw ((cutsF p.length (pb p))) ho13.rd ho16.rd (by rw [hxa]; omega) (by omega)) (fun _ _ _ => trivial) ?_
  rintro _ h4 ⟨rfl, rfl⟩
  rw [decide_eq_true hxa]
  refine lx_notB false rfl rfl rfl <| lx_pick false (.bool false) rfl rfl rfl <| lx_move (.bool false) rfl rfl <| lx_move (vc) rfl rfl <| lx_move (vpl) rfl rfl <| lx_call [vc, vpl] rfl rfl Try.call19 rfl (ints_spec h3 vc xc vpl (placesF p.length (pb p) p.length) ho15.rd ho17.rd (by rw [hxc, placesF_len]; omega) (by rw [placesF_len]; omega)) (fun _ _ _ => trivial) ?_
  rintro _ h5 ⟨rfl, rfl⟩
  rw [decide_eq_true hxc]
  refine lx_notB false rfl rfl rfl <| lx_pick false (.bool false) rfl rfl rfl <| lx_move (.bool false) rfl rfl <| lx_move (vq) rfl rfl <| lx_move (vw) rfl rfl <| lx_call [vw] rfl rfl Try.call22 rfl (within9_spec h3 vw ((cutsF p.length (pb p))) ho16.rd hnb.1 hnb.2) (fun _ _ _ => trivial) ?_
  rintro vwi h6 ⟨_, hswi, rfl, ho18, hot8, hx4⟩
  have hx0_3 := hx0_2.trans2 hx4 hx0_2.size
  have ho19 := ho12.extS hx4
  have hot9 := hot6.extS hx4
  have ho20 := ho13.extS hx4
  have ho21 := ho14.extS hx4
  have hot10 := hot7.extS hx4
  have ho22 := ho15.extS hx4
  have ho23 := ho16.extS hx4
  have ho24 := ho17.extS hx4
  have ho25 := ho18.base hx0_2.size
  have hot11 := hot8.base hx0_2.size
  have hl_hot11 := hot11.1
  refine lx_call [vq, vwi] rfl rfl Try.call21 rfl (tables9_spec h6 vq hqq rq vwi hswi (tabF ((cutsF p.length (pb p))).length (incF ((cutsF p.length (pb p))))) ho21.rd hot10.rt ho25.rd hot11.rt (tab_le hrq hnb.1).1 (tab_le rfl hnb.1).1 (tab_le hrq hnb.1).2 (tab_le rfl hnb.1).2) (fun _ _ _ => trivial) ?_
  rintro _ h7 ⟨rfl, rfl⟩
  rw [decide_eq_true hrq]
  refine lx_notB false rfl rfl rfl <| lx_pick false (.bool false) rfl rfl rfl <| lx_nil <| wi_false rfl <| wi_skip <| wi_seq <| wi_reg rfl <| lx_assign (.slice none 0 0) rfl rfl <| lx_nil <| wi_seq <| wi_reg rfl <| lx_move (.slice none 0 0) rfl rfl <| lx_move (vf) rfl rfl <| lx_move (vf) rfl rfl <| lx_len rfl Try.underlying25 hr_vf rfl <| lx_min (((min fs.length 14 : Nat) : Int)) rfl rfl rfl (by omega) <| lx_slice (E := encI) 0 (min fs.length 14) rfl eT25 rfl rfl ⟨_, rfl⟩ hr_vf (by omega) (by omega) fun v1 hs1 hso1 => ?_
  have hr1 := sl_rd (hr_vf.extS hx0_3) hs1 (by omega)
  refine lx_append (E := encI) (B := h.size) (xs := []) (ys := fs.take (min fs.length 14)) rfl rfl eT25 (owE_nil encI _ h.size 3) hr1 rfl rfl (by first | omega | (simp only [List.length_append, List.length_cons, List.length_nil, List.length_take]; omega)) (by first | omega | (simp only [List.length_append, List.length_cons, List.length_nil, List.length_take]; omega)) hx0_3.size (fun _ _ => trivial) fun v2 h8 ho26 hc1 hg1 => ?_
  have hx0_4 := hx0_3.trans ((owE_nil encI _ h.size 3).ext hc1 hx0_3.size)
  have ho27 := ho19.chg hc1 (dj_nil_r _)
  have ho28 := ho20.chg hc1 (dj_nil_r _)
  have ho29 := ho21.chg hc1 (dj_nil_r _)
  have ho30 := ho22.chg hc1 (dj_nil_r _)
  have ho31 := ho23.chg hc1 (dj_nil_r _)
  have ho32 := ho24.chg hc1 (dj_nil_r _)
  have ho33 := ho25.chg hc1 (dj_nil_r _)
  have hot12 := hot9.chg hc1 (djt_nil _)
  have hot13 := hot10.chg hc1 (djt_nil _)
  have hot14 := hot11.chg hc1 (djt_nil _)
  rw [List.nil_append] at ho26
  refine lx_assign (v2) rfl rfl <| lx_nil <| wi_seq <| wi_seq <| wi_reg rfl <| ?_
  have hl_vp9 : hsp.length = p.length := by first | assumption | omega
  refine lx_assign (.int .i64 0) rfl rfl <| lx_nil <| wi_block <| ?_
  refine wi_loop (σ := Nat × Value × (List Int)) (rngB 63 133 [6, 14, 15, 16, 17, 18, 19]) (fun (ss : Nat × Value × (List Int)) => [(15, .int .i64 ((ss.1 : Nat) : Int)), (14, ss.2.1)]) (fun (ss : Nat × Value × (List Int)) (hh : Heap) => OwE encI hh h.size 3 ss.2.1 ss.2.2 ∧ OwE encHd hh h.size 70 vp hsp ∧ OT encB hh h.size 4 hsp p ∧ Ext h.size h hh ∧ (ss.1 ≤ 3) ∧ (ss.2.2.length ≤ 14)) (fun (ss : Nat × Value × (List Int)) => 3 - ss.1) (0, v2, fs.take (min fs.length 14)) ⟨rfl, rfl, trivial⟩ ⟨?_, ?_, ?_, hx0_4, ?_, ?_⟩ ?_
  · first | exact ho26 | (simpa using ho26)
  · first | exact ho27 | (simpa using ho27)
  · first | exact hot12 | (simpa using hot12)
  · try dsimp only
    omega
  · try dsimp only
    rw [List.length_take]; omega
  rintro g1 ⟨k, v, ys⟩ hh1 ⟨ho34, ho35, hot15, hx0_5, hk, hyl⟩ IH1
  dsimp only at *
  have hl_hot15 := hot15.1
  refine wi_seq <| wi_seq <| wi_reg rfl <| lx_move (.int .i64 ((k : Nat) : Int)) rfl rfl <| lx_lssS rfl rfl rfl (fun c1 => ?_) (fun c1 => ?_)
  · refine lx_nil <| wi_true rfl <| wi_skip <| wi_seq <| wi_block <| wi_seq <| wi_reg rfl <| lx_move (vp) rfl rfl <| lx_move (v) rfl rfl <| lx_call [vp, v] rfl rfl Try.call25 rfl (ofixed_spec hh1 vp hsp p v ys ho35.rd hot15.rt ho34.rd (by omega) hle (by omega)) (fun _ _ _ => trivial) ?_
    rintro _ h9 ⟨vx, zx, rfl, ho36, hfx, hx5⟩
    have hx0_6 := hx0_5.trans2 hx5 hx0_5.size
    have ho37 := ho35.extS hx5
    have hot16 := hot15.extS hx5
    have ho38 := ho34.extS hx5
    have ho39 := ho36.base hx0_5.size
    refine lx_move (.tuple #[vx, .int .i64 (fixE p ys)]) rfl rfl <| lx_extract (vx) rfl rfl rfl <| lx_extract (.int .i64 (fixE p ys)) rfl rfl rfl <| lx_assign (vx) rfl rfl <| lx_assign (.int .i64 (fixE p ys)) rfl rfl <| lx_nil <| wi_seq <| wi_seq <| wi_reg rfl <| ?_
    have hfe : fixE p ys = mapE p.length (pb p) ys := if_pos hck
    refine lx_move (vp) rfl rfl <| lx_move (v) rfl rfl <| lx_call [vp, v] rfl rfl Try.call26 rfl (rmap_spec h9 vp hsp p v ys ho37.rd hot16.rt ho38.rd (by omega) hpq (by omega)) (fun _ _ _ => trivial) ?_
    rintro _ h10 ⟨rfl, rfl⟩
    refine lx_assign (.int .i64 (mapE p.length (pb p) ys)) rfl rfl <| lx_nil <| wi_seq <| wi_reg rfl <| lx_move (.int .i64 (mapE p.length (pb p) ys)) rfl rfl <| lx_neq rfl rfl rfl <| lx_nil <| ?_
    refine wi_cutE (σ := Unit) (rngB 78 95 [6]) (fun (_ : Unit) => []) (fun (_ : Unit) (hh : Heap) => OwE encI hh h.size 3 v ys ∧ OwE encHd hh h.size 70 vp hsp ∧ OT encB hh h.size 4 hsp p ∧ Ext h.size h hh) (fun J1 => ?_) ?_
    · refine wi_condS (t := decide (mapE p.length (pb p) ys ≠ (0 : Int))) rfl (fun c2 => ?_) (fun c2 => ?_)
      · refine wi_seq <| wi_reg rfl <| ?_
        have hmz : mapE p.length (pb p) ys ≠ 0 := by have := of_decide_eq_true ‹decide (mapE p.length (pb p) ys ≠ 0) = true›; exact this
        have hz0 : zx = [] := by rw [hfx, if_neg (by rw [hfe]; exact hmz)]
        refine lx_move (.int .i64 (fixE p ys)) rfl rfl <| lx_move (.int .i64 (mapE p.length (pb p) ys)) rfl rfl <| lx_neqF rfl rfl rfl (fun h9 => h9 hfe) <| lx_move (.bool false) rfl rfl <| lx_move (vx) rfl rfl <| lx_len rfl Try.underlying25 ho39.rd rfl <| lx_neqF rfl rfl rfl (by rw [hz0]; simp) <| lx_pick false (.bool false) rfl rfl rfl <| lx_nil <| wi_false rfl <| wi_skip <| ?_
        -- Jt77.1
        refine J1 _ _ () (agree_ups rfl agree_upsJ) trivial ⟨?_, ?_, ?_, hx0_6⟩
        · first | exact ho38 | (simpa using ho38)
        · first | exact ho37 | (simpa using ho37)
        · first | exact hot16 | (simpa using hot16)
      · refine wi_seq <| wi_reg rfl <| ?_
        have hmz : mapE p.length (pb p) ys = 0 := by have := of_decide_eq_false ‹decide (mapE p.length (pb p) ys ≠ 0) = false›; omega
        have hz1 : zx = fixF ys := by rw [hfx, if_pos (by rw [hfe]; exact hmz)]
        refine lx_move (.int .i64 (fixE p ys)) rfl rfl <| lx_neqF rfl rfl rfl (fun h9 => h9 (by rw [hfe]; exact hmz)) <| lx_move (.bool false) rfl rfl <| lx_move (vx) rfl rfl <| lx_move (v) rfl rfl <| lx_call [v] rfl rfl Try.call27 rfl (rfixed_spec h9 v ys ho38.rd (by omega)) (fun _ _ _ => trivial) ?_
        rintro vfx h11 ⟨_, rfl, ho40, hx6⟩
        have hx0_7 := hx0_6.trans2 hx6 hx0_6.size
        have ho41 := ho37.extS hx6
        have hot17 := hot16.extS hx6
        have ho42 := ho38.extS hx6
        have ho43 := ho39.extS hx6
        have ho44 := ho40.base hx0_6.size
        refine lx_call [vx, vfx] rfl rfl Try.call19 rfl (ints_spec h11 vx zx vfx (fixF ys) ho43.rd ho44.rd (by rw [hz1]; have := filtF_length ys.length (fixB ys); unfold fixF; omega) (by have := filtF_length ys.length (fixB ys); unfold fixF; omega)) (fun _ _ _ => trivial) ?_
        rintro _ h12 ⟨rfl, rfl⟩
        rw [decide_eq_true hz1]
        refine lx_notB false rfl rfl rfl <| lx_pick false (.bool false) rfl rfl rfl <| lx_nil <| wi_false rfl <| wi_skip <| ?_
        -- Jt77.2
        refine J1 _ _ () (agree_ups rfl agree_upsJ) trivial ⟨?_, ?_, ?_, hx0_7⟩
        · first | exact ho42 | (simpa using ho42)
        · first | exact ho41 | (simpa using ho41)
        · first | exact hot17 | (simpa using hot17)
    rintro g2 _ hh2 ⟨ho45, ho46, hot18, hx0_8⟩
    have hl_hot18 := hot18.1
    refine wi_seq <| wi_seq <| wi_reg rfl <| lx_assign (.int .i64 0) rfl rfl <| lx_nil <| wi_block <| ?_
    refine wi_loop (σ := Nat × (List Int)) (rngB 95 114 [19]) (fun (ss : Nat × (List Int)) => [(19, .int .i64 ((ss.1 : Nat) : Int))]) (fun (ss : Nat × (List Int)) (hh : Heap) => OwE encI hh h.size 3 v ss.2 ∧ OwE encHd hh h.size 70 vp hsp ∧ OT encB hh h.size 4 hsp p ∧ Ext h.size h hh ∧ (ss.1 ≤ ys.length) ∧ (ss.2.length = ys.length) ∧ (∀ j, j < ss.1 → 0 ≤ gt ss.2 j ∧ gt ss.2 j < p.length)) (fun (ss : Nat × (List Int)) => ys.length - ss.1) (0, ys) ⟨rfl, trivial⟩ ⟨?_, ?_, ?_, hx0_8, ?_, ?_, ?_⟩ ?_
    · first | exact ho45 | (simpa using ho45)
    · first | exact ho46 | (simpa using ho46)
    · first | exact hot18 | (simpa using hot18)
    · try dsimp only
      omega
    · try dsimp only
      first | done | rfl
    · try dsimp only
      intro j hj; omega
    rintro g3 ⟨i, l⟩ hh3 ⟨ho47, ho48, hot19, hx0_9, hi, hll, hlr⟩ IH2
    dsimp only at *
    have hl_hot19 := hot19.1
    refine wi_seq <| wi_seq <| wi_reg rfl <| lx_move (.int .i64 ((i : Nat) : Int)) rfl rfl <| lx_move (v) rfl rfl <| lx_len rfl Try.underlying25 ho47.rd rfl <| lx_lssS rfl rfl rfl (fun c3 => ?_) (fun c3 => ?_)
    · refine lx_nil <| wi_true rfl <| wi_skip <| wi_seq <| wi_block <| wi_reg rfl <| ?_
      have hmd := Nat.mod_lt (ur (gt l i)) (show 0 < hsp.length by omega)
      refine lx_move (v) rfl rfl <| lx_move (.int .i64 ((i : Nat) : Int)) rfl rfl <| lx_move (v) rfl rfl <| lx_move (.int .i64 ((i : Nat) : Int)) rfl rfl <| lx_ix (i := i) rfl eT25 ho47.rd rfl rfl (by first | omega | (simp only [List.length_set, List.length_append, List.length_cons, List.length_nil, List.length_replicate, List.length_take, swp_length, exch_length]; omega)) <| lx_ld (i := i) (j := 0) (.int .i64 (gt l i)) rfl rfl fl3 ho47.rd (by first | omega | (simp only [List.length_set, List.length_append, List.length_cons, List.length_nil, List.length_replicate, List.length_take, swp_length, exch_length]; omega)) rfl rfl <| lx_conv ((ur (gt l i) : Nat) : Int) rfl Try.underlying3 Try.underlying45 rfl (wrap_ur _) <| lx_move (vp) rfl rfl <| lx_len rfl Try.underlying23 ho48.rd rfl <| lx_conv ((hsp.length : Nat) : Int) rfl Try.underlying3 Try.underlying45 rfl (wrap_u64 (by omega) (by omega)) <| lx_rem (m := ur (gt l i)) (n := hsp.length) rfl rfl rfl (by omega) <| lx_conv (((ur (gt l i)) % hsp.length : Nat) : Int) rfl Try.underlying45 Try.underlying3 rfl (wrap_i64 (by omega) (by omega)) <| lx_ix (i := i) rfl eT25 ho47.rd rfl rfl (by first | omega | (simp only [List.length_set, List.length_append, List.length_cons, List.length_nil, List.length_replicate, List.length_take, swp_length, exch_length]; omega)) <| lx_st (i := i) ((((ur (gt l i)) % hsp.length : Nat) : Int)) rfl rfl Try.sizeOf3 ho47 (by first | omega | (simp only [List.length_set, List.length_append, List.length_cons, List.length_nil, List.length_replicate, List.length_take, swp_length, exch_length]; omega)) rfl rfl (fun _ _ _ _ _ => trivial) fun h13 ho49 hc2 hsz1 => ?_
      have hx0_10 := hx0_9.trans (ho47.ext hc2 hx0_9.size)
      have ho50 := ho48.chg hc2 (dj_ty ho48 ho47 (by decide))
      have hot20 := hot19.chg hc2 (djt_ty hot19 ho47 (by decide))
      refine lx_nil <| wi_inBlock <| wi_reg rfl <| lx_move (.int .i64 ((i : Nat) : Int)) rfl rfl <| lx_add (((i + 1 : Nat) : Int)) rfl rfl rfl (by omega) (by omega) (by omega) <| lx_assign (.int .i64 ((i + 1 : Nat) : Int)) rfl rfl <| lx_nil <| ?_
      -- L2.1
      refine IH2 _ _ (i + 1, l.set i ((((ur (gt l i)) % hsp.length : Nat) : Int))) (agree_ups rfl agree_self) ⟨rfl, trivial⟩ ⟨?_, ?_, ?_, hx0_10, ?_, ?_, ?_⟩ ?_
      · first | exact ho49 | (simpa using ho49)
      · first | exact ho50 | (simpa using ho50)
      · first | exact hot20 | (simpa using hot20)
      · try dsimp only
        omega
      · try dsimp only
        rw [List.length_set]; exact hll
      · try dsimp only
        intro j hj
        rw [gt_set (by omega)]
        by_cases e : j = i
        · rw [if_pos e]; omega
        · rw [if_neg e]; exact hlr j (by omega)
      · first | omega | (dsimp only; omega)
    · refine lx_nil <| wi_false rfl <| wi_exit rfl <| wi_seq <| wi_block <| ?_
      refine wi_loop (σ := Value × (List Int)) (rngB 114 124 [14]) (fun (ss : Value × (List Int)) => [(14, ss.1)]) (fun (ss : Value × (List Int)) (hh : Heap) => OwE encI hh h.size 3 ss.1 ss.2 ∧ OwE encHd hh h.size 70 vp hsp ∧ OT encB hh h.size 4 hsp p ∧ Ext h.size h hh ∧ (ss.2.length ≤ 14) ∧ (∀ j, j < ss.2.length → 0 ≤ gt ss.2 j ∧ gt ss.2 j < p.length)) (fun (ss : Value × (List Int)) => p.length - ss.2.length) (v, l) ⟨rfl, trivial⟩ ⟨?_, ?_, ?_, hx0_9, ?_, ?_⟩ ?_
      · first | exact ho47 | (simpa using ho47)
      · first | exact ho48 | (simpa using ho48)
      · first | exact hot19 | (simpa using hot19)
      · try dsimp only
        omega
      · try dsimp only
        exact fun j hj => hlr j (by omega)
      rintro g4 ⟨v, l⟩ hh4 ⟨ho51, ho52, hot21, hx0_11, hll, hlr⟩ IH3
      dsimp only at *
      have hl_hot21 := hot21.1
      refine wi_seq <| wi_seq <| wi_reg rfl <| lx_move (v) rfl rfl <| lx_len rfl Try.underlying25 ho51.rd rfl <| lx_move (vp) rfl rfl <| lx_len rfl Try.underlying23 ho52.rd rfl <| lx_lssS rfl rfl rfl (fun c4 => ?_) (fun c4 => ?_)
      · refine lx_nil <| wi_true rfl <| wi_skip <| wi_block <| wi_reg rfl <| lx_move (v) rfl rfl <| lx_move (v) rfl rfl <| lx_len rfl Try.underlying25 ho51.rd rfl <| lx_appendL (E := encI) (B := h.size) [((l.length : Nat) : Int)] [.int .i64 ((l.length : Nat) : Int)] rfl rfl (fun _ => rfl) rfl eT25 rfl rfl rfl rfl ho51 (fun _ => rfl) (by show l.length + 1 ≤ _; omega) (by show (l.length + 1) * 8 ≤ _; omega) hx0_11.size (fun _ _ => trivial) fun u1 v3 h14 ho53 hc3 hg2 => ?_
        have hx0_12 := hx0_11.trans (ho51.ext hc3 hx0_11.size)
        have ho54 := ho52.chg hc3 (dj_ty ho52 ho51 (by decide))
        have hot22 := hot21.chg hc3 (djt_ty hot21 ho51 (by decide))
        refine lx_assign (v3) rfl rfl <| lx_nil <| wi_inBlock <| ?_
        -- L4.1
        refine IH3 _ _ (v3, l ++ [((l.length : Nat) : Int)]) (agree_ups rfl agree_self) ⟨rfl, trivial⟩ ⟨?_, ?_, ?_, hx0_12, ?_, ?_⟩ ?_
        · first | exact ho53 | (simpa using ho53)
        · first | exact ho54 | (simpa using ho54)
        · first | exact hot22 | (simpa using hot22)
        · try dsimp only
          first | omega | (simp only [List.length_append, List.length_cons, List.length_nil]; omega)
        · try dsimp only
          intro j hj
          rw [List.length_append, List.length_cons, List.length_nil] at hj
          by_cases e : j < l.length
          · rw [gt_append_left e]; exact hlr j e
          · rw [show j = l.length from by omega, gt_append_right]; omega
        · simp only [List.length_append, List.length_cons, List.length_nil]; omega
      · refine lx_nil <| wi_false rfl <| wi_exit rfl <| wi_seq <| wi_reg rfl <| ?_
        obtain ⟨htl, htr⟩ := take_rng (n := hsp.length) (xs := l) (by omega) (fun j hj => by rw [hl_vp9]; exact hlr j hj)
        refine lx_move (v) rfl rfl <| lx_move (vp) rfl rfl <| lx_len rfl Try.underlying23 ho52.rd rfl <| lx_slice (E := encI) 0 hsp.length rfl eT25 rfl rfl ⟨_, rfl⟩ ho51.rd (by omega) (by omega) fun v4 hs2 hso2 => ?_
        have ho55 := sl_own ho51 (hso2 rfl).2 (by omega)
        refine lx_assign (v4) rfl rfl <| lx_nil <| wi_seq <| wi_reg rfl <| lx_move (.int .i64 ((k : Nat) : Int)) rfl rfl <| lx_eqlS rfl rfl rfl (fun c5 => ?_) (fun c5 => ?_)
        · refine lx_nil <| wi_true rfl <| wi_reg rfl <| lx_move (vp) rfl rfl <| lx_move (v4) rfl rfl <| lx_call [vp, v4] rfl rfl Try.call28 rfl (keeping_spec hh4 vp hsp p v4 (l.take hsp.length) ho52.rd hot21.rt ho55.rd (by omega) hpq (by omega) (by omega) (fun j hj => by have := htr j (by omega); omega)) (fun _ _ _ => trivial) ?_
          rintro vk h15 ⟨_, yk, rfl, ho56, hke, hx7⟩
          have hx0_13 := hx0_11.trans2 hx7 hx0_11.size
          have ho57 := ho52.extS hx7
          have hot23 := hot21.extS hx7
          have ho58 := ho51.extS hx7
          have ho59 := ho55.extS hx7
          have ho60 := ho56.base hx0_11.size
          refine lx_assign (vk) rfl rfl <| lx_nil <| wi_inBlock <| wi_reg rfl <| lx_move (.int .i64 ((k : Nat) : Int)) rfl rfl <| lx_add (((k + 1 : Nat) : Int)) rfl rfl rfl (by omega) (by omega) (by omega) <| lx_assign (.int .i64 ((k + 1 : Nat) : Int)) rfl rfl <| lx_nil <| ?_
          -- L0.1
          refine IH1 _ _ (k + 1, vk, yk) (agree_ups rfl (agree_mix (rngB_sub (by decide) (by decide) rfl) (agree_ups rfl (agree_mix (rngB_sub (by decide) (by decide) rfl) (agree_ups rfl (agree_mix (rngB_sub (by decide) (by decide) rfl) (agree_ups rfl agree_self))))))) ⟨rfl, rfl, trivial⟩ ⟨?_, ?_, ?_, hx0_13, ?_, ?_⟩ ?_
          · first | exact ho60 | (simpa using ho60)
          · first | exact ho57 | (simpa using ho57)
          · first | exact hot23 | (simpa using hot23)
          · try dsimp only
            omega
          · try dsimp only
            first | omega | (have := (mapE_zero hke).1; omega)
          · first | omega | (dsimp only; omega)
        · refine lx_nil <| wi_false rfl <| wi_skip <| wi_inBlock <| wi_reg rfl <| lx_move (.int .i64 ((k : Nat) : Int)) rfl rfl <| lx_add (((k + 1 : Nat) : Int)) rfl rfl rfl (by omega) (by omega) (by omega) <| lx_assign (.int .i64 ((k + 1 : Nat) : Int)) rfl rfl <| lx_nil <| ?_
          -- L0.2
          refine IH1 _ _ (k + 1, v4, l.take hsp.length) (agree_ups rfl (agree_mix (rngB_sub (by decide) (by decide) rfl) (agree_ups rfl (agree_mix (rngB_sub (by decide) (by decide) rfl) (agree_ups rfl (agree_mix (rngB_sub (by decide) (by decide) rfl) (agree_ups rfl agree_self))))))) ⟨rfl, rfl, trivial⟩ ⟨?_, ?_, ?_, hx0_11, ?_, ?_⟩ ?_
          · first | exact ho55 | (simpa using ho55)
          · first | exact ho52 | (simpa using ho52)
          · first | exact hot21 | (simpa using hot21)
          · try dsimp only
            omega
          · try dsimp only
            first | omega | (have := (mapE_zero hke).1; omega)
          · first | omega | (dsimp only; omega)
  · refine lx_nil <| wi_false rfl <| wi_exit rfl <| wi_seq <| wi_reg rfl <| lx_call [] rfl rfl Try.call20 rfl (awake_spec hh1 ) (fun _ _ _ => trivial) ?_
    rintro _ h16 ⟨rfl, hx8⟩
    have hx0_14 := hx0_5.trans2 hx8 hx0_5.size
    have ho61 := ho35.extS hx8
    have hot24 := hot15.extS hx8
    have ho62 := ho34.extS hx8
    refine lx_assign (.bool true) rfl rfl <| lx_nil <| ?_
    -- R1
    refine wi_ret ⟨.bool true, (res_one rfl rfl), ⟨rfl, hx0_14⟩⟩

end Go.Proofs.Ytdokijbdnajhgaa
namespace Go.Proofs.Ytdokijbdnajhgaa
open Go Go.X Go.ChangeShapes Go.WideShapes Go.ChangeAt Go.RowKit

theorem orderCompletions_own : ownKnob Try.prog.godebug = none := by kernel_rfl
theorem orderCompletions_laidOut : laidOutB Try.prog = true := by kernel_rfl

set_option maxRecDepth 100000 in
theorem orderCompletions_lifted (os : Os) (started : os.Started) (H : Type) (enc : TypeId × Value → H) :
    ReturnsInHanded {} Try.checked os 4 .any (Rows.orderCompletionsSpec.pre6 enc Try.prog Try.f4 Rows.orderCompletionsRow.domain false) (Rows.orderCompletionsSpec.post enc Try.prog Try.f4 false true false false) := by
  refine returnsInHanded_of_change (C := Try.checked) orderCompletions_own started (by kernel_rfl) Try.func4
    (ChangeSpec.witness6 (enc := enc) (C := Try.checked) false ⟨#[], #[.int .i64 0, .slice none 0 0, .slice none 0 0], []⟩ 8 (by kernel_rfl) (by kernel_rfl) (by kernel_rfl) (by kernel_rfl)) ?_
  intro W base args ds gs before hval0 hW hcnd _
  have hval : ∀ (j : Nat) t v, Try.f4.params[j]? = some t → args[j]? = some v → Value.okWide Try.prog W .any base t v := hval0
  have hW' := hW
  obtain ⟨p, q, hA0, hV, rfl, hfz, hnd⟩ := hW
  have hA : DataW.TrodAll enc Try.prog W 0 (fun _ => true) true Try.f4.params.toList args.toList ds p := hA0
  rw [Try.params4] at hA hval
  obtain ⟨v0, vs0, d0, ds0, p0, q0, hargs, rfl, rfl, h0, r0⟩ := trodAll_cons hA
  obtain ⟨v1, vs1, d1, ds1, p1, q1, rfl, rfl, rfl, h1, r1⟩ := trodAll_cons r0
  obtain ⟨v2, vs2, d2, ds2, p2, q2, rfl, rfl, rfl, h2, r2⟩ := trodAll_cons r1
  obtain ⟨rfl, rfl, rfl⟩ := trodAll_nil r2
  obtain rfl : args = #[v0, v1, v2] := by cases args; simp_all
  obtain ⟨rfl, rfl⟩ := trodVars_none hV
  obtain ⟨n, rfl, rfl, rfl, w0⟩ := open_int Try.underlying3 (hval 0 3 v0 rfl rfl) h0
  have hb_n := bounds_i64 w0
  have k1 := h1
  have lt1 : ∀ x ∈ p1, x.block < W.heap.size := by obtain ⟨m, hm⟩ := k1; exact DataW.trod_lt m _ _ _ hm
  obtain ⟨l, hr_l, hl_l, hb_l⟩ := lift_pairs Try.underlying22 Try.underlying85 Try.underlying3 (by kernel_rfl) (by kernel_rfl) (hval 1 22 v1 rfl rfl) h1
  have k2 := h2
  have lt2 : ∀ x ∈ p2, x.block < W.heap.size := by obtain ⟨m, hm⟩ := k2; exact DataW.trod_lt m _ _ _ hm
  obtain ⟨f, hr_f, hl_f, hb_f⟩ := lift_ints Try.underlying25 Try.underlying3 (by kernel_rfl) (hval 2 25 v2 rfl rfl) h2
  clear hA0 hval0
  refine (lift_walk (args := [.int .i64 n, v1, v2]) (orderCompletions_spec W.heap n v1 l v2 f hr_l hr_f hl_l hl_f)).mono fun e W' ⟨he, bel⟩ => ?_
  subst he
  exact ⟨_, rfl, _, _, _, [], _, [], hW', trodAll_mk1 (shut_bool Try.underlying4 _), (trodAll_cons_mk (shut_int Try.underlying3 w0) (trodAll_cons_mk (Below.trod orderCompletions_laidOut (by kernel_rfl) (of_decide_eq_true (by kernel_rfl)) k1 bel lt1) (trodAll_cons_mk (Below.trod orderCompletions_laidOut (by kernel_rfl) (of_decide_eq_true (by kernel_rfl)) k2 bel lt2) trodAll_mk0))), rfl, bel.frame _, fun h => by cases h⟩

theorem orderCompletions_holds : Rows.OrderCompletionsSaid :=
  OpenClaim.holds_of_wide 4 Try.f4 rfl rfl rfl rfl rfl rfl rfl ⟨rfl, rfl, rfl, rfl, rfl⟩ rfl rfl rfl rfl rfl (by kernel_rfl) Try.func4 (by kernel_rfl)
    (of_decide_eq_true (by kernel_rfl)) (by unfold Func.isWrapper; first | (rw [if_pos (by decide +kernel)]; kernel_rfl) | (rw [if_neg (by decide +kernel)]; exact ⟨rfl, rfl⟩))
    (fun os started H enc _ => orderCompletions_lifted os started H enc)
#print axioms orderCompletions_holds
end Go.Proofs.Ytdokijbdnajhgaa
