/-
  Walk: the completion.
-/
import Derived.Test.YtdokijbdnajhgaaOS
set_option linter.unusedSimpArgs false
set_option linter.unusedVariables false
namespace Go.Proofs.Ytdokijbdnajhgaa
open Go Go.X

set_option maxRecDepth 10000 in
theorem completion_spec (h : Heap) (vp : Value) (hs : List Hdr) (p : List (List Bool)) (hr_vp : RdE encHd h vp hs) (ht_vp : RT encB h hs p) (hp1 : p.length ≤ 1000000) (hp2 : ∀ i, i < p.length → (gt p i).length ≤ 1000000) : Fx Try.prog 23 [vp] h (fun v h' => ∃ (s : Value) (q : Value) (c : Value) (xs : List Int) (hq : List Hdr) (r : List (List Bool)) (cs : List Int), v = .tuple #[s, q, c, .int .i64 (chkT p)] ∧ OwE encI h' h.size 3 s xs ∧ OwE encHd h' h.size 70 q hq ∧ OT encB h' h.size 4 hq r ∧ OwE encI h' h.size 3 c cs ∧ ((chkT p ≠ 0 ∧ xs = [] ∧ r = [] ∧ cs = []) ∨ (chkT p = 0 ∧ xs = cutsF p.length (pb p) ∧ r = tabF xs.length (incF xs) ∧ cs = placesF p.length (pb p) p.length)) ∧ Ext h.size h h') := by
  have hl_vp := ht_vp.1
  refine fx_intro (n := 75) [(0, vp)] Try.func23 rfl rfl (by simp) ⟨rfl, trivial⟩ fun g0 => ?_
  refine wi_seq <| wi_reg rfl <| lx_assign (.slice none 0 0) rfl rfl <| lx_assign (.slice none 0 0) rfl rfl <| lx_assign (.slice none 0 0) rfl rfl <| lx_assign (.int .i64 0) rfl rfl <| lx_nil <| wi_seq <| wi_seq <| wi_reg rfl <| lx_move (vp) rfl rfl <| lx_call [vp] rfl rfl Try.call62 rfl (ocheck_spec h vp hs p hr_vp ht_vp (by omega) (by first | with_reducible assumption | omega)) (fun _ _ _ => trivial) ?_
  rintro _ h1 ⟨rfl, hx1⟩
  refine lx_assign (.int .i64 (chkT p)) rfl rfl <| lx_nil <| wi_seq <| wi_reg rfl <| lx_move (.int .i64 (chkT p)) rfl rfl <| lx_neqS rfl rfl rfl (fun c1 => ?_) (fun c1 => ?_)
  · refine lx_nil <| wi_true rfl <| wi_seq <| wi_reg rfl <| lx_move (.int .i64 (chkT p)) rfl rfl <| lx_assign (.slice none 0 0) rfl rfl <| lx_assign (.slice none 0 0) rfl rfl <| lx_assign (.slice none 0 0) rfl rfl <| lx_assign (.int .i64 (chkT p)) rfl rfl <| lx_nil <| ?_
    -- R1
    refine wi_ret ⟨.tuple #[.slice none 0 0, .slice none 0 0, .slice none 0 0, .int .i64 (chkT p)], (res_four rfl rfl rfl rfl rfl), ⟨.slice none 0 0, .slice none 0 0, .slice none 0 0, [], [], [], [], rfl, (owE_nil encI _ h.size 3), (owE_nil encHd _ h.size 70), (OT.nil encB _ h.size 4), (owE_nil encI _ h.size 3), ?_, hx1⟩⟩
    · exact .inl ⟨by omega, rfl, rfl, rfl⟩
  · refine lx_nil <| wi_false rfl <| wi_skip <| wi_seq <| wi_reg rfl <| ?_
    have hok := chkT_ok (p := p) (by omega)
    have hp12 : p.length ≤ 12 := hok.2.1
    have hpq : Sq p p.length := isT_sq hok.2.2
    have hsq := hpq.2
    refine lx_makeMap rfl rfl (fun _ _ _ => trivial) fun l1 h2 hl1 hmp1 hx2 => ?_
    have hbb1 : h.size ≤ l1 := by have := hx1.size; omega
    have hx0_1 := hx1.trans2 hx2 hx1.size
    refine lx_assign (.map (some l1)) rfl rfl <| lx_nil <| wi_seq <| wi_seq <| wi_reg rfl <| ?_
    have hpw := pow12 hp12
    have hpe : 2 ^ hs.length = 2 ^ p.length := by rw [hl_vp]
    refine lx_move (vp) rfl rfl <| lx_len rfl Try.underlying29 hr_vp rfl <| lx_conv ((hs.length : Nat) : Int) rfl Try.underlying3 Try.underlying45 rfl (wrap_u64 (by omega) (by omega)) <| lx_shl (m := 1) (n := hs.length) rfl rfl rfl (by show _ ≤ 64; omega) (wrap_i64 (by omega) (by omega)) <| lx_move (.int .i64 0) rfl rfl <| lx_nil <| wi_block <| ?_
    refine wi_loop (σ := Nat × (List Int)) (rngB 26 41 [8, 9]) (fun (ss : Nat × (List Int)) => [(26, .int .i64 ((ss.1 : Nat) : Int))]) (fun (ss : Nat × (List Int)) (hh : Heap) => MpO hh l1 (kv ss.2) ∧ Ext h.size h hh ∧ (ss.1 ≤ 2 ^ p.length) ∧ ss.2.Nodup ∧ (∀ x : Int, x ∈ ss.2 ↔ ∃ s, s < ss.1 ∧ x = ((cutF p.length (pb p) s : Nat) : Int))) (fun (ss : Nat × (List Int)) => 2 ^ p.length - ss.1) (0, []) ⟨rfl, trivial⟩ ⟨?_, hx0_1, ?_, ?_, ?_⟩ ?_
    · exact hmp1
    · try dsimp only
      exact Nat.zero_le _
    · try dsimp only
      exact List.nodup_nil
    · try dsimp only
      intro x; simp
    rintro g1 ⟨t, ks⟩ hh1 ⟨hmp2, hx0_2, ht, hnd, hks⟩ IH1
    dsimp only at *
    refine wi_seq <| wi_reg rfl <| lx_lssS rfl rfl rfl (fun c2 => ?_) (fun c2 => ?_)
    · refine lx_nil <| wi_seq <| wi_true rfl <| wi_skip <| wi_seq <| wi_block <| wi_seq <| wi_reg rfl <| lx_move (.int .i64 ((t : Nat) : Int)) rfl rfl <| lx_assign (.int .i64 ((t : Nat) : Int)) rfl rfl <| lx_nil <| wi_seq <| wi_reg rfl <| lx_move (vp) rfl rfl <| lx_move (.int .i64 ((t : Nat) : Int)) rfl rfl <| lx_move (vp) rfl rfl <| lx_makeFunc [vp] [] rfl rfl rfl <| lx_call [vp, .int .i64 ((t : Nat) : Int), .func (.func 80) #[vp] #[]] rfl rfl Try.call79 rfl (common_up_spec hh1 vp hs p t (hr_vp.extS hx0_2) (ht_vp.extS hx0_2) (by omega) (by first | with_reducible assumption | omega) (by omega)) (fun _ _ _ => trivial) ?_
      rintro _ h3 ⟨rfl, rfl⟩
      refine lx_assign (.int .i64 ((uppS p.length (pb p) t : Nat) : Int)) rfl rfl <| lx_nil <| wi_reg rfl <| ?_
      have hupl := uppS_lt p.length (pb p) t
      refine lx_move (.map (some l1)) rfl rfl <| lx_move (vp) rfl rfl <| lx_move (.int .i64 ((uppS p.length (pb p) t : Nat) : Int)) rfl rfl <| lx_move (vp) rfl rfl <| lx_makeFunc [vp] [] rfl rfl rfl <| lx_call [vp, .int .i64 ((uppS p.length (pb p) t : Nat) : Int), .func (.func 81) #[vp] #[]] rfl rfl Try.call79 rfl (common_dn_spec hh1 vp hs p (uppS p.length (pb p) t) (hr_vp.extS hx0_2) (ht_vp.extS hx0_2) (by omega) (by first | with_reducible assumption | omega) (by omega)) (fun _ _ _ => trivial) ?_
      rintro _ h4 ⟨rfl, rfl⟩
      refine lx_mapUpdate (((lowS p.length (pb p) (uppS p.length (pb p) t) : Nat) : Int)) (.bool true) rfl rfl Try.underlying109 Try.underlying3 hmp2 rfl rfl rfl (fun _ _ => trivial) fun h5 hmp3 hc1 => ?_
      have hx0_3 := hx0_2.trans (hc1.ext hbb1)
      rw [putM_kv] at hmp3
      refine lx_nil <| wi_inBlock <| wi_reg rfl <| lx_add (((t + 1 : Nat) : Int)) rfl rfl rfl (by omega) (by omega) (by omega) <| lx_move (.int .i64 ((t + 1 : Nat) : Int)) rfl rfl <| lx_nil <| ?_
      -- L0.1
      refine IH1 _ _ (t + 1, insK ks (((lowS p.length (pb p) (uppS p.length (pb p) t) : Nat) : Int))) (agree_ups rfl agree_self) ⟨rfl, trivial⟩ ⟨?_, hx0_3, ?_, ?_, ?_⟩ ?_
      · exact hmp3
      · try dsimp only
        omega
      · try dsimp only
        exact insK_nodup hnd
      · try dsimp only
        intro x
        rw [insK_mem, hks]
        constructor
        · rintro (⟨s, h1, h2⟩ | h1)
          · exact ⟨s, by omega, h2⟩
          · exact ⟨t, by omega, h1⟩
        · rintro ⟨s, h1, h2⟩
          rcases Nat.lt_or_ge s t with h3 | h3
          · exact .inl ⟨s, h3, h2⟩
          · obtain rfl : s = t := by omega
            exact .inr h2
      · first | omega | (dsimp only; omega)
    · refine lx_nil <| wi_seq <| wi_false rfl <| wi_exit rfl <| wi_seq <| wi_reg rfl <| lx_assign (.slice none 0 0) rfl rfl <| lx_nil <| wi_seq <| wi_seq <| wi_reg rfl <| lx_move (.map (some l1)) rfl rfl <| lx_mapRange rfl rfl Try.underlying109 hmp2 rfl (fun _ _ _ => trivial) fun l2 h6 hl2 hit1 hx3 => ?_
      have hbb2 : h.size ≤ l2 := by have := hx0_2.size; omega
      have hne1 : l1 ≠ l2 := by have := hmp2.lt; omega
      have hmp4 := hmp2.extS hx3
      have hx0_4 := hx0_2.trans2 hx3 hx0_2.size
      refine lx_nil <| wi_block <| ?_
      refine wi_loop (σ := Value × (List Int) × (List Nat)) (rngB 43 51 [10, 11]) (fun (ss : Value × (List Int) × (List Nat)) => [(10, ss.1)]) (fun (ss : Value × (List Int) × (List Nat)) (hh : Heap) => OwE encI hh h.size 3 ss.1 ss.2.1 ∧ MpO hh l1 (kv ks) ∧ ItO hh l2 l1 ((kv ks).length) ss.2.2 ∧ Ext h.size h hh ∧ (ss.2.1 = ss.2.2.map fun i => gt ks i) ∧ ss.2.2.Nodup ∧ (∀ i, i ∈ ss.2.2 → i < ks.length)) (fun (ss : Value × (List Int) × (List Nat)) => ks.length - ss.2.2.length) (.slice none 0 0, [], []) ⟨rfl, trivial⟩ ⟨?_, ?_, ?_, hx0_4, ?_, ?_, ?_⟩ ?_
      · first | exact (owE_nil encI _ h.size 3) | (simpa using (owE_nil encI _ h.size 3))
      · exact hmp4
      · exact hit1
      · try dsimp only
        first | done | rfl
      · try dsimp only
        exact List.nodup_nil
      · try dsimp only
        intro i hi; cases hi
      rintro g2 ⟨v, out, sn⟩ hh2 ⟨ho1, hmp5, hmp6, hx0_5, hout, hsn, hsl⟩ IH2
      dsimp only at *
      have hkl := keys_le hp12 hnd hks
      have hsl9 := seen_le hsn hsl
      have hol9 : out.length = sn.length := by rw [hout]; simp
      refine wi_seq <| wi_reg rfl <| lx_mapNext rfl rfl hmp5 hmp6 rfl (fun _ => trivial) (fun hall1 => ?_) (fun mi1 h7 mk1 mv1 hil1 hns1 hmg1 hit2 hc2 => ?_)
      · refine lx_extract (.bool false) rfl rfl rfl <| lx_nil <| wi_seq <| wi_false rfl <| wi_exit rfl <| wi_seq <| wi_reg rfl <| ?_
        have hso := out_sorted (n := p.length) (f := pb p) (ks := ks) (sn := sn) (fun x => by rw [hks, show t = 2 ^ p.length from by omega]) hnd hsn hsl (fun i hi => hall1 i (by rw [kv_len]; exact hi))
        rw [← hout] at hso
        have hnb := cutsF_nb (f := pb p) hp12
        have hole : out.length ≤ 4096 := by have h9 := congrArg List.length hso; rw [sort_len] at h9; omega
        have hone : out ≠ [] := fun e => cutsF_ne p.length (pb p) (by rw [← hso, e]; simp)
        refine lx_move (v) rfl rfl <| lx_call [v] rfl rfl Try.call82 rfl (lsort_spec hh2 h.size v out ho1 hx0_5.size hone (by omega)) (fun _ _ _ => trivial) ?_
        rintro _ h8 ⟨rfl, ho3, hx4⟩
        have hmp8 := hmp5.nc (Nc.of_chg hx4 ho1)
        have hmp9 := hmp6.nc (Nc.of_chg hx4 ho1)
        have hx0_7 := hx0_5.trans (ho1.ext hx4 hx0_5.size)
        refine lx_nil <| wi_seq <| wi_reg rfl <| ?_
        skip
        rw [hso] at ho3
        refine lx_assign (.slice none 0 0) rfl rfl <| lx_nil <| wi_seq <| wi_seq <| wi_reg rfl <| lx_move (vp) rfl rfl <| lx_len rfl Try.underlying29 hr_vp rfl <| lx_move (.int .i64 0) rfl rfl <| lx_nil <| wi_block <| ?_
        refine wi_loop (σ := Nat × Value × (List Int)) (rngB 55 71 [12, 13, 14, 15]) (fun (ss : Nat × Value × (List Int)) => [(55, .int .i64 ((ss.1 : Nat) : Int)), (12, ss.2.1)]) (fun (ss : Nat × Value × (List Int)) (hh : Heap) => OwE encI hh h.size 3 ss.2.1 ss.2.2 ∧ OwE encI hh h.size 3 v (cutsF p.length (pb p)) ∧ Ext h.size h hh ∧ Dj ss.2.1 v ∧ (ss.1 ≤ p.length) ∧ (ss.2.2 = placesF p.length (pb p) ss.1)) (fun (ss : Nat × Value × (List Int)) => p.length - ss.1) (0, .slice none 0 0, []) ⟨rfl, rfl, trivial⟩ ⟨?_, ?_, hx0_7, (dj_nil_l _), ?_, ?_⟩ ?_
        · first | exact (owE_nil encI _ h.size 3) | (simpa using (owE_nil encI _ h.size 3))
        · first | exact ho3 | (simpa using ho3)
        · try dsimp only
          omega
        · try dsimp only
          first | done | rfl
        rintro g3 ⟨x, w, cs⟩ hh3 ⟨ho4, ho5, hx0_8, hdj1, hx, hcs⟩ IH3
        dsimp only at *
        have hcl : cs.length = x := by rw [hcs]; exact placesF_len _ _ _
        refine wi_seq <| wi_reg rfl <| lx_lssS rfl rfl rfl (fun c3 => ?_) (fun c3 => ?_)
        · refine lx_nil <| wi_seq <| wi_true rfl <| wi_skip <| wi_seq <| wi_block <| wi_seq <| wi_reg rfl <| lx_move (.int .i64 ((x : Nat) : Int)) rfl rfl <| lx_assign (.int .i64 ((x : Nat) : Int)) rfl rfl <| lx_nil <| wi_seq <| wi_reg rfl <| lx_move (v) rfl rfl <| lx_move (vp) rfl rfl <| lx_move (.int .i64 ((x : Nat) : Int)) rfl rfl <| lx_call [vp, .int .i64 ((x : Nat) : Int)] rfl rfl Try.call81 rfl (down_spec hh3 vp hs p x (hr_vp.extS hx0_8) (ht_vp.extS hx0_8) (by omega) (by first | with_reducible assumption | omega) (by omega)) (fun _ _ _ => trivial) ?_
          rintro _ h9 ⟨rfl, rfl⟩
          refine lx_call [v, .int .i64 ((dnF p.length (pb p) x : Nat) : Int)] rfl rfl Try.call83 rfl (lfind_spec hh3 h.size v (cutsF p.length (pb p)) (((dnF p.length (pb p) x : Nat) : Int)) ho5 hx0_8.size (cutsF_ne _ _) (by omega) (cutsF_asc _ _)) (fun _ _ _ => trivial) ?_
          rintro _ h10 ⟨rfl, rfl⟩
          refine lx_move (.tuple #[.int .i64 (((cutsF p.length (pb p)).countP (fun y => decide (y < (((dnF p.length (pb p) x : Nat) : Int)))) : Nat) : Int), .bool ((cutsF p.length (pb p)).contains (((dnF p.length (pb p) x : Nat) : Int)))]) rfl rfl <| lx_extract (.int .i64 (((cutsF p.length (pb p)).countP (fun y => decide (y < (((dnF p.length (pb p) x : Nat) : Int)))) : Nat) : Int)) rfl rfl rfl <| lx_extract (.bool ((cutsF p.length (pb p)).contains (((dnF p.length (pb p) x : Nat) : Int)))) rfl rfl rfl <| lx_assign (.int .i64 (((cutsF p.length (pb p)).countP (fun y => decide (y < (((dnF p.length (pb p) x : Nat) : Int)))) : Nat) : Int)) rfl rfl <| lx_assign (.bool ((cutsF p.length (pb p)).contains (((dnF p.length (pb p) x : Nat) : Int)))) rfl rfl <| lx_nil <| wi_reg rfl <| lx_move (w) rfl rfl <| lx_move (.int .i64 (((cutsF p.length (pb p)).countP (fun y => decide (y < (((dnF p.length (pb p) x : Nat) : Int)))) : Nat) : Int)) rfl rfl <| lx_appendL (E := encI) (B := h.size) [(((cutsF p.length (pb p)).countP (fun y => decide (y < (((dnF p.length (pb p) x : Nat) : Int)))) : Nat) : Int)] [.int .i64 (((cutsF p.length (pb p)).countP (fun y => decide (y < (((dnF p.length (pb p) x : Nat) : Int)))) : Nat) : Int)] rfl rfl (fun _ => rfl) rfl eT25 rfl rfl rfl rfl ho4 (fun _ => rfl) (by show cs.length + 1 ≤ _; omega) (by show (cs.length + 1) * 8 ≤ _; omega) hx0_8.size (fun _ _ => trivial) fun u1 v1 h11 ho6 hc3 hg1 => ?_
          have hx0_9 := hx0_8.trans (ho4.ext hc3 hx0_8.size)
          have ho7 := ho5.chg hc3 (Dj.symm hdj1)
          refine lx_assign (v1) rfl rfl <| lx_nil <| wi_inBlock <| wi_reg rfl <| lx_add (((x + 1 : Nat) : Int)) rfl rfl rfl (by omega) (by omega) (by omega) <| lx_move (.int .i64 ((x + 1 : Nat) : Int)) rfl rfl <| lx_nil <| ?_
          -- L4.1
          refine IH3 _ _ (x + 1, v1, cs ++ [(((cutsF p.length (pb p)).countP (fun y => decide (y < (((dnF p.length (pb p) x : Nat) : Int)))) : Nat) : Int)]) (agree_ups rfl agree_self) ⟨rfl, rfl, trivial⟩ ⟨?_, ?_, hx0_9, (Dj.symm (dj_app (Dj.symm hdj1) ho5 hg1)), ?_, ?_⟩ ?_
          · first | exact ho6 | (simpa using ho6)
          · first | exact ho7 | (simpa using ho7)
          · try dsimp only
            omega
          · try dsimp only
            rw [placesF_succ, hcs]
          · first | omega | (dsimp only; omega)
        · refine lx_nil <| wi_seq <| wi_false rfl <| wi_exit rfl <| wi_seq <| wi_reg rfl <| lx_move (v) rfl rfl <| lx_move (v) rfl rfl <| lx_call [v] rfl rfl Try.call77 rfl (inclusion_spec hh3 v (cutsF p.length (pb p)) ho5.rd (by omega) hnb.2) (fun _ _ _ => trivial) ?_
          rintro v2 h12 ⟨_, hs_1, rfl, ho8, hot1, hx5⟩
          have hx0_10 := hx0_8.trans2 hx5 hx0_8.size
          have ho9 := ho5.extS hx5
          have ho10 := ho4.extS hx5
          have ho11 := ho8.base hx0_8.size
          have hot2 := hot1.base hx0_8.size
          have hl_hot2 := hot2.1
          refine lx_move (w) rfl rfl <| lx_assign (v) rfl rfl <| lx_assign (v2) rfl rfl <| lx_assign (w) rfl rfl <| lx_assign (.int .i64 0) rfl rfl <| lx_nil <| ?_
          -- R2
          refine wi_ret ⟨.tuple #[v, v2, w, .int .i64 0], (res_four rfl rfl rfl rfl rfl), ⟨v, v2, w, cutsF p.length (pb p), hs_1, tabF (cutsF p.length (pb p)).length (incF (cutsF p.length (pb p))), cs, ?_, ho9, ho11, hot2, ho10, ?_, hx0_10⟩⟩
          · rw [show chkT p = 0 from by omega]
          · exact .inr ⟨by omega, rfl, rfl, by rw [hcs, show x = p.length from by omega]⟩
      · have hx0_6 := hx0_5.trans (hc2.ext hbb2)
        have ho2 := hc2.owE ho1 (nb_it ho1 hmp6)
        have hmp7 := hmp5.other hc2 hne1
        refine lx_extract (.bool true) rfl rfl rfl <| lx_nil <| wi_seq <| wi_true rfl <| wi_skip <| wi_block <| wi_seq <| wi_reg rfl <| lx_mapEntry rfl rfl hmp7 hit2 hmg1 rfl (fun _ => trivial) <| lx_extract (.int .i64 mk1) rfl rfl rfl <| lx_assign (.int .i64 mk1) rfl rfl <| lx_nil <| wi_reg rfl <| lx_move (v) rfl rfl <| lx_move (.int .i64 mk1) rfl rfl <| lx_appendL (E := encI) (B := h.size) [mk1] [.int .i64 mk1] rfl rfl (fun _ => rfl) rfl eT25 rfl rfl rfl rfl ho2 (fun _ => rfl) (by show out.length + 1 ≤ _; omega) (by show (out.length + 1) * 8 ≤ _; omega) hx0_6.size (fun _ _ => trivial) fun u2 v3 h13 ho12 hc4 hg2 => ?_
        have hmp10 := hmp7.nc (Nc.of_chg hc4 ho2)
        have hmp11 := hit2.nc (Nc.of_chg hc4 ho2)
        have hx0_11 := hx0_6.trans (ho2.ext hc4 hx0_6.size)
        refine lx_assign (v3) rfl rfl <| lx_nil <| wi_inBlock <| ?_
        obtain ⟨hq1, hq2, hq3⟩ := seen_snoc hsn hsl (by rw [kv_len] at hil1; exact hil1) hns1
        -- L2.1
        refine IH2 _ _ (v3, out ++ [mk1], sn ++ [mi1]) (agree_ups rfl agree_self) ⟨rfl, trivial⟩ ⟨?_, ?_, ?_, hx0_11, ?_, ?_, ?_⟩ ?_
        · first | exact ho12 | (simpa using ho12)
        · exact hmp10
        · exact hmp11
        · try dsimp only
          rw [hout, List.map_append]; simp only [List.map_cons, List.map_nil]; rw [kv_get hmg1]
        · try dsimp only
          exact hq1
        · try dsimp only
          exact hq2
        · rw [List.length_append]; show _ - (_ + 1) < _; omega

end Go.Proofs.Ytdokijbdnajhgaa
