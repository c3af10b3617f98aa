/-
  Walks: the closure of pairs.
-/
import Derived.Test.YtdokijbdnajhgaaOB
set_option linter.unusedSimpArgs false
set_option linter.unusedVariables false
namespace Go.Proofs.Ytdokijbdnajhgaa
open Go Go.X

set_option maxRecDepth 10000 in
theorem oclosure_spec (h : Heap) (n : Int) (vl : Value) (ls : List (Int × Int)) (hr_vl : RdE encP h vl ls) (hp1 : ls.length ≤ 4611686018427387904) : Fx Try.prog 63 [.int .i64 n, vl] h (fun v h' => ∃ (s : Value) (hs : List Hdr) (p : List (List Bool)), v = .tuple #[s, .int .i64 (closE n ls)] ∧ OwE encHd h' h.size 70 s hs ∧ OT encB h' h.size 4 hs p ∧ ((closE n ls ≠ 0 ∧ p = []) ∨ (closE n ls = 0 ∧ p = tabF n.toNat (closW n.toNat ls))) ∧ Ext h.size h h') := by
  refine fx_intro (n := 53) [(0, .int .i64 n), (1, vl)] Try.func63 rfl rfl (by simp) ⟨rfl, rfl, trivial⟩ fun g0 => ?_
  refine wi_seq <| wi_reg rfl <| lx_assign (.slice none 0 0) rfl rfl <| lx_assign (.int .i64 0) rfl rfl <| lx_nil <| wi_seq <| wi_seq <| wi_reg rfl <| lx_move (.int .i64 n) rfl rfl <| lx_lssS rfl rfl rfl (fun c1 => ?_) (fun c1 => ?_)
  · refine lx_move (.bool true) rfl rfl <| lx_skip rfl <| lx_skip rfl <| lx_pick true (.bool true) rfl rfl rfl <| lx_nil <| wi_true rfl <| wi_seq <| wi_reg rfl <| lx_assign (.slice none 0 0) rfl rfl <| lx_assign (.int .i64 1) rfl rfl <| lx_nil <| ?_
    -- R1
    refine wi_ret ⟨.tuple #[.slice none 0 0, .int .i64 1], (res_two rfl rfl rfl), ⟨.slice none 0 0, [], [], ?_, (owE_nil encHd _ h.size 70), (OT.nil encB _ h.size 4), ?_, (Ext.refl _ _)⟩⟩
    · first
      | (rw [closE_size (by omega)]; done)
      | (rw [closE_out (i := i) (by omega) (by omega)]; done)
      | (rw [hce]; have hcc := chkT_cases r_1; first | (rw [hcc.resolve_left (by omega)]; done) | (rw [hcc.resolve_right (by omega)]; done))
    · first
      | exact .inl ⟨by rw [closE_size (by omega)]; decide, rfl⟩
      | exact .inl ⟨by rw [closE_out (i := i) (by omega) (by omega)]; decide, rfl⟩
      | exact .inl ⟨by omega, rfl⟩
      | exact .inr ⟨by omega, by rw [Int.toNat_natCast]; exact hrt⟩
  · refine lx_move (.bool false) rfl rfl <| lx_move (.int .i64 n) rfl rfl <| lx_gtrS rfl rfl rfl (fun c2 => ?_) (fun c2 => ?_)
    · refine lx_pick false (.bool true) rfl rfl rfl <| lx_nil <| wi_true rfl <| wi_seq <| wi_reg rfl <| lx_assign (.slice none 0 0) rfl rfl <| lx_assign (.int .i64 1) rfl rfl <| lx_nil <| ?_
      -- R2
      refine wi_ret ⟨.tuple #[.slice none 0 0, .int .i64 1], (res_two rfl rfl rfl), ⟨.slice none 0 0, [], [], ?_, (owE_nil encHd _ h.size 70), (OT.nil encB _ h.size 4), ?_, (Ext.refl _ _)⟩⟩
      · first
        | (rw [closE_size (by omega)]; done)
        | (rw [closE_out (i := i) (by omega) (by omega)]; done)
        | (rw [hce]; have hcc := chkT_cases r_1; first | (rw [hcc.resolve_left (by omega)]; done) | (rw [hcc.resolve_right (by omega)]; done))
      · first
        | exact .inl ⟨by rw [closE_size (by omega)]; decide, rfl⟩
        | exact .inl ⟨by rw [closE_out (i := i) (by omega) (by omega)]; decide, rfl⟩
        | exact .inl ⟨by omega, rfl⟩
        | exact .inr ⟨by omega, by rw [Int.toNat_natCast]; exact hrt⟩
    · refine lx_pick false (.bool false) rfl rfl rfl <| lx_nil <| wi_false rfl <| wi_skip <| wi_seq <| wi_reg rfl <| ?_
      have hn1 : ¬ (n < 1 ∨ 12 < n) := by omega
      obtain ⟨m, rfl⟩ : ∃ m : Nat, n = ((m : Nat) : Int) := ⟨n.toNat, by omega⟩
      refine lx_move (.int .i64 ((m : Nat) : Int)) rfl rfl <| lx_call [.int .i64 ((m : Nat) : Int)] rfl rfl Try.call115 rfl (obare_spec h m (by omega)) (fun _ _ _ => trivial) ?_
      rintro vp h1 ⟨_, hs, rfl, ho1, hot1, hx1⟩
      have ho2 := ho1.base (Nat.le_refl h.size)
      have hot2 := hot1.base (Nat.le_refl h.size)
      have hl_hot2 := hot2.1
      refine lx_assign (vp) rfl rfl <| lx_nil <| wi_seq <| wi_seq <| wi_reg rfl <| lx_move (vl) rfl rfl <| lx_len rfl Try.underlying22 hr_vl rfl <| lx_move (.int .i64 0) rfl rfl <| lx_nil <| wi_block <| ?_
      refine wi_loop (σ := Nat × (List Hdr) × (List (List Bool))) (rngB 19 47 [4, 5, 8]) (fun (ss : Nat × (List Hdr) × (List (List Bool))) => [(19, .int .i64 ((ss.1 : Nat) : Int))]) (fun (ss : Nat × (List Hdr) × (List (List Bool))) (hh : Heap) => OwE encHd hh h.size 70 vp ss.2.1 ∧ OT encB hh h.size 4 ss.2.1 ss.2.2 ∧ Ext h.size h hh ∧ (ss.1 ≤ ls.length) ∧ (Sq ss.2.2 m) ∧ (∀ j, j < ss.1 → inR m (gt ls j) = true) ∧ (∀ x y, x < m → y < m → pb ss.2.2 x y = pairW ls ss.1 x y)) (fun (ss : Nat × (List Hdr) × (List (List Bool))) => ls.length - ss.1) (0, hs, tabF m (fun x y => decide (x = y))) ⟨rfl, trivial⟩ ⟨?_, ?_, hx1, ?_, ?_, ?_, ?_⟩ ?_
      · first | exact ho2 | (simpa using ho2)
      · first | exact hot2 | (simpa using hot2)
      · try dsimp only
        omega
      · try dsimp only
        exact tabF_sq _ _
      · try dsimp only
        intro j hj; omega
      · try dsimp only
        intro x y hx hy; rw [pb_tabF hx hy, pairW_zero]
      rintro g1 ⟨i, hs, p⟩ hh1 ⟨ho3, hot3, hx0_1, hi, hq, hr, hp⟩ IH1
      dsimp only at *
      have hq1 := hq.1
      have hl_hot3 := hot3.1
      refine wi_seq <| wi_reg rfl <| lx_lssS rfl rfl rfl (fun c3 => ?_) (fun c3 => ?_)
      · refine lx_nil <| wi_seq <| wi_true rfl <| wi_skip <| wi_seq <| wi_block <| wi_seq <| wi_reg rfl <| lx_ix (i := i) rfl eT22 hr_vl rfl rfl (by first | omega | (simp only [List.length_set, List.length_append, List.length_cons, List.length_nil, List.length_replicate, List.length_take, swp_length, exch_length]; omega)) <| lx_ldA (i := i) [.int .i64 ((gt ls i).1), .int .i64 ((gt ls i).2)] rfl rfl wd85 (hr_vl.extS hx0_1) (by first | omega | (simp only [List.length_set, List.length_append, List.length_cons, List.length_nil, List.length_replicate, List.length_take, swp_length, exch_length]; omega)) rfl rfl <| lx_alloc rfl rfl Try.zeroValue85 (fun _ _ _ => trivial) fun bn1 h2 hbn1 hbk1 hx2 hsz1 => ?_
        have hbb1 : h.size ≤ bn1 := by have := hx0_1.size; omega
        have hdj1 : Value.ownBlock vp ≠ some bn1 := by intro e; have := (ho3.lt e).2; omega
        have hnb1 : Nbt hs bn1 := nbt_new hot3 (by omega)
        have hx0_2 := hx0_1.trans2 hx2 hx0_1.size
        have ho4 := ho3.extS hx2
        have hot4 := hot3.extS hx2
        have hbk1 : Blk h2 bn1 #[.int .i64 0, .int .i64 0] 85 := hbk1
        refine lx_stBA (#[.int .i64 ((gt ls i).1), .int .i64 ((gt ls i).2)]) rfl rfl Try.sizeOf85 hbk1 rfl rfl rfl rfl (by simp [Value.oneCell']) (fun _ _ _ _ => trivial) fun h3 hbk2 hc1 => ?_
        have hx0_3 := hx0_2.trans (hc1.ext hbb1)
        have ho5 := hc1.owE ho4 hdj1
        have hot5 := hot4.chgB hc1 hnb1
        refine lx_nil <| wi_seq <| wi_seq <| wi_reg rfl <| lx_ixB (i := 0) (0) rfl Try.underlying85 Try.sizeOf3 rfl rfl (by omega) rfl <| lx_ldB (.int .i64 ((gt ls i).1)) rfl rfl fl3 hbk2 rfl rfl <| lx_ixB (i := 1) (1) rfl Try.underlying85 Try.sizeOf3 rfl rfl (by omega) rfl <| lx_ldB (.int .i64 ((gt ls i).2)) rfl rfl fl3 hbk2 rfl rfl <| lx_min (min ((gt ls i).1) ((gt ls i).2)) rfl rfl rfl (by omega) <| lx_lssS rfl rfl rfl (fun c4 => ?_) (fun c4 => ?_)
        · refine lx_move (.bool true) rfl rfl <| lx_skip rfl <| lx_skip rfl <| lx_skip rfl <| lx_skip rfl <| lx_skip rfl <| lx_skip rfl <| lx_skip rfl <| lx_pick true (.bool true) rfl rfl rfl <| lx_nil <| wi_true rfl <| wi_seq <| wi_reg rfl <| lx_assign (.slice none 0 0) rfl rfl <| lx_assign (.int .i64 1) rfl rfl <| lx_nil <| ?_
          -- R3
          refine wi_ret ⟨.tuple #[.slice none 0 0, .int .i64 1], (res_two rfl rfl rfl), ⟨.slice none 0 0, [], [], ?_, (owE_nil encHd _ h.size 70), (OT.nil encB _ h.size 4), ?_, hx0_3⟩⟩
          · first
            | (rw [closE_size (by omega)]; done)
            | (rw [closE_out (i := i) (by omega) (by omega)]; done)
            | (rw [hce]; have hcc := chkT_cases r_1; first | (rw [hcc.resolve_left (by omega)]; done) | (rw [hcc.resolve_right (by omega)]; done))
          · first
            | exact .inl ⟨by rw [closE_size (by omega)]; decide, rfl⟩
            | exact .inl ⟨by rw [closE_out (i := i) (by omega) (by omega)]; decide, rfl⟩
            | exact .inl ⟨by omega, rfl⟩
            | exact .inr ⟨by omega, by rw [Int.toNat_natCast]; exact hrt⟩
        · refine lx_move (.bool false) rfl rfl <| lx_ixB (i := 0) (0) rfl Try.underlying85 Try.sizeOf3 rfl rfl (by omega) rfl <| lx_ldB (.int .i64 ((gt ls i).1)) rfl rfl fl3 hbk2 rfl rfl <| lx_ixB (i := 1) (1) rfl Try.underlying85 Try.sizeOf3 rfl rfl (by omega) rfl <| lx_ldB (.int .i64 ((gt ls i).2)) rfl rfl fl3 hbk2 rfl rfl <| lx_max (max ((gt ls i).1) ((gt ls i).2)) rfl rfl rfl (by omega) <| lx_move (.int .i64 ((m : Nat) : Int)) rfl rfl <| lx_geqS rfl rfl rfl (fun c5 => ?_) (fun c5 => ?_)
          · refine lx_pick false (.bool true) rfl rfl rfl <| lx_nil <| wi_true rfl <| wi_seq <| wi_reg rfl <| lx_assign (.slice none 0 0) rfl rfl <| lx_assign (.int .i64 1) rfl rfl <| lx_nil <| ?_
            -- R4
            refine wi_ret ⟨.tuple #[.slice none 0 0, .int .i64 1], (res_two rfl rfl rfl), ⟨.slice none 0 0, [], [], ?_, (owE_nil encHd _ h.size 70), (OT.nil encB _ h.size 4), ?_, hx0_3⟩⟩
            · first
              | (rw [closE_size (by omega)]; done)
              | (rw [closE_out (i := i) (by omega) (by omega)]; done)
              | (rw [hce]; have hcc := chkT_cases r_1; first | (rw [hcc.resolve_left (by omega)]; done) | (rw [hcc.resolve_right (by omega)]; done))
            · first
              | exact .inl ⟨by rw [closE_size (by omega)]; decide, rfl⟩
              | exact .inl ⟨by rw [closE_out (i := i) (by omega) (by omega)]; decide, rfl⟩
              | exact .inl ⟨by omega, rfl⟩
              | exact .inr ⟨by omega, by rw [Int.toNat_natCast]; exact hrt⟩
          · refine lx_pick false (.bool false) rfl rfl rfl <| lx_nil <| wi_false rfl <| wi_skip <| wi_draw mo rfl (by decide +kernel) <| ?_
            obtain ⟨a, b, hgc, ha, hb⟩ : ∃ a b : Nat, gt ls i = ((a : Int), (b : Int)) ∧ a < m ∧ b < m := ⟨(gt ls i).1.toNat, (gt ls i).2.toNat, Prod.ext (by show _ = ((_ : Nat) : Int); omega) (by show _ = ((_ : Nat) : Int); omega), by omega, by omega⟩
            refine lx_move (vp) rfl rfl <| lx_ixB (i := 0) (0) rfl Try.underlying85 Try.sizeOf3 rfl rfl (by omega) rfl <| lx_ldB (.int .i64 ((a : Nat) : Int)) rfl rfl fl3 hbk2 (by rw [hgc]; rfl) rfl <| lx_ix (i := a) rfl eT29 ho5.rd rfl rfl (by first | omega | (simp only [List.length_set, List.length_append, List.length_cons, List.length_nil, List.length_replicate, List.length_take, swp_length, exch_length]; omega)) <| lx_ld (i := a) (j := 0) ((gt hs a).v) rfl rfl fl70 ho5.rd (by first | omega | (simp only [List.length_set, List.length_append, List.length_cons, List.length_nil, List.length_replicate, List.length_take, swp_length, exch_length]; omega)) rfl rfl <| lx_ixB (i := 1) (1) rfl Try.underlying85 Try.sizeOf3 rfl rfl (by omega) rfl <| lx_ldB (.int .i64 ((b : Nat) : Int)) rfl rfl fl3 hbk2 (by rw [hgc]; rfl) rfl <| lx_ix (i := b) rfl eT70 (hot5.2.1 a (by first | omega | (simp only [List.length_set, List.length_append, List.length_cons, List.length_nil, List.length_replicate, List.length_take, swp_length, exch_length]; omega))).rd rfl rfl (by rw [hq.2 a (by first | omega | (simp only [List.length_set, List.length_append, List.length_cons, List.length_nil, List.length_replicate, List.length_take, swp_length, exch_length]; omega))]; omega) <| lx_st (i := b) true rfl rfl Try.sizeOf4 (hot5.2.1 a (by first | omega | (simp only [List.length_set, List.length_append, List.length_cons, List.length_nil, List.length_replicate, List.length_take, swp_length, exch_length]; omega))) (by rw [hq.2 a (by first | omega | (simp only [List.length_set, List.length_append, List.length_cons, List.length_nil, List.length_replicate, List.length_take, swp_length, exch_length]; omega))]; omega) rfl rfl (fun _ _ _ _ _ => trivial) fun h4 ho6 hc2 hsz2 => ?_
            have hx0_4 := hx0_3.trans ((hot5.2.1 a (by first | omega | (simp only [List.length_set, List.length_append, List.length_cons, List.length_nil, List.length_replicate, List.length_take, swp_length, exch_length]; omega))).ext hc2 hx0_3.size)
            have ho7 := ho5.chg hc2 (Dj.symm ((djt_ty hot5 ho5 (by decide)) a (by rw [hot5.1]; exact (by first | omega | (simp only [List.length_set, List.length_append, List.length_cons, List.length_nil, List.length_replicate, List.length_take, swp_length, exch_length]; omega)))))
            have hb1 := hbk2.chg hc2 (hnb1 a (by rw [hot5.1]; exact (by first | omega | (simp only [List.length_set, List.length_append, List.length_cons, List.length_nil, List.length_replicate, List.length_take, swp_length, exch_length]; omega))))
            have hot6 := OT.cell hot5 (by first | omega | (simp only [List.length_set, List.length_append, List.length_cons, List.length_nil, List.length_replicate, List.length_take, swp_length, exch_length]; omega)) hc2 ho6
            have hl_hot6 := hot6.1
            refine lx_nil <| wi_inBlock <| wi_reg rfl <| lx_add (((i + 1 : Nat) : Int)) rfl rfl rfl (by omega) (by omega) (by omega) <| lx_move (.int .i64 ((i + 1 : Nat) : Int)) rfl rfl <| lx_nil <| ?_
            -- L0.1
            refine IH1 _ _ (i + 1, hs, p.set a ((gt p a).set b true)) (agree_ups rfl agree_self) ⟨rfl, trivial⟩ ⟨?_, ?_, hx0_4, ?_, ?_, ?_, ?_⟩ ?_
            · first | exact ho7 | (simpa using ho7)
            · first | exact hot6 | (simpa using hot6)
            · try dsimp only
              omega
            · try dsimp only
              exact sq_set hq (by omega)
            · try dsimp only
              intro j hj; by_cases e : j = i
              · subst e; rw [hgc]; exact inR_iff.2 ⟨by show (0 : Int) ≤ (a : Int); omega, by show (0 : Int) ≤ (b : Int); omega, by show (a : Int) < m; omega, by show (b : Int) < m; omega⟩
              · exact hr j (by omega)
            · try dsimp only
              exact pairW_step (by omega) hq ha hb hgc hp
            · first | omega | (dsimp only; omega)
      · refine lx_nil <| wi_seq <| wi_false rfl <| wi_exit rfl <| wi_seq <| wi_seq <| wi_reg rfl <| ?_
        have hpl : p.length = m := hq.1
        refine lx_move (vp) rfl rfl <| lx_call [vp] rfl rfl Try.call116 rfl (oclosed_spec hh1 h.size vp hs p ho3 hot3 hx0_1.size (by omega) (by rw [hpl]; exact hq)) (fun _ _ _ => trivial) ?_
        rintro vp h5 ⟨r_1, rfl, ho8, hot7, hr_1, hx3⟩
        have hx0_5 := hx0_1.trans hx3
        have hl_hot7 := hot7.1
        refine lx_assign (vp) rfl rfl <| lx_nil <| wi_seq <| wi_reg rfl <| ?_
        have hrt : r_1 = tabF m (closW m ls) := by rw [hr_1]; exact clos_tab hq (by omega) hp
        have hce := closE_ok (by omega) (by omega) (fun j hj => hr j (by omega))
        rw [← chkT_tabF (by omega) (by omega), ← hrt] at hce
        have hqr : Sq r_1 m := by rw [hrt]; exact tabF_sq _ _
        refine lx_move (vp) rfl rfl <| lx_call [vp] rfl rfl Try.call62 rfl (ocheck_spec h5 vp hs r_1 ho8.rd hot7.rt (by rw [hqr.1]; omega) (fun i hi => by rw [hqr.2 i (by rw [← hqr.1]; exact hi)]; omega)) (fun _ _ _ => trivial) ?_
        rintro _ h6 ⟨rfl, hx4⟩
        have hx0_6 := hx0_5.trans2 hx4 hx0_5.size
        have ho9 := ho8.extS hx4
        have hot8 := hot7.extS hx4
        refine lx_neqS rfl rfl rfl (fun c6 => ?_) (fun c6 => ?_)
        · refine lx_nil <| wi_true rfl <| wi_seq <| wi_reg rfl <| lx_assign (.slice none 0 0) rfl rfl <| lx_assign (.int .i64 90) rfl rfl <| lx_nil <| ?_
          -- R5
          refine wi_ret ⟨.tuple #[.slice none 0 0, .int .i64 90], (res_two rfl rfl rfl), ⟨.slice none 0 0, [], [], ?_, (owE_nil encHd _ h.size 70), (OT.nil encB _ h.size 4), ?_, hx0_6⟩⟩
          · first
            | (rw [closE_size (by omega)]; done)
            | (rw [closE_out (i := i) (by omega) (by omega)]; done)
            | (rw [hce]; have hcc := chkT_cases r_1; first | (rw [hcc.resolve_left (by omega)]; done) | (rw [hcc.resolve_right (by omega)]; done))
          · first
            | exact .inl ⟨by rw [closE_size (by omega)]; decide, rfl⟩
            | exact .inl ⟨by rw [closE_out (i := i) (by omega) (by omega)]; decide, rfl⟩
            | exact .inl ⟨by omega, rfl⟩
            | exact .inr ⟨by omega, by rw [Int.toNat_natCast]; exact hrt⟩
        · refine lx_nil <| wi_false rfl <| wi_skip <| wi_seq <| wi_reg rfl <| lx_move (vp) rfl rfl <| lx_assign (vp) rfl rfl <| lx_assign (.int .i64 0) rfl rfl <| lx_nil <| ?_
          -- R6
          refine wi_ret ⟨.tuple #[vp, .int .i64 0], (res_two rfl rfl rfl), ⟨vp, hs, r_1, ?_, ho9, hot8, ?_, hx0_6⟩⟩
          · first
            | (rw [closE_size (by omega)]; done)
            | (rw [closE_out (i := i) (by omega) (by omega)]; done)
            | (rw [hce]; have hcc := chkT_cases r_1; first | (rw [hcc.resolve_left (by omega)]; done) | (rw [hcc.resolve_right (by omega)]; done))
          · first
            | exact .inl ⟨by rw [closE_size (by omega)]; decide, rfl⟩
            | exact .inl ⟨by rw [closE_out (i := i) (by omega) (by omega)]; decide, rfl⟩
            | exact .inl ⟨by omega, rfl⟩
            | exact .inr ⟨by omega, by rw [Int.toNat_natCast]; exact hrt⟩

end Go.Proofs.Ytdokijbdnajhgaa
