/-
  Texts in one: OW, XMoe, OX, OY, XLat, XLatS, OZ, PA, PB, XResC, XDist, XLatP, PC.
-/
import Derived.Test.YtdokijbdnajhgaaMCnt3
set_option linter.unusedSimpArgs false
set_option linter.unusedVariables false
namespace Go.Proofs.Ytdokijbdnajhgaa
open Go Go.X

set_option maxRecDepth 10000 in
theorem insC_spec (h : Heap) (B : Nat) (vl : Value) (xs : List Int) (a0 : Nat) (n : Nat) (vp : Value) (hs : List Hdr) (p : List (List Bool)) (b5 : Nat) (b1 : Nat) (hb_b5 : Blk h b5 (#[.func (.func 136) #[] #[.pointer (some ⟨b1, 0, none⟩)]]) 111) (hb_b1 : Blk h b1 (#[vp]) 29) (hr_vp : ∀ h9, Ext B h h9 → RdE encHd h9 vp hs) (ht_vp : ∀ h9, Ext B h h9 → RT encB h9 hs p) (ho_vl : OwE encI h B 3 vl xs) (hB : B ≤ h.size) (hp1 : p.length ≤ 12) (hp2 : Sq p p.length) (hp3 : a0 = 0) (hp4 : n = p.length) (hp5 : PermL n xs) : Fx Try.prog 182 [vl, .int .i64 ((a0 : Nat) : Int), .int .i64 ((n : Nat) : Int), .func (.func 138) #[] #[.pointer (some ⟨b5, 0, none⟩)]] h (fun v h' => ∃ (ys : List Int), v = .tuple #[] ∧ OwE encI h' B 3 vl ys ∧ (PermL n ys) ∧ (RiseK (cntD p.length (pb p)) ys n) ∧ Chg vl h h') := by
  have hl_vp := (ht_vp _ (Ext.refl _ _)).1
  refine fx_intro (n := 53) [(0, vl), (1, .int .i64 ((a0 : Nat) : Int)), (2, .int .i64 ((n : Nat) : Int)), (3, .func (.func 138) #[] #[.pointer (some ⟨b5, 0, none⟩)])] Try.func182 rfl rfl (by simp) ⟨rfl, rfl, rfl, rfl, trivial⟩ fun g0 => ?_
  refine wi_seq <| wi_reg rfl <| lx_move (.int .i64 ((a0 : Nat) : Int)) rfl rfl <| lx_add (((a0 + 1 : Nat) : Int)) rfl rfl rfl (by omega) (by omega) (by omega) <| lx_assign (.int .i64 ((a0 + 1 : Nat) : Int)) rfl rfl <| lx_nil <| wi_block <| ?_
  refine wi_loop (σ := Nat × (List Int)) (rngB 12 53 [8, 9]) (fun (ss : Nat × (List Int)) => [(8, .int .i64 ((ss.1 : Nat) : Int))]) (fun (ss : Nat × (List Int)) (hh : Heap) => OwE encI hh B 3 vl ss.2 ∧ Blk hh b1 #[vp] 29 ∧ Blk hh b5 #[.func (.func 136) #[] #[.pointer (some ⟨b1, 0, none⟩)]] 111 ∧ Ext B h hh ∧ Chg vl h hh ∧ (1 ≤ ss.1 ∧ ss.1 ≤ n + 1) ∧ (PermL n ss.2) ∧ (RiseK (cntD p.length (pb p)) ss.2 ss.1)) (fun (ss : Nat × (List Int)) => n + 1 - ss.1) (a0 + 1, xs) ⟨rfl, trivial⟩ ⟨?_, ?_, ?_, (Ext.refl _ _), (Chg.refl _ _), ?_, ?_, ?_⟩ ?_
  · first | exact ho_vl | (simpa using ho_vl)
  · exact hb_b1
  · exact hb_b5
  · try dsimp only
    omega
  · try dsimp only
    exact hp5
  · try dsimp only
    intro a b h1 h2; omega
  rintro g1 ⟨i, ys⟩ hh1 ⟨ho1, hbk1, hbk2, hx0_1, hcc1, hi, hpi, hri⟩ IH1
  dsimp only at *
  have hyl := hpi.len
  refine wi_seq <| wi_seq <| wi_reg rfl <| lx_move (.int .i64 ((i : Nat) : Int)) rfl rfl <| lx_move (.int .i64 ((n : Nat) : Int)) rfl rfl <| lx_lssS rfl rfl rfl (fun c1 => ?_) (fun c1 => ?_)
  · refine lx_nil <| wi_true rfl <| wi_skip <| wi_seq <| wi_block <| wi_seq <| wi_reg rfl <| lx_move (.int .i64 ((i : Nat) : Int)) rfl rfl <| lx_assign (.int .i64 ((i : Nat) : Int)) rfl rfl <| lx_nil <| wi_block <| ?_
    refine wi_loop (σ := Nat × (List Int)) (rngB 18 53 [9]) (fun (ss : Nat × (List Int)) => [(9, .int .i64 ((ss.1 : Nat) : Int))]) (fun (ss : Nat × (List Int)) (hh : Heap) => OwE encI hh B 3 vl ss.2 ∧ Blk hh b1 #[vp] 29 ∧ Blk hh b5 #[.func (.func 136) #[] #[.pointer (some ⟨b1, 0, none⟩)]] 111 ∧ Ext B h hh ∧ Chg vl h hh ∧ (ss.1 ≤ i) ∧ (PermL n ss.2) ∧ (RiseJ (cntD p.length (pb p)) ss.2 (i + 1) ss.1)) (fun (ss : Nat × (List Int)) => ss.1) (i, ys) ⟨rfl, trivial⟩ ⟨?_, ?_, ?_, hx0_1, hcc1, ?_, ?_, ?_⟩ ?_
    · first | exact ho1 | (simpa using ho1)
    · exact hbk1
    · exact hbk2
    · try dsimp only
      omega
    · try dsimp only
      exact hpi
    · try dsimp only
      exact riseJ_start hri
    rintro g2 ⟨j, ys⟩ hh2 ⟨ho2, hbk3, hbk4, hx0_2, hcc2, hj, hpj, hrj⟩ IH2
    dsimp only at *
    have hyl2 := hpj.len
    refine wi_seq <| wi_seq <| wi_drawS (fun h9 => hh2 = h9) (fun o => match o.dst with | some 26 | some 31 => .free | _ => kindOf o) mo rfl (by decide +kernel) rfl <| lx_move (.int .i64 ((j : Nat) : Int)) rfl rfl <| lx_move (.int .i64 ((a0 : Nat) : Int)) rfl rfl <| lx_gtrS rfl rfl rfl (fun c2 => ?_) (fun c2 => ?_)
    · refine lx_move (.bool true) rfl rfl <| ?_
      obtain ⟨a, hga, hla⟩ := hpj.rng j (by omega)
      obtain ⟨b, hgb, hlb⟩ := hpj.rng (j - 1) (by omega)
      have hca := cntD_le p.length (pb p) a
      have hcb := cntD_le p.length (pb p) b
      have hka : kyF (cntD p.length (pb p)) ys j = cntD p.length (pb p) a := by show cntD p.length (pb p) _ = _; rw [hga, Int.toNat_natCast]
      have hkb : kyF (cntD p.length (pb p)) ys (j - 1) = cntD p.length (pb p) b := by show cntD p.length (pb p) _ = _; rw [hgb, Int.toNat_natCast]
      refine lx_move (.func (.func 138) #[] #[.pointer (some ⟨b5, 0, none⟩)]) rfl rfl <| lx_move (vl) rfl rfl <| lx_move (.int .i64 ((j : Nat) : Int)) rfl rfl <| lx_ix (i := j) rfl eT25 ho2.rd rfl rfl (by omega) <| lx_ldF (i := j) (j := 0) (.int .i64 ((a : Nat) : Int)) rfl fl3 (fun _ e9 => e9 ▸ ho2.rd) (by omega) (by show some (Value.int .i64 (gt ys j)) = _; rw [hga]) rfl <| lx_move (vl) rfl rfl <| lx_move (.int .i64 ((j : Nat) : Int)) rfl rfl <| lx_sub (((j - 1 : Nat) : Int)) rfl rfl rfl (by omega) (by omega) (by omega) <| lx_ix (i := j - 1) rfl eT25 ho2.rd rfl rfl (by omega) <| lx_ldF (i := j - 1) (j := 0) (.int .i64 ((b : Nat) : Int)) rfl fl3 (fun _ e9 => e9 ▸ ho2.rd) (by omega) (by show some (Value.int .i64 (gt ys (j - 1))) = _; rw [hgb]) rfl <| lx_callV [] [.pointer (some ⟨b5, 0, none⟩)] [.int .i64 ((a : Nat) : Int), .int .i64 ((b : Nat) : Int)] rfl rfl Try.call138 rfl rfl (cmp_up_spec hh2 a b vp hs p b5 b1 hbk4 hbk3 (hr_vp _ hx0_2) (ht_vp _ hx0_2) (by omega) (by first | with_reducible assumption | omega) (by omega) (by omega)) (by rintro _ _ ⟨_, e⟩; exact e) ?_
      rintro _ h1 ⟨rfl, rfl⟩
      refine lx_lssS rfl rfl rfl (fun c3 => ?_) (fun c3 => ?_)
      · refine lx_pick true (.bool true) rfl rfl rfl <| lx_nil <| wi_true rfl <| wi_skip <| wi_seq <| wi_block <| wi_draw mo rfl (by decide +kernel) <| lx_move (vl) rfl rfl <| lx_move (.int .i64 ((j : Nat) : Int)) rfl rfl <| lx_move (vl) rfl rfl <| lx_move (.int .i64 ((j : Nat) : Int)) rfl rfl <| lx_sub (((j - 1 : Nat) : Int)) rfl rfl rfl (by omega) (by omega) (by omega) <| lx_move (vl) rfl rfl <| lx_move (.int .i64 ((j : Nat) : Int)) rfl rfl <| lx_sub (((j - 1 : Nat) : Int)) rfl rfl rfl (by omega) (by omega) (by omega) <| lx_ix (i := j - 1) rfl eT25 ho2.rd rfl rfl (by omega) <| lx_ld (i := j - 1) (j := 0) (.int .i64 (gt ys (j - 1))) rfl rfl fl3 ho2.rd (by omega) rfl rfl <| lx_move (vl) rfl rfl <| lx_move (.int .i64 ((j : Nat) : Int)) rfl rfl <| lx_ix (i := j) rfl eT25 ho2.rd rfl rfl (by omega) <| lx_ld (i := j) (j := 0) (.int .i64 (gt ys j)) rfl rfl fl3 ho2.rd (by omega) rfl rfl <| lx_ix (i := j) rfl eT25 ho2.rd rfl rfl (by omega) <| lx_st (i := j) (gt ys (j - 1)) rfl rfl Try.sizeOf3 ho2 (by omega) rfl rfl (fun _ _ _ _ _ => trivial) fun h2 ho3 hc1 hsz1 => ?_
        have hx0_3 := hx0_2.trans (ho2.ext hc1 (Nat.le_trans hB hx0_2.size))
        have hcc3 := hcc2.trans hc1
        have hb1 := hbk4.chg hc1 (nb_ty ho2 hbk4 (by decide))
        have hb2 := hbk3.chg hc1 (nb_ty ho2 hbk3 (by decide))
        refine lx_ix (i := j - 1) rfl eT25 ho3.rd rfl rfl (by first | omega | (simp only [List.length_set, List.length_append, List.length_cons, List.length_nil, List.length_replicate, List.length_take, swp_length, exch_length]; omega)) <| lx_st (i := j - 1) (gt ys j) rfl rfl Try.sizeOf3 ho3 (by first | omega | (simp only [List.length_set, List.length_append, List.length_cons, List.length_nil, List.length_replicate, List.length_take, swp_length, exch_length]; omega)) rfl rfl (fun _ _ _ _ _ => trivial) fun h3 ho4 hc2 hsz2 => ?_
        have hx0_4 := hx0_3.trans (ho3.ext hc2 (Nat.le_trans hB hx0_3.size))
        have hcc4 := hcc3.trans hc2
        have hb3 := hb1.chg hc2 (nb_ty ho3 hb1 (by decide))
        have hb4 := hb2.chg hc2 (nb_ty ho3 hb2 (by decide))
        refine lx_nil <| wi_inBlock <| wi_reg rfl <| lx_move (.int .i64 ((j : Nat) : Int)) rfl rfl <| lx_sub (((j - 1 : Nat) : Int)) rfl rfl rfl (by omega) (by omega) (by omega) <| lx_assign (.int .i64 ((j - 1 : Nat) : Int)) rfl rfl <| lx_nil <| ?_
        -- L2.1
        refine IH2 _ _ (j - 1, (ys.set j (gt ys (j - 1))).set (j - 1) (gt ys j)) (agree_ups rfl agree_self) ⟨rfl, trivial⟩ ⟨?_, ?_, ?_, hx0_4, hcc4, ?_, ?_, ?_⟩ ?_
        · first | exact ho4 | (simpa using ho4)
        · exact hb4
        · exact hb3
        · try dsimp only
          omega
        · try dsimp only
          exact hpj.swap (by omega) (by omega)
        · try dsimp only
          exact riseJ_step hpj (by omega) hj hrj (by omega) (by rw [hka, hkb]; omega)
        · first | omega | (dsimp only; omega)
      · refine lx_pick true (.bool false) rfl rfl rfl <| lx_nil <| wi_false rfl <| wi_exit rfl <| wi_inBlock <| wi_reg rfl <| lx_move (.int .i64 ((i : Nat) : Int)) rfl rfl <| lx_add (((i + 1 : Nat) : Int)) rfl rfl rfl (by omega) (by omega) (by omega) <| lx_assign (.int .i64 ((i + 1 : Nat) : Int)) rfl rfl <| lx_nil <| ?_
        -- L0.1
        refine IH1 _ _ (i + 1, ys) (agree_ups rfl (agree_mix (rngB_sub (by decide) (by decide) rfl) (agree_ups rfl agree_self))) ⟨rfl, trivial⟩ ⟨?_, ?_, ?_, hx0_2, hcc2, ?_, ?_, ?_⟩ ?_
        · first | exact ho2 | (simpa using ho2)
        · exact hbk3
        · exact hbk4
        · try dsimp only
          omega
        · try dsimp only
          exact hpj
        · try dsimp only
          first
          | exact riseJ_stop hrj (.inl (by omega))
          | exact riseJ_stop hrj (.inr (by rw [hka, hkb]; omega))
        · first | omega | (dsimp only; omega)
    · refine lx_move (.bool false) rfl rfl <| ?_
      refine lx_skip rfl <| lx_skip rfl <| lx_skip rfl <| lx_skip rfl <| lx_skip rfl <| lx_skip rfl <| lx_skip rfl <| lx_skip rfl <| lx_skip rfl <| lx_skip rfl <| lx_skip rfl <| lx_skip rfl <| lx_pick false (.bool false) rfl rfl rfl <| lx_nil <| wi_false rfl <| wi_exit rfl <| wi_inBlock <| wi_reg rfl <| lx_move (.int .i64 ((i : Nat) : Int)) rfl rfl <| lx_add (((i + 1 : Nat) : Int)) rfl rfl rfl (by omega) (by omega) (by omega) <| lx_assign (.int .i64 ((i + 1 : Nat) : Int)) rfl rfl <| lx_nil <| ?_
      -- L0.2
      refine IH1 _ _ (i + 1, ys) (agree_ups rfl (agree_mix (rngB_sub (by decide) (by decide) rfl) (agree_ups rfl agree_self))) ⟨rfl, trivial⟩ ⟨?_, ?_, ?_, hx0_2, hcc2, ?_, ?_, ?_⟩ ?_
      · first | exact ho2 | (simpa using ho2)
      · exact hbk3
      · exact hbk4
      · try dsimp only
        omega
      · try dsimp only
        exact hpj
      · try dsimp only
        first
        | exact riseJ_stop hrj (.inl (by omega))
        | exact riseJ_stop hrj (.inr (by rw [hka, hkb]; omega))
      · first | omega | (dsimp only; omega)
  · refine lx_nil <| wi_false rfl <| wi_exit rfl <| ?_
    -- R1
    refine wi_end ⟨.tuple #[], (res_none rfl), ⟨ys, rfl, ho1, ?_, ?_, hcc1⟩⟩
    · exact hpi
    · exact fun a b h1 h2 => hri a b h1 (by omega)

set_option maxRecDepth 10000 in
theorem stabC_spec (h : Heap) (B : Nat) (vl : Value) (xs : List Int) (n : Nat) (vp : Value) (hs : List Hdr) (p : List (List Bool)) (b5 : Nat) (b1 : Nat) (hb_b5 : Blk h b5 (#[.func (.func 136) #[] #[.pointer (some ⟨b1, 0, none⟩)]]) 111) (hb_b1 : Blk h b1 (#[vp]) 29) (hr_vp : ∀ h9, Ext B h h9 → RdE encHd h9 vp hs) (ht_vp : ∀ h9, Ext B h h9 → RT encB h9 hs p) (ho_vl : OwE encI h B 3 vl xs) (hB : B ≤ h.size) (hp1 : p.length ≤ 12) (hp2 : Sq p p.length) (hp3 : n = p.length) (hp4 : PermL n xs) : Fx Try.prog 169 [vl, .int .i64 ((n : Nat) : Int), .func (.func 138) #[] #[.pointer (some ⟨b5, 0, none⟩)]] h (fun v h' => ∃ (ys : List Int), v = .tuple #[] ∧ OwE encI h' B 3 vl ys ∧ (PermL n ys) ∧ (RiseK (cntD p.length (pb p)) ys n) ∧ Chg vl h h') := by
  have hl_vp := (ht_vp _ (Ext.refl _ _)).1
  refine fx_intro (n := 63) [(0, vl), (1, .int .i64 ((n : Nat) : Int)), (2, .func (.func 138) #[] #[.pointer (some ⟨b5, 0, none⟩)])] Try.func169 rfl rfl (by simp) ⟨rfl, rfl, rfl, trivial⟩ fun g0 => ?_
  refine wi_seq <| wi_reg rfl <| lx_assign (.int .i64 20) rfl rfl <| lx_nil <| wi_seq <| wi_reg rfl <| lx_move (.int .i64 20) rfl rfl <| lx_assign (.int .i64 0) rfl rfl <| lx_assign (.int .i64 20) rfl rfl <| lx_nil <| wi_seq <| wi_block <| ?_
  refine wi_loop (σ := Unit) (rngB 11 23 [7, 8]) (fun (_ : Unit) => [(8, .int .i64 20), (7, .int .i64 0), (6, .int .i64 20)]) (fun (_ : Unit) (hh : Heap) => h = hh) (fun (_ : Unit) => 0) () ⟨rfl, rfl, rfl, trivial⟩ rfl ?_
  rintro g1 _ hh1 rfl IH1
  refine wi_seq <| wi_seq <| wi_reg rfl <| lx_move (.int .i64 20) rfl rfl <| lx_move (.int .i64 ((n : Nat) : Int)) rfl rfl <| lx_leqF rfl rfl rfl (by omega) <| lx_nil <| wi_false rfl <| wi_exit rfl <| wi_seq <| wi_reg rfl <| lx_move (vl) rfl rfl <| lx_move (.int .i64 0) rfl rfl <| lx_move (.int .i64 ((n : Nat) : Int)) rfl rfl <| lx_move (.func (.func 138) #[] #[.pointer (some ⟨b5, 0, none⟩)]) rfl rfl <| lx_call [vl, .int .i64 0, .int .i64 ((n : Nat) : Int), .func (.func 138) #[] #[.pointer (some ⟨b5, 0, none⟩)]] rfl rfl Try.call182 rfl (insC_spec h B vl xs 0 n vp hs p b5 b1 hb_b5 hb_b1 (fun h9 e9 => hr_vp _ (e9)) (fun h9 e9 => ht_vp _ (e9)) ho_vl hB (by omega) (by first | with_reducible assumption | omega) rfl (by omega) hp4) (fun _ _ _ => trivial) ?_
  rintro _ h1 ⟨ys_1, rfl, ho1, hpe_1, hri_1, hx1⟩
  have hx0_1 := ho_vl.ext hx1 hB
  have hcc1 := hx1
  have hb1 := hb_b5.chg hx1 (nb_ty ho_vl hb_b5 (by decide))
  have hb2 := hb_b1.chg hx1 (nb_ty ho_vl hb_b1 (by decide))
  refine lx_nil <| wi_block <| ?_
  refine wi_loop (σ := (List Int)) (rngB 28 63 [6, 7, 8, 9]) (fun (ys : List Int) => [(6, .int .i64 20)]) (fun (ys : List Int) (hh : Heap) => OwE encI hh B 3 vl ys ∧ Ext B h hh ∧ Chg vl h hh ∧ (PermL n ys) ∧ (RiseK (cntD p.length (pb p)) ys n)) (fun (ys : List Int) => 0) (ys_1) ⟨rfl, trivial⟩ ⟨?_, hx0_1, hcc1, ?_, ?_⟩ ?_
  · first | exact ho1 | (simpa using ho1)
  · try dsimp only
    exact hpe_1
  · try dsimp only
    exact hri_1
  rintro g2 ys hh2 ⟨ho2, hx0_2, hcc2, hpe, hri⟩ IH2
  refine wi_seq <| wi_seq <| wi_reg rfl <| lx_move (.int .i64 20) rfl rfl <| lx_move (.int .i64 ((n : Nat) : Int)) rfl rfl <| lx_lssF rfl rfl rfl (by omega) <| lx_nil <| wi_false rfl <| wi_exit rfl <| ?_
  -- R1
  refine wi_end ⟨.tuple #[], (res_none rfl), ⟨ys, rfl, ho2, ?_, ?_, hcc2⟩⟩
  · exact hpe
  · exact hri

set_option maxRecDepth 10000 in
theorem sortC_spec (h : Heap) (B : Nat) (vl : Value) (xs : List Int) (vp : Value) (hs : List Hdr) (p : List (List Bool)) (b5 : Nat) (b1 : Nat) (hb_b5 : Blk h b5 (#[.func (.func 136) #[] #[.pointer (some ⟨b1, 0, none⟩)]]) 111) (hb_b1 : Blk h b1 (#[vp]) 29) (hr_vp : ∀ h9, Ext B h h9 → RdE encHd h9 vp hs) (ht_vp : ∀ h9, Ext B h h9 → RT encB h9 hs p) (ho_vl : OwE encI h B 3 vl xs) (hB : B ≤ h.size) (hp1 : p.length ≤ 12) (hp2 : Sq p p.length) (hp3 : PermL p.length xs) : Fx Try.prog 137 [vl, .func (.func 138) #[] #[.pointer (some ⟨b5, 0, none⟩)]] h (fun v h' => ∃ (ys : List Int), v = .tuple #[] ∧ OwE encI h' B 3 vl ys ∧ (PermL p.length ys) ∧ (RiseK (cntD p.length (pb p)) ys p.length) ∧ Chg vl h h') := by
  have hl_vp := (ht_vp _ (Ext.refl _ _)).1
  refine fx_intro (n := 9) [(0, vl), (1, .func (.func 138) #[] #[.pointer (some ⟨b5, 0, none⟩)])] Try.func137 rfl rfl (by simp) ⟨rfl, rfl, trivial⟩ fun g0 => ?_
  refine wi_reg rfl <| ?_
  have hxl := hp3.len
  refine lx_move (vl) rfl rfl <| lx_move (vl) rfl rfl <| lx_len rfl Try.underlying25 ho_vl.rd rfl <| lx_move (.func (.func 138) #[] #[.pointer (some ⟨b5, 0, none⟩)]) rfl rfl <| lx_call [vl, .int .i64 ((xs.length : Nat) : Int), .func (.func 138) #[] #[.pointer (some ⟨b5, 0, none⟩)]] rfl rfl Try.call169 rfl (stabC_spec h B vl xs xs.length vp hs p b5 b1 hb_b5 hb_b1 (fun h9 e9 => hr_vp _ (e9)) (fun h9 e9 => ht_vp _ (e9)) ho_vl hB (by omega) (by first | with_reducible assumption | omega) (by omega) (by rw [hxl]; exact hp3)) (fun _ _ _ => trivial) ?_
  rintro _ h1 ⟨ys_1, rfl, ho1, hpe_1, hri_1, hx1⟩
  have hx0_1 := ho_vl.ext hx1 hB
  have hcc1 := hx1
  have hb1 := hb_b5.chg hx1 (nb_ty ho_vl hb_b5 (by decide))
  have hb2 := hb_b1.chg hx1 (nb_ty ho_vl hb_b1 (by decide))
  refine lx_nil <| ?_
  -- R1
  refine wi_end ⟨.tuple #[], (res_none rfl), ⟨ys_1, rfl, ho1, ?_, ?_, hcc1⟩⟩
  · rw [hxl] at hpe_1; exact hpe_1
  · rw [hxl] at hri_1; exact hri_1

set_option maxRecDepth 10000 in
theorem values_spec (h : Heap) (vl : Value) (xs : List Int) (hr_vl : RdE encI h vl xs) : Fx Try.prog 139 [vl] h (fun v h' => ∃ (bl : Nat), v = .func (.func 170) #[] #[.pointer (some ⟨bl, 0, none⟩)] ∧ h.size ≤ bl ∧ Blk h' bl (#[vl]) 25 ∧ Ext h.size h h') := by
  refine fx_intro (n := 4) [(0, vl)] Try.func139 rfl rfl (by simp) ⟨rfl, trivial⟩ fun g0 => ?_
  refine wi_seq <| wi_reg rfl <| lx_box #[vl] rfl rfl (sl_cells hr_vl) (fun _ _ _ => trivial) fun bn1 h1 hbn1 hbk1 hx1 hsz1 => ?_
  have hbb1 : h.size ≤ bn1 := by have := (Nat.le_refl h.size); omega
  refine lx_assign (.nilFunc) rfl rfl <| lx_nil <| wi_seq <| wi_reg rfl <| lx_makeFunc [] [.pointer (some ⟨bn1, 0, none⟩)] rfl rfl rfl <| lx_assign (.func (.func 170) #[] #[.pointer (some ⟨bn1, 0, none⟩)]) rfl rfl <| lx_nil <| ?_
  -- R1
  refine wi_ret ⟨.func (.func 170) #[] #[.pointer (some ⟨bn1, 0, none⟩)], (res_one rfl rfl), ⟨bn1, rfl, ?_, hbk1, hx1⟩⟩
  · omega

set_option maxRecDepth 10000 in
theorem upward_spec (h : Heap) (vp : Value) (hs : List Hdr) (p : List (List Bool)) (hr_vp : RdE encHd h vp hs) (ht_vp : RT encB h hs p) (hp1 : p.length ≤ 12) (hp2 : isT p = true) : Fx Try.prog 105 [vp] h (fun v h' => ∃ (bl : Nat) (vl : Value) (xs : List Int), v = .func (.func 170) #[] #[.pointer (some ⟨bl, 0, none⟩)] ∧ h.size ≤ bl ∧ Blk h' bl (#[vl]) 25 ∧ OwE encI h' h.size 3 vl xs ∧ (LinL p.length (pb p) xs) ∧ Ext h.size h h') := by
  have hl_vp := ht_vp.1
  refine fx_intro (n := 22) [(0, vp)] Try.func105 rfl rfl (by simp) ⟨rfl, trivial⟩ fun g0 => ?_
  refine wi_seq <| wi_reg rfl <| lx_box #[vp] rfl rfl (sl_cells hr_vp) (fun _ _ _ => trivial) fun bn1 h1 hbn1 hbk1 hx1 hsz1 => ?_
  have hbb1 : h.size ≤ bn1 := by have := (Nat.le_refl h.size); omega
  refine lx_assign (.nilFunc) rfl rfl <| lx_nil <| wi_seq <| wi_reg rfl <| ?_
  have hsq2 := isT_sq hp2
  refine lx_assign (.slice none 0 0) rfl rfl <| lx_nil <| wi_seq <| wi_seq <| wi_reg rfl <| lx_ldB (vp) rfl rfl fl29 hbk1 rfl rfl <| lx_len rfl Try.underlying29 hr_vp rfl <| lx_move (.int .i64 0) rfl rfl <| lx_nil <| wi_block <| ?_
  refine wi_loop (σ := Nat × Value × (List Int)) (rngB 8 16 [3, 4]) (fun (ss : Nat × Value × (List Int)) => [(8, .int .i64 ((ss.1 : Nat) : Int)), (3, ss.2.1)]) (fun (ss : Nat × Value × (List Int)) (hh : Heap) => OwE encI hh h.size 3 ss.2.1 ss.2.2 ∧ Blk hh bn1 #[vp] 29 ∧ Ext h.size h hh ∧ (ss.1 ≤ p.length) ∧ (ss.2.2.length = ss.1) ∧ (∀ i, i < ss.1 → gt ss.2.2 i = ((i : Nat) : Int))) (fun (ss : Nat × Value × (List Int)) => p.length - ss.1) (0, .slice none 0 0, []) ⟨rfl, rfl, trivial⟩ ⟨?_, ?_, hx1, ?_, ?_, ?_⟩ ?_
  · first | exact (owE_nil encI _ h.size 3) | (simpa using (owE_nil encI _ h.size 3))
  · exact hbk1
  · try dsimp only
    omega
  · try dsimp only
    first | done | rfl
  · try dsimp only
    intro i hi; omega
  rintro g1 ⟨x, v, xs⟩ hh1 ⟨ho1, hbk2, hx0_1, hx, hxl, hxg⟩ IH1
  dsimp only at *
  refine wi_seq <| wi_reg rfl <| lx_lssS rfl rfl rfl (fun c1 => ?_) (fun c1 => ?_)
  · refine lx_nil <| wi_seq <| wi_true rfl <| wi_skip <| wi_seq <| wi_block <| wi_seq <| wi_reg rfl <| lx_move (.int .i64 ((x : Nat) : Int)) rfl rfl <| lx_assign (.int .i64 ((x : Nat) : Int)) rfl rfl <| lx_nil <| wi_reg rfl <| lx_move (v) rfl rfl <| lx_move (.int .i64 ((x : Nat) : Int)) rfl rfl <| lx_appendL (E := encI) (B := h.size) [((x : Nat) : Int)] [.int .i64 ((x : Nat) : Int)] rfl rfl (fun _ => rfl) rfl eT25 rfl rfl rfl rfl ho1 (fun _ => rfl) (by show xs.length + 1 ≤ _; omega) (by show (xs.length + 1) * 8 ≤ _; omega) hx0_1.size (fun _ _ => trivial) fun u1 v1 h2 ho2 hc1 hg1 => ?_
    have hx0_2 := hx0_1.trans (ho1.ext hc1 hx0_1.size)
    have hb1 := hbk2.chg hc1 (nb_ty ho1 hbk2 (by decide))
    refine lx_assign (v1) rfl rfl <| lx_nil <| wi_inBlock <| wi_reg rfl <| lx_add (((x + 1 : Nat) : Int)) rfl rfl rfl (by omega) (by omega) (by omega) <| lx_move (.int .i64 ((x + 1 : Nat) : Int)) rfl rfl <| lx_nil <| ?_
    -- L0.1
    refine IH1 _ _ (x + 1, v1, xs ++ [((x : Nat) : Int)]) (agree_ups rfl agree_self) ⟨rfl, rfl, trivial⟩ ⟨?_, ?_, hx0_2, ?_, ?_, ?_⟩ ?_
    · first | exact ho2 | (simpa using ho2)
    · exact hb1
    · try dsimp only
      omega
    · try dsimp only
      rw [List.length_append, hxl]; rfl
    · try dsimp only
      intro i hi
      by_cases e : i < x
      · rw [gt_append_left (by omega)]; exact hxg i e
      · rw [show i = xs.length from by omega, gt_append_right, hxl]
    · first | omega | (dsimp only; omega)
  · refine lx_nil <| wi_seq <| wi_false rfl <| wi_exit rfl <| wi_seq <| wi_reg rfl <| lx_makeFunc [] [.pointer (some ⟨bn1, 0, none⟩)] rfl rfl rfl <| lx_alloc rfl rfl Try.zeroValue111 (fun _ _ _ => trivial) fun bn2 h3 hbn2 hbk3 hx2 hsz2 => ?_
    have hbb2 : h.size ≤ bn2 := by have := hx0_1.size; omega
    have hne1 : bn2 ≠ bn1 := by have := hbk2.lt; omega
    have hdj1 : Value.ownBlock v ≠ some bn2 := by intro e; have := (ho1.lt e).2; omega
    have hx0_3 := hx0_1.trans2 hx2 hx0_1.size
    have ho3 := ho1.extS hx2
    have hb2 := hbk2.extS hx2
    have hbk3 : Blk h3 bn2 #[.nilFunc] 111 := hbk3
    refine lx_stB (.func (.func 136) #[] #[.pointer (some ⟨bn1, 0, none⟩)]) rfl rfl Try.sizeOf111 hbk3 (by simp) rfl rfl rfl rfl (fun _ _ _ _ => trivial) fun h4 hbk4 hc2 => ?_
    have hx0_4 := hx0_3.trans (hc2.ext hbb2)
    have ho4 := hc2.owE ho3 hdj1
    have hb3 := hc2.blk hb2 (Ne.symm hne1)
    have hbk4 : Blk h4 bn2 #[.func (.func 136) #[] #[.pointer (some ⟨bn1, 0, none⟩)]] 111 := hbk4
    refine lx_nil <| wi_seq <| wi_reg rfl <| ?_
    have hpi := permL_iota p.length xs (by omega) (fun i hi => hxg i (by omega))
    refine lx_move (v) rfl rfl <| lx_makeFunc [] [.pointer (some ⟨bn2, 0, none⟩)] rfl rfl rfl <| lx_call [v, .func (.func 138) #[] #[.pointer (some ⟨bn2, 0, none⟩)]] rfl rfl Try.call137 rfl (sortC_spec h4 h.size v xs vp hs p bn2 bn1 hbk4 hb3 (fun h9 e9 => hr_vp.extS (hx0_4.trans e9)) (fun h9 e9 => ht_vp.extS (hx0_4.trans e9)) ho4 hx0_4.size (by omega) (by first | with_reducible assumption | omega) hpi) (fun _ _ _ => trivial) ?_
    rintro _ h5 ⟨ys, rfl, ho5, hpe, hri, hx3⟩
    have hx0_5 := hx0_4.trans (ho4.ext hx3 hx0_4.size)
    have hb4 := hb3.chg hx3 (nb_ty ho4 hb3 (by decide))
    have hb5 := hbk4.chg hx3 hdj1
    refine lx_nil <| wi_seq <| wi_reg rfl <| lx_move (v) rfl rfl <| lx_call [v] rfl rfl Try.call139 rfl (values_spec h5 v ys ho5.rd) (fun _ _ _ => trivial) ?_
    rintro _ h6 ⟨bl_1, rfl, ho6, hot1, hx4⟩
    have hx0_6 := hx0_5.trans2 hx4 hx0_5.size
    have ho7 := ho5.extS hx4
    have hb6 := hb4.extS hx4
    have hb7 := hb5.extS hx4
    have hbx1 : h.size ≤ bl_1 := Nat.le_trans hx0_5.size ho6
    refine lx_assign (.func (.func 170) #[] #[.pointer (some ⟨bl_1, 0, none⟩)]) rfl rfl <| lx_nil <| ?_
    -- R1
    refine wi_ret ⟨.func (.func 170) #[] #[.pointer (some ⟨bl_1, 0, none⟩)], (res_one rfl rfl), ⟨bl_1, v, ys, rfl, ?_, hot1, ho7, ?_, hx0_6⟩⟩
    · omega
    · exact linL (isT_o hp2) hpe hri

end Go.Proofs.Ytdokijbdnajhgaa
namespace Go.X
def mapR (n : Nat) (g : Nat → Int) : List Int := (List.range n).map g
theorem mapR_len (n : Nat) (g : Nat → Int) : (mapR n g).length = n := by simp [mapR]
theorem gt_mapR {n i : Nat} {g : Nat → Int} (h : i < n) : gt (mapR n g) i = g i := by rw [gt_eq (by rw [mapR_len]; exact h)]; simp [mapR]
theorem mapR_ext {n : Nat} {g : Nat → Int} {r : List Int} (hl : r.length = n) (h : ∀ j, j < n → gt r j = g j) : r = mapR n g :=
  gt_ext (by rw [hl, mapR_len]) fun j hj => by rw [gt_mapR (by omega)]; exact h j (by omega)
theorem mapR_congr {n : Nat} {f g : Nat → Int} (h : ∀ j, j < n → f j = g j) : mapR n f = mapR n g := mapR_ext (mapR_len n f) fun j hj => by rw [gt_mapR hj]; exact h j hj
theorem mapR_set {n i : Nat} {g : Nat → Int} {v : Int} (hi : i < n) : (mapR n g).set i v = mapR n fun j => if j = i then v else g j :=
  mapR_ext (by rw [List.length_set, mapR_len]) fun j hj => by
    rw [gt_set (by rw [mapR_len]; exact hi)]
    split
    · rfl
    · exact gt_mapR hj
theorem rep_mapR (n : Nat) (v : Int) : List.replicate n v = mapR n fun _ => v := mapR_ext (by simp) fun j hj => gt_replicate hj
def dnK (xs : List Int) (k y : Nat) : Bool := (List.range k).any fun i => decide (gt xs i = (y : Int))
theorem dnK_iff {xs : List Int} {k y : Nat} : dnK xs k y = true ↔ ∃ i, i < k ∧ gt xs i = (y : Int) := by
  unfold dnK
  rw [List.any_eq_true]
  exact ⟨fun ⟨i, hi, h⟩ => ⟨i, List.mem_range.1 hi, of_decide_eq_true h⟩, fun ⟨i, hi, h⟩ => ⟨i, List.mem_range.2 hi, decide_eq_true h⟩⟩
theorem dnK_zero (xs : List Int) (y : Nat) : dnK xs 0 y = false := rfl
theorem dnK_succ {xs : List Int} {k b y : Nat} (hb : gt xs k = (b : Int)) : dnK xs (k + 1) y = (dnK xs k y || decide (y = b)) := by
  unfold dnK
  rw [List.range_succ, List.any_append]
  congr 1
  simp only [List.any_cons, List.any_nil, Bool.or_false, hb]
  rw [decide_eq_decide]
  omega
theorem dnK_all {n : Nat} {f : Nat → Nat → Bool} {xs : List Int} (hL : LinL n f xs) {y : Nat} (hy : y < n) : dnK xs n y = true := by
  obtain ⟨i, hi, e⟩ := hL.all y hy
  exact dnK_iff.2 ⟨i, hi, e⟩
theorem dnK_not {n : Nat} {f : Nat → Nat → Bool} {xs : List Int} (hL : LinL n f xs) {k b : Nat} (hk : k < n) (hb : gt xs k = (b : Int)) : dnK xs k b = false := by
  rw [Bool.eq_false_iff]
  intro h
  obtain ⟨i, hi, e⟩ := dnK_iff.1 h
  have := hL.inj i k (by omega) hk (by rw [e, hb])
  omega
/-- What is below what comes next has come. -/
theorem dnK_below {n : Nat} {f : Nat → Nat → Bool} {xs : List Int} (hL : LinL n f xs) {k b z : Nat} (hk : k < n) (hb : gt xs k = (b : Int)) (hz : z < n) (hf : f z b = true) (hne : z ≠ b) : dnK xs k z = true := by
  obtain ⟨i, hi, e⟩ := hL.all z hz
  have := hL.ord i k hi hk (by rw [e, hb, Int.toNat_natCast, Int.toNat_natCast]; exact hf) (fun c => hne (by subst c; rw [e] at hb; omega))
  exact dnK_iff.2 ⟨i, this, e⟩
/-- The row of 'x', when the first 'k' of the list have come. -/
def mrow (n : Nat) (f : Nat → Nat → Bool) (x : Nat) (xs : List Int) (k : Nat) : List Int := mapR n fun y => if y = x then 1 else if dnK xs k y && f x y then muF n f x y else 0
theorem mrow_zero {n x : Nat} {f : Nat → Nat → Bool} {xs : List Int} (hx : x < n) : (List.replicate n (0 : Int)).set x 1 = mrow n f x xs 0 := by
  rw [rep_mapR, mapR_set hx]
  exact mapR_congr fun j _ => by rw [dnK_zero]; rfl
theorem mrow_len (n : Nat) (f : Nat → Nat → Bool) (x : Nat) (xs : List Int) (k : Nat) : (mrow n f x xs k).length = n := mapR_len n _
theorem mrow_end {n x : Nat} {f : Nat → Nat → Bool} {xs : List Int} (hL : LinL n f xs) : mrow n f x xs n = mapR n (muF n f x) := mapR_congr fun j hj => by
  by_cases e : j = x
  · subst e; rw [if_pos rfl, muF_self]
  · rw [if_neg e, dnK_all hL hj, Bool.true_and]
    cases h : f x j
    · rw [muF_out (Ne.symm e) h]; rfl
    · rfl
theorem mrow_skip {n x k b : Nat} {f : Nat → Nat → Bool} {xs : List Int} (hb : gt xs k = (b : Int)) (h : ¬ (x ≠ b ∧ f x b = true)) : mrow n f x xs k = mrow n f x xs (k + 1) := mapR_congr fun j _ => by
  by_cases e : j = x
  · rw [if_pos e, if_pos e]
  · rw [if_neg e, if_neg e, dnK_succ hb]
    by_cases e2 : j = b
    · subst e2
      have : f x j = false := by
        cases c : f x j
        · rfl
        · exact absurd ⟨Ne.symm e, c⟩ h
      rw [this]; simp
    · rw [decide_eq_false e2, Bool.or_false]
theorem mrow_sum {n x k b : Nat} {f : Nat → Nat → Bool} {xs : List Int} (ho : IsO n f) (hL : LinL n f xs) (hx : x < n) (hk : k < n) (hb : gt xs k = (b : Int)) (hbn : b < n) (hne : x ≠ b) (hf : f x b = true) :
    -(sumI n fun z => if f x z && f z b then gt (mrow n f x xs k) z else 0) = muF n f x b := by
  rw [muF_in ho hx hbn hne hf]
  congr 1
  refine sumI_congr fun z hz => ?_
  unfold btw mrow
  rw [gt_mapR hz]
  cases h1 : f x z
  · rfl
  · cases h2 : f z b
    · rfl
    · rw [Bool.and_self, if_pos rfl]
      by_cases e : z = b
      · subst e
        rw [if_neg (Ne.symm hne), dnK_not hL hk hb, Bool.false_and, if_neg (by simp), if_neg (by simp)]
      · have ht : (true && decide (z ≠ b)) = true := by rw [decide_eq_true e]; rfl
        by_cases e2 : z = x
        · subst e2; rw [if_pos rfl, if_pos ht, muF_self]
        · rw [if_neg e2, dnK_below hL hk hb hz h2 e, Bool.true_and, if_pos (rfl : true = true), if_pos ht]
theorem mrow_set {n x k b : Nat} {f : Nat → Nat → Bool} {xs : List Int} (hb : gt xs k = (b : Int)) (hbn : b < n) (hne : x ≠ b) (hf : f x b = true) : (mrow n f x xs k).set b (muF n f x b) = mrow n f x xs (k + 1) := by
  unfold mrow
  rw [mapR_set hbn]
  refine mapR_congr fun j _ => ?_
  rw [dnK_succ hb]
  by_cases e : j = b
  · subst e
    rw [if_pos rfl, if_neg (Ne.symm hne), decide_eq_true rfl, Bool.or_true, Bool.true_and, if_pos hf]
  · rw [if_neg e, decide_eq_false e, Bool.or_false]
theorem mrow_bound {n x k : Nat} {f : Nat → Nat → Bool} {xs : List Int} (hn : n ≤ 12) {z : Nat} (hz : z < n) : -302875106592253 ≤ gt (mrow n f x xs k) z ∧ gt (mrow n f x xs k) z ≤ 302875106592253 := by
  unfold mrow
  rw [gt_mapR hz]
  have := muF_bound (f := f) hn x z
  split
  · omega
  · split
    · exact this
    · omega
/-- The numbers of Moebius, as a table. -/
def muT (n : Nat) (f : Nat → Nat → Bool) : List (List Int) := (List.range n).map fun x => mapR n (muF n f x)
theorem muT_len (n : Nat) (f : Nat → Nat → Bool) : (muT n f).length = n := by simp [muT]
theorem gt_muT {n x : Nat} {f : Nat → Nat → Bool} (h : x < n) : gt (muT n f) x = mapR n (muF n f x) := by rw [gt_eq (by rw [muT_len]; exact h)]; simp [muT]
theorem muT_ext {n : Nat} {f : Nat → Nat → Bool} {r : List (List Int)} (hl : r.length = n) (h : ∀ i, i < n → gt r i = mapR n (muF n f i)) : r = muT n f := gt_ext (by rw [hl, muT_len]) fun i hi => by rw [gt_muT (by omega)]; exact h i (by omega)
end Go.X
namespace Go.Proofs.Ytdokijbdnajhgaa
open Go Go.X

set_option maxRecDepth 10000 in
theorem values1_seq (bl : Nat) (vl : Value) (xs : List Int) (hp1 : xs.length ≤ 1000) : SeqC Try.prog 170 [.pointer (some ⟨bl, 0, none⟩)] 26 (fun h => Blk h bl #[vl] 25 ∧ RdE encI h vl xs) xs.length (fun k => [.int .i64 (gt xs k)]) := by
  intro l h J hJS hCap hY h0
  obtain ⟨hcp1, hcp2⟩ := hCap _ _ h0
  refine fx_intro (n := 16) [(0, .func (.yield l) #[] #[]), (1, .pointer (some ⟨bl, 0, none⟩))] Try.func170 rfl rfl (by simp) ⟨rfl, rfl, trivial⟩ fun g0 => ?_
  refine wi_seq <| wi_reg rfl <| lx_ldB (vl) rfl rfl fl25 hcp1 rfl rfl <| lx_len rfl Try.underlying25 hcp2 rfl <| lx_move (.int .i64 0) rfl rfl <| lx_nil <| wi_block <| ?_
  refine wi_loop (σ := Nat) (rngB 7 16 [4]) (fun (k : Nat) => [(7, .int .i64 ((k : Nat) : Int))]) (fun (k : Nat) (hh : Heap) => h.size ≤ hh.size ∧ J k hh ∧ (k ≤ xs.length)) (fun (k : Nat) => xs.length - k) 0 ⟨rfl, trivial⟩ ⟨(Nat.le_refl h.size), h0, ?_⟩ ?_
  · try dsimp only
    omega
  rintro g1 k hh1 ⟨hle1, hJ1, hk⟩ IH1
  obtain ⟨hcp3, hcp4⟩ := hCap _ _ hJ1
  refine wi_seq <| wi_reg rfl <| lx_lssS rfl rfl rfl (fun c1 => ?_) (fun c1 => ?_)
  · have hJk1 := hJ1
    have hy2 := hY _ _ (by omega) hJk1
    dsimp only at hy2
    refine lx_nil <| wi_seq <| wi_true rfl <| wi_skip <| wi_seq <| wi_block <| wi_seq <| wi_reg rfl <| lx_ix (i := k) rfl eT25 hcp4 rfl rfl (by omega) <| lx_ld (i := k) (j := 0) (.int .i64 (gt xs k)) rfl rfl fl3 hcp4 (by omega) rfl rfl <| lx_assign (.int .i64 (gt xs k)) rfl rfl <| lx_nil <| wi_seq <| wi_reg rfl <| lx_move (.func (.yield l) #[] #[]) rfl rfl <| lx_move (.int .i64 (gt xs k)) rfl rfl <| lx_yield [.int .i64 (gt xs k)] rfl rfl rfl rfl hy2 (fun _ _ => trivial) fun h1 ⟨hty1, hJ2⟩ => ?_
    have hle2 : h.size ≤ h1.size := Nat.le_trans hle1 hty1.1
    obtain ⟨hcp5, hcp6⟩ := hCap _ _ hJ2
    refine lx_notB false rfl rfl rfl <| lx_nil <| wi_false rfl <| wi_skip <| wi_inBlock <| wi_reg rfl <| lx_add (((k + 1 : Nat) : Int)) rfl rfl rfl (by omega) (by omega) (by omega) <| lx_move (.int .i64 ((k + 1 : Nat) : Int)) rfl rfl <| lx_nil <| ?_
    -- L0.1
    refine IH1 _ _ (k + 1) (agree_ups rfl agree_self) ⟨rfl, trivial⟩ ⟨hle2, hJ2, ?_⟩ ?_
    · try dsimp only
      omega
    · first | omega | (dsimp only; omega)
  · refine lx_nil <| wi_seq <| wi_false rfl <| wi_exit rfl <| ?_
    -- R1
    refine wi_end ⟨.tuple #[], (res_none rfl), hle1, ?_⟩
    have hJk := hJ1
    rw [show xs.length = k from by omega]; exact hJk

set_option maxRecDepth 10000 in
theorem moe1_spec (h : Heap) (z : Nat) (x1 : Nat) (vmu : Value) (hm : List Hdr) (mu : List (List Int)) (bmu : Nat) (b4 : Nat) (hb_bmu : Blk h bmu (#[vmu]) 49) (hb_b4 : Blk h b4 (#[.int .i64 ((x1 : Nat) : Int)]) 3) (hr_vmu : RdE encHd h vmu hm) (ht_vmu : RT encI h hm mu) (hp1 : x1 < mu.length) (hp2 : (gt mu x1).length ≤ 12) (hp3 : z < (gt mu x1).length) : Fx Try.prog 143 [.int .i64 ((z : Nat) : Int), .pointer (some ⟨bmu, 0, none⟩), .pointer (some ⟨b4, 0, none⟩)] h (fun v h' => v = .int .i64 (gt (gt mu x1) z) ∧ h = h') := by
  have hl_vmu := ht_vmu.1
  refine fx_intro (n := 12) [(0, .int .i64 ((z : Nat) : Int)), (1, .pointer (some ⟨bmu, 0, none⟩)), (2, .pointer (some ⟨b4, 0, none⟩))] Try.func143 rfl rfl (by simp) ⟨rfl, rfl, rfl, trivial⟩ fun g0 => ?_
  refine wi_seq <| wi_reg rfl <| lx_assign (.int .i64 0) rfl rfl <| lx_nil <| wi_seq <| wi_reg rfl <| lx_ldB (vmu) rfl rfl fl49 hb_bmu rfl rfl <| lx_ldB (.int .i64 ((x1 : Nat) : Int)) rfl rfl fl3 hb_b4 rfl rfl <| lx_ix (i := x1) rfl eT49 hr_vmu rfl rfl (by omega) <| lx_ld (i := x1) (j := 0) ((gt hm x1).v) rfl rfl fl25 hr_vmu (by omega) rfl rfl <| lx_move (.int .i64 ((z : Nat) : Int)) rfl rfl <| lx_ix (i := z) rfl eT25 (ht_vmu.2 x1 (by omega)) rfl rfl (by omega) <| lx_ld (i := z) (j := 0) (.int .i64 (gt (gt mu x1) z)) rfl rfl fl3 (ht_vmu.2 x1 (by omega)) (by omega) rfl rfl <| lx_assign (.int .i64 (gt (gt mu x1) z)) rfl rfl <| lx_nil <| ?_
  -- R1
  refine wi_ret ⟨.int .i64 (gt (gt mu x1) z), (res_one rfl rfl), ⟨rfl, rfl⟩⟩

set_option maxRecDepth 10000 in
theorem over_spec (h : Heap) (vp : Value) (hs : List Hdr) (p : List (List Bool)) (x : Nat) (y : Nat) (x1 : Nat) (vmu : Value) (hm : List Hdr) (mu : List (List Int)) (bmu : Nat) (b4 : Nat) (hb_bmu : Blk h bmu (#[vmu]) 49) (hb_b4 : Blk h b4 (#[.int .i64 ((x1 : Nat) : Int)]) 3) (hr_vmu : RdE encHd h vmu hm) (ht_vmu : RT encI h hm mu) (hr_vp : RdE encHd h vp hs) (ht_vp : RT encB h hs p) (hp1 : p.length ≤ 12) (hp2 : Sq p p.length) (hp3 : x < p.length) (hp4 : y < p.length) (hp5 : x1 < mu.length) (hp6 : (gt mu x1).length = p.length) (hp7 : ∀ z, z < p.length → -302875106592253 ≤ gt (gt mu x1) z ∧ gt (gt mu x1) z ≤ 302875106592253) : Fx Try.prog 142 [vp, .int .i64 ((x : Nat) : Int), .int .i64 ((y : Nat) : Int), .func (.func 143) #[] #[.pointer (some ⟨bmu, 0, none⟩), .pointer (some ⟨b4, 0, none⟩)]] h (fun v h' => v = .int .i64 ((sumI p.length fun q => if pb p x q && pb p q y then gt (gt mu x1) q else 0)) ∧ h = h') := by
  have hl_vp := ht_vp.1
  have hl_vmu := ht_vmu.1
  refine fx_intro (n := 39) [(0, vp), (1, .int .i64 ((x : Nat) : Int)), (2, .int .i64 ((y : Nat) : Int)), (3, .func (.func 143) #[] #[.pointer (some ⟨bmu, 0, none⟩), .pointer (some ⟨b4, 0, none⟩)])] Try.func142 rfl rfl (by simp) ⟨rfl, rfl, rfl, rfl, trivial⟩ fun g0 => ?_
  refine wi_seq <| wi_reg rfl <| lx_assign (.int .i64 0) rfl rfl <| lx_nil <| wi_seq <| wi_reg rfl <| lx_assign (.int .i64 0) rfl rfl <| lx_nil <| wi_seq <| wi_seq <| wi_reg rfl <| lx_move (vp) rfl rfl <| lx_len rfl Try.underlying29 hr_vp rfl <| lx_move (.int .i64 0) rfl rfl <| lx_nil <| wi_block <| ?_
  refine wi_loop (σ := Nat × Int) (rngB 13 38 [9, 10]) (fun (ss : Nat × Int) => [(13, .int .i64 ((ss.1 : Nat) : Int)), (9, .int .i64 ss.2)]) (fun (ss : Nat × Int) (hh : Heap) => h = hh ∧ (ss.1 ≤ p.length) ∧ (ss.2 = sumI ss.1 fun q => if pb p x q && pb p q y then gt (gt mu x1) q else 0)) (fun (ss : Nat × Int) => p.length - ss.1) (0, 0) ⟨rfl, rfl, trivial⟩ ⟨rfl, ?_, ?_⟩ ?_
  · try dsimp only
    omega
  · try dsimp only
    first | done | rfl
  rintro g1 ⟨z, s⟩ hh1 ⟨rfl, hz, hsu⟩ IH1
  dsimp only at *
  have hbd := sumI_bound (B := 302875106592253) (by decide) (n := z) (g := fun z => if pb p x z && pb p z y then gt (gt mu x1) z else 0) (fun i hi => by split; exact hp7 i (by omega); omega)
  rw [← hsu] at hbd
  refine wi_seq <| wi_reg rfl <| lx_lssS rfl rfl rfl (fun c1 => ?_) (fun c1 => ?_)
  · refine lx_nil <| wi_seq <| wi_true rfl <| wi_skip <| wi_seq <| wi_block <| wi_seq <| wi_reg rfl <| lx_move (.int .i64 ((z : Nat) : Int)) rfl rfl <| lx_assign (.int .i64 ((z : Nat) : Int)) rfl rfl <| lx_nil <| wi_seq <| wi_reg rfl <| lx_move (vp) rfl rfl <| lx_move (.int .i64 ((x : Nat) : Int)) rfl rfl <| lx_ix (i := x) rfl eT29 hr_vp rfl rfl (by omega) <| lx_ld (i := x) (j := 0) ((gt hs x).v) rfl rfl fl70 hr_vp (by omega) rfl rfl <| lx_move (.int .i64 ((z : Nat) : Int)) rfl rfl <| lx_ix (i := z) rfl eT70 (ht_vp.2 x (by omega)) rfl rfl (by rw [hp2.2 x (by omega)]; omega) <| lx_ld (i := z) (j := 0) (.bool (gt (gt p x) z)) rfl rfl fl4 (ht_vp.2 x (by omega)) (by rw [hp2.2 x (by omega)]; omega) rfl rfl <| lx_move (.bool (gt (gt p x) z)) rfl rfl <| ?_
    cases c2 : (gt (gt p x) z)
    · refine lx_skip rfl <| lx_skip rfl <| lx_skip rfl <| lx_skip rfl <| lx_skip rfl <| lx_skip rfl <| lx_skip rfl <| lx_pick false (.bool false) rfl rfl rfl <| lx_nil <| wi_false rfl <| wi_skip <| wi_inBlock <| wi_reg rfl <| lx_add (((z + 1 : Nat) : Int)) rfl rfl rfl (by omega) (by omega) (by omega) <| lx_move (.int .i64 ((z + 1 : Nat) : Int)) rfl rfl <| lx_nil <| ?_
      -- L0.1
      refine IH1 _ _ (z + 1, s) (agree_ups rfl agree_self) ⟨rfl, rfl, trivial⟩ ⟨rfl, ?_, ?_⟩ ?_
      · try dsimp only
        omega
      · try dsimp only
        rw [sumI, ← hsu]
        first
        | (rw [show pb p x z = true from by assumption, show pb p z y = true from by assumption]; rfl)
        | (rw [show pb p x z = false from by assumption]; simp; done)
        | (rw [show pb p z y = false from by assumption]; simp; done)
      · first | omega | (dsimp only; omega)
    · refine lx_move (vp) rfl rfl <| lx_move (.int .i64 ((z : Nat) : Int)) rfl rfl <| lx_ix (i := z) rfl eT29 hr_vp rfl rfl (by omega) <| lx_ld (i := z) (j := 0) ((gt hs z).v) rfl rfl fl70 hr_vp (by omega) rfl rfl <| lx_move (.int .i64 ((y : Nat) : Int)) rfl rfl <| lx_ix (i := y) rfl eT70 (ht_vp.2 z (by omega)) rfl rfl (by rw [hp2.2 z (by omega)]; omega) <| lx_ld (i := y) (j := 0) (.bool (gt (gt p z) y)) rfl rfl fl4 (ht_vp.2 z (by omega)) (by rw [hp2.2 z (by omega)]; omega) rfl rfl <| lx_pick true (.bool (gt (gt p z) y)) rfl rfl rfl <| lx_nil <| wi_condS (t := gt (gt p z) y) rfl (fun c3 => ?_) (fun c3 => ?_)
      · refine wi_reg rfl <| ?_
        have hbz := hp7 z (by omega)
        refine lx_move (.int .i64 s) rfl rfl <| lx_move (.func (.func 143) #[] #[.pointer (some ⟨bmu, 0, none⟩), .pointer (some ⟨b4, 0, none⟩)]) rfl rfl <| lx_move (.int .i64 ((z : Nat) : Int)) rfl rfl <| lx_callV [] [.pointer (some ⟨bmu, 0, none⟩), .pointer (some ⟨b4, 0, none⟩)] [.int .i64 ((z : Nat) : Int)] rfl rfl Try.call143 rfl rfl (moe1_spec h z x1 vmu hm mu bmu b4 hb_bmu hb_b4 hr_vmu ht_vmu (by omega) (by omega) (by omega)) (fun _ _ _ => trivial) ?_
        rintro _ h1 ⟨rfl, rfl⟩
        refine lx_add (s + (gt (gt mu x1) z)) rfl rfl rfl (by omega) (by omega) (by omega) <| lx_assign (.int .i64 (s + (gt (gt mu x1) z))) rfl rfl <| lx_nil <| wi_inBlock <| wi_reg rfl <| lx_add (((z + 1 : Nat) : Int)) rfl rfl rfl (by omega) (by omega) (by omega) <| lx_move (.int .i64 ((z + 1 : Nat) : Int)) rfl rfl <| lx_nil <| ?_
        -- L0.2
        refine IH1 _ _ (z + 1, s + (gt (gt mu x1) z)) (agree_ups rfl agree_self) ⟨rfl, rfl, trivial⟩ ⟨rfl, ?_, ?_⟩ ?_
        · try dsimp only
          omega
        · try dsimp only
          rw [sumI, ← hsu]
          first
          | (rw [show pb p x z = true from by assumption, show pb p z y = true from by assumption]; rfl)
          | (rw [show pb p x z = false from by assumption]; simp; done)
          | (rw [show pb p z y = false from by assumption]; simp; done)
        · first | omega | (dsimp only; omega)
      · refine wi_skip <| wi_inBlock <| wi_reg rfl <| lx_add (((z + 1 : Nat) : Int)) rfl rfl rfl (by omega) (by omega) (by omega) <| lx_move (.int .i64 ((z + 1 : Nat) : Int)) rfl rfl <| lx_nil <| ?_
        -- L0.3
        refine IH1 _ _ (z + 1, s) (agree_ups rfl agree_self) ⟨rfl, rfl, trivial⟩ ⟨rfl, ?_, ?_⟩ ?_
        · try dsimp only
          omega
        · try dsimp only
          rw [sumI, ← hsu]
          first
          | (rw [show pb p x z = true from by assumption, show pb p z y = true from by assumption]; rfl)
          | (rw [show pb p x z = false from by assumption]; simp; done)
          | (rw [show pb p z y = false from by assumption]; simp; done)
        · first | omega | (dsimp only; omega)
  · refine lx_nil <| wi_seq <| wi_false rfl <| wi_exit rfl <| wi_seq <| wi_reg rfl <| lx_move (.int .i64 s) rfl rfl <| lx_assign (.int .i64 s) rfl rfl <| lx_nil <| ?_
    -- R1
    refine wi_ret ⟨.int .i64 s, (res_one rfl rfl), ⟨?_, rfl⟩⟩
    · rw [hsu, show z = p.length from by omega]

end Go.Proofs.Ytdokijbdnajhgaa
namespace Go.Proofs.Ytdokijbdnajhgaa
open Go Go.X

set_option maxRecDepth 10000 in
theorem moebius_spec (h : Heap) (vp : Value) (hs : List Hdr) (p : List (List Bool)) (hr_vp : RdE encHd h vp hs) (ht_vp : RT encB h hs p) (hp1 : p.length ≤ 12) (hp2 : isT p = true) : Fx Try.prog 108 [vp] h (fun v h' => ∃ (s : Value) (hm : List Hdr), v = s ∧ OwE encHd h' h.size 25 s hm ∧ OT encI h' h.size 3 hm (muT p.length (pb p)) ∧ Ext h.size h h') := by
  have hl_vp := ht_vp.1
  refine fx_intro (n := 47) [(0, vp)] Try.func108 rfl rfl (by simp) ⟨rfl, trivial⟩ fun g0 => ?_
  refine wi_seq <| wi_reg rfl <| lx_box #[vp] rfl rfl (sl_cells hr_vp) (fun _ _ _ => trivial) fun bn1 h1 hbn1 hbk1 hx1 hsz1 => ?_
  have hbb1 : h.size ≤ bn1 := by have := (Nat.le_refl h.size); omega
  refine lx_assign (.slice none 0 0) rfl rfl <| lx_nil <| wi_seq <| wi_reg rfl <| ?_
  have hsq2 := isT_sq hp2
  have hio := isT_o hp2
  refine lx_ldB (vp) rfl rfl fl29 hbk1 rfl rfl <| lx_len rfl Try.underlying29 hr_vp rfl <| lx_make (E := encHd) (n := hs.length) (B := h1.size) (default : Hdr) rfl rfl Try.underlying49 (eZ49) rfl rfl (by omega) (by omega) (Nat.le_refl _) (fun _ _ => trivial) fun v1 h2 ho1 hx2 hvb1 => ?_
  have hx0_1 := hx1.trans2 hx2 hx1.size
  have hb1 := hbk1.extS hx2
  have ho2 := ho1.base hx1.size
  have hot1 := OT.rep encI h2 h.size 3 hs.length
  have hl_hot1 := hot1.1
  refine lx_alloc rfl rfl Try.zeroValue49 (fun _ _ _ => trivial) fun bn2 h3 hbn2 hbk2 hx3 hsz2 => ?_
  have hbb2 : h.size ≤ bn2 := by have := hx0_1.size; omega
  have hne1 : bn2 ≠ bn1 := by have := hb1.lt; omega
  have hdj1 : Value.ownBlock v1 ≠ some bn2 := by intro e; have := (ho2.lt e).2; omega
  have hnb1 : Nbt (List.replicate hs.length (default : Hdr)) bn2 := nbt_new hot1 (by omega)
  have hx0_2 := hx0_1.trans2 hx3 hx0_1.size
  have ho3 := ho2.extS hx3
  have hot2 := hot1.extS hx3
  have hb2 := hb1.extS hx3
  have hbk2 : Blk h3 bn2 #[.slice none 0 0] 49 := hbk2
  refine lx_stB (v1) rfl rfl Try.sizeOf49 hbk2 (by simp) rfl rfl (sl_cells ho3.rd) (sl_one ho3.rd) (fun _ _ _ _ => trivial) fun h4 hbk3 hc1 => ?_
  have hx0_3 := hx0_2.trans (hc1.ext hbb2)
  have ho4 := hc1.owE ho3 hdj1
  have hot3 := hot2.chgB hc1 hnb1
  have hb3 := hc1.blk hb2 (Ne.symm hne1)
  have hbk3 : Blk h4 bn2 #[v1] 49 := hbk3
  refine lx_nil <| wi_seq <| wi_seq <| wi_reg rfl <| lx_ldB (vp) rfl rfl fl29 hb3 rfl rfl <| lx_len rfl Try.underlying29 hr_vp rfl <| lx_move (.int .i64 0) rfl rfl <| lx_nil <| wi_block <| ?_
  have hds9 : ([] : List Nat).map markD = [] := rfl
  refine wi_loopD (σ := Nat × (List Hdr) × (List (List Int)) × (List Nat)) (rngB 29 46 [4, 5, 11, 12, 13, 14, 15, 16, 17, 18, 19, 20, 21, 22, 23, 24, 25, 26, 27]) (fun (ss : Nat × (List Hdr) × (List (List Int)) × (List Nat)) => [(11, .int .i64 ((ss.1 : Nat) : Int))]) (fun (ss : Nat × (List Hdr) × (List (List Int)) × (List Nat)) => ss.2.2.2) (fun (ss : Nat × (List Hdr) × (List (List Int)) × (List Nat)) (hh : Heap) => DsOk ss.2.2.2 hh ∧ (∀ d ∈ ss.2.2.2, h.size ≤ d) ∧ ss.2.2.2.Nodup ∧ OwE encHd hh h.size 25 v1 ss.2.1 ∧ OT encI hh h.size 3 ss.2.1 ss.2.2.1 ∧ Blk hh bn1 #[vp] 29 ∧ Blk hh bn2 #[v1] 49 ∧ Ext h.size h hh ∧ (ss.1 ≤ p.length) ∧ (ss.2.2.1.length = p.length) ∧ (∀ i, i < ss.1 → gt ss.2.2.1 i = mapR p.length (muF p.length (pb p) i))) (fun (ss : Nat × (List Hdr) × (List (List Int)) × (List Nat)) => p.length - ss.1) (0, List.replicate hs.length default, List.replicate hs.length [], []) ⟨rfl, trivial⟩ ⟨(DsOk.nil _), (fun d hd9 => by cases hd9), List.nodup_nil, ?_, ?_, ?_, ?_, hx0_3, ?_, ?_, ?_⟩ ?_
  · first | exact ho4 | (simpa using ho4)
  · first | exact hot3 | (simpa using hot3)
  · exact hb3
  · exact hbk3
  · try dsimp only
    omega
  · try dsimp only
    rw [List.length_replicate]; exact hl_vp
  · try dsimp only
    intro i hi; omega
  rintro g1 ⟨x, hm, rows, ds⟩ hh1 ⟨hdd1, hdb1, hdn1, ho5, hot4, hbk4, hbk5, hx0_4, hx, hrl, hro⟩ IH1
  dsimp only at *
  have hlt1 : ∀ d ∈ ds, d < hh1.size := fun d hd9 => (Array.getElem?_eq_some_iff.1 (hdd1 d hd9)).1
  have hl_hot4 := hot4.1
  refine wi_seq <| wi_reg rfl <| lx_lssS rfl rfl rfl (fun c1 => ?_) (fun c1 => ?_)
  · refine lx_nil <| wi_seq <| wi_true rfl <| wi_skip <| wi_seq <| wi_block <| wi_seq <| wi_reg rfl <| lx_move (.int .i64 ((x : Nat) : Int)) rfl rfl <| lx_alloc rfl rfl Try.zeroValue3 (fun _ _ _ => trivial) fun bn3 h5 hbn3 hbk6 hx4 hsz3 => ?_
    have hbb3 : h.size ≤ bn3 := by have := hx0_4.size; omega
    have hne2 : bn3 ≠ bn1 := by have := hbk4.lt; omega
    have hne3 : bn3 ≠ bn2 := by have := hbk5.lt; omega
    have hdj2 : Value.ownBlock v1 ≠ some bn3 := by intro e; have := (ho5.lt e).2; omega
    have hnb2 : Nbt hm bn3 := nbt_new hot4 (by omega)
    have hch1 := Nc.of_ext hx4
    have hsz_hch1 := hch1.1
    have hx0_5 := hx0_4.trans2 hx4 hx0_4.size
    have ho6 := ho5.extS hx4
    have hot5 := hot4.extS hx4
    have hb4 := hbk4.extS hx4
    have hb5 := hbk5.extS hx4
    have hbk6 : Blk h5 bn3 #[.int .i64 0] 3 := hbk6
    refine lx_stB (.int .i64 ((x : Nat) : Int)) rfl rfl Try.sizeOf3 hbk6 (by simp) rfl rfl rfl rfl (fun _ _ _ _ => trivial) fun h6 hbk7 hc2 => ?_
    have hch2 := hch1.trans (Nc.of_chgB hc2 hbk6)
    have hsz_hch2 := hch2.1
    have hx0_6 := hx0_5.trans (hc2.ext hbb3)
    have ho7 := hc2.owE ho6 hdj2
    have hot6 := hot5.chgB hc2 hnb2
    have hb6 := hc2.blk hb4 (Ne.symm hne2)
    have hb7 := hc2.blk hb5 (Ne.symm hne3)
    have hbk7 : Blk h6 bn3 #[.int .i64 ((x : Nat) : Int)] 3 := hbk7
    refine lx_nil <| wi_seq <| wi_draw mo rfl (by decide +kernel) <| lx_ldB (v1) rfl rfl fl49 hb7 rfl rfl <| lx_ldB (.int .i64 ((x : Nat) : Int)) rfl rfl fl3 hbk7 rfl rfl <| lx_ldB (vp) rfl rfl fl29 hb6 rfl rfl <| lx_len rfl Try.underlying29 hr_vp rfl <| lx_make (E := encI) (n := hs.length) (B := h6.size) (0 : Int) rfl rfl Try.underlying25 (eZ25) rfl rfl (by omega) (by omega) (Nat.le_refl _) (fun _ _ => trivial) fun v2 h7 ho8 hx5 hvb2 => ?_
    have hch3 := hch2.trans (Nc.of_ext hx5)
    have hsz_hch3 := hch3.1
    have hx0_7 := hx0_6.trans2 hx5 hx0_6.size
    have ho9 := ho7.extS hx5
    have hot7 := hot6.extS hx5
    have hb8 := hb6.extS hx5
    have hb9 := hb7.extS hx5
    have hb10 := hbk7.extS hx5
    have ho10 := ho8.base hx0_6.size
    have hot8 : OT encI h7 h.size 3 (hm.set x (hdrOf v2)) (rows.set x (List.replicate hs.length (0 : Int))) := OT.set hot7 (by omega) ho10 (djt_ne (djt_new hot6 ho8))
    have hnb3 : Nbt (hm.set x (hdrOf v2)) bn3 := nbt_set hnb2 (hdr_rd ho10.rd) (nb_new hbk7 ho8)
    refine lx_ix (i := x) rfl eT49 ho9.rd rfl rfl (by omega) <| lx_st (i := x) (hdrOf v2) rfl rfl Try.sizeOf25 ho9 (by omega) rfl (hdr_cells ho10.rd) (fun _ _ _ _ _ => trivial) fun h8 ho11 hc3 hsz4 => ?_
    have hch4 := hch3.trans (Nc.of_chg hc3 ho9)
    have hsz_hch4 := hch4.1
    have hx0_8 := hx0_7.trans (ho9.ext hc3 hx0_7.size)
    have hb11 := hb8.chg hc3 (nb_new hbk1 ho1)
    have hb12 := hb9.chg hc3 hdj1
    have hb13 := hb10.chg hc3 hdj2
    have hot9 : OT encI h8 h.size 3 (hm.set x (hdrOf v2)) (rows.set x (List.replicate hs.length (0 : Int))) := hot8.chg hc3 (djt_ty hot8 ho9 (by decide))
    have hl_hot9 := hot9.1
    have ho11 : OwE encHd h8 h.size 25 v1 (hm.set x (hdrOf v2)) := ho11
    refine lx_nil <| wi_seq <| wi_draw mo rfl (by decide +kernel) <| ?_
    have hgx : gt (rows.set x (List.replicate hs.length (0 : Int))) x = List.replicate hs.length 0 := by rw [gt_set (by omega), if_pos rfl]
    have hgl : (gt (rows.set x (List.replicate hs.length (0 : Int))) x).length = p.length := by rw [hgx]; simp; omega
    refine lx_ldB (v1) rfl rfl fl49 hb12 rfl rfl <| lx_ldB (.int .i64 ((x : Nat) : Int)) rfl rfl fl3 hb13 rfl rfl <| lx_ix (i := x) rfl eT49 ho11.rd rfl rfl (by first | omega | (simp only [List.length_set, List.length_append, List.length_cons, List.length_nil, List.length_replicate, List.length_take, swp_length, exch_length]; omega)) <| lx_ld (i := x) (j := 0) ((gt (hm.set x (hdrOf v2)) x).v) rfl rfl fl25 ho11.rd (by first | omega | (simp only [List.length_set, List.length_append, List.length_cons, List.length_nil, List.length_replicate, List.length_take, swp_length, exch_length]; omega)) rfl rfl <| lx_ldB (.int .i64 ((x : Nat) : Int)) rfl rfl fl3 hb13 rfl rfl <| lx_ix (i := x) rfl eT25 (hot9.2.1 x (by first | omega | (simp only [List.length_set, List.length_append, List.length_cons, List.length_nil, List.length_replicate, List.length_take, swp_length, exch_length]; omega))).rd rfl rfl (by first | omega | (simp only [List.length_set, List.length_append, List.length_cons, List.length_nil, List.length_replicate, List.length_take, swp_length, exch_length]; omega)) <| lx_st (i := x) ((1 : Int)) rfl rfl Try.sizeOf3 (hot9.2.1 x (by first | omega | (simp only [List.length_set, List.length_append, List.length_cons, List.length_nil, List.length_replicate, List.length_take, swp_length, exch_length]; omega))) (by first | omega | (simp only [List.length_set, List.length_append, List.length_cons, List.length_nil, List.length_replicate, List.length_take, swp_length, exch_length]; omega)) rfl rfl (fun _ _ _ _ _ => trivial) fun h9 ho12 hc4 hsz5 => ?_
    have hch5 := hch4.trans (Nc.of_chg hc4 (hot9.2.1 x (by first | omega | (simp only [List.length_set, List.length_append, List.length_cons, List.length_nil, List.length_replicate, List.length_take, swp_length, exch_length]; omega))))
    have hsz_hch5 := hch5.1
    have hx0_9 := hx0_8.trans ((hot9.2.1 x (by first | omega | (simp only [List.length_set, List.length_append, List.length_cons, List.length_nil, List.length_replicate, List.length_take, swp_length, exch_length]; omega))).ext hc4 hx0_8.size)
    have ho13 := ho11.chg hc4 (Dj.symm ((djt_ty hot9 ho11 (by decide)) x (by rw [hot9.1]; exact (by first | omega | (simp only [List.length_set, List.length_append, List.length_cons, List.length_nil, List.length_replicate, List.length_take, swp_length, exch_length]; omega)))))
    have hb14 := hb11.chg hc4 ((nbt_ty hot9 hb11 (by decide)) x (by rw [hot9.1]; exact (by first | omega | (simp only [List.length_set, List.length_append, List.length_cons, List.length_nil, List.length_replicate, List.length_take, swp_length, exch_length]; omega))))
    have hb15 := hb12.chg hc4 ((nbt_ty hot9 hb12 (by decide)) x (by rw [hot9.1]; exact (by first | omega | (simp only [List.length_set, List.length_append, List.length_cons, List.length_nil, List.length_replicate, List.length_take, swp_length, exch_length]; omega))))
    have hb16 := hb13.chg hc4 (hnb3 x (by rw [hot9.1]; exact (by first | omega | (simp only [List.length_set, List.length_append, List.length_cons, List.length_nil, List.length_replicate, List.length_take, swp_length, exch_length]; omega))))
    have hot10 := OT.cell hot9 (by first | omega | (simp only [List.length_set, List.length_append, List.length_cons, List.length_nil, List.length_replicate, List.length_take, swp_length, exch_length]; omega)) hc4 ho12
    have hl_hot10 := hot10.1
    refine lx_nil <| wi_seq <| wi_reg rfl <| lx_ldB (vp) rfl rfl fl29 hb14 rfl rfl <| lx_call [vp] rfl rfl Try.call105 rfl (upward_spec h9 vp hs p (hr_vp.extS hx0_9) (ht_vp.extS hx0_9) (by omega) hp2) (fun _ _ _ => trivial) ?_
    rintro _ h10 ⟨bl, vl, xs, rfl, ho14, hot11, ho15, hli, hx6⟩
    have hch6 := hch5.trans (Nc.of_ext hx6)
    have hsz_hch6 := hch6.1
    have hx0_10 := hx0_9.trans2 hx6 hx0_9.size
    have ho16 := ho13.extS hx6
    have hot12 := hot10.extS hx6
    have hb17 := hb14.extS hx6
    have hb18 := hb15.extS hx6
    have hb19 := hb16.extS hx6
    have hbx1 : h.size ≤ bl := Nat.le_trans hx0_9.size ho14
    have ho17 := ho15.base hx0_9.size
    refine lx_nil <| wi_block <| ?_
    refine wi_range (Ds := ds) (gf := 170) (lb := [.pointer (some ⟨bl, 0, none⟩)]) Try.call170 rfl (fun l1 D1 h11 rc1 hlD1 hll1 hDl1 hx7 hlr1 hDr1 hLo1 => ?_)
    have hbl1 : h.size ≤ l1 := Nat.le_trans hx0_10.size hll1
    have hbD1 : h.size ≤ D1 := Nat.le_trans hx0_10.size hlD1
    have hch7 := hch6.trans (Nc.of_ext hx7)
    have hsz_hch7 := hch7.1
    have hx0_11 := hx0_10.trans2 hx7 hx0_10.size
    have ho18 := ho16.extS hx7
    have hot13 := hot12.extS hx7
    have ho19 := ho17.extS hx7
    have hb20 := hb17.extS hx7
    have hb21 := hb18.extS hx7
    have hb22 := hb19.extS hx7
    have hb23 := hot11.extS hx7
    refine Fx.mono (values1_seq bl vl xs (by have := hli.len; omega) l1 h11 (fun k hh => hh[l1]? = some (.loop rc1) ∧ DsOk (D1 :: ds) hh ∧ ∃ (hm : List Hdr), ∃ (rows : List (List Int)), OwE encHd hh h.size 25 v1 hm ∧ OT encI hh h.size 3 hm rows ∧ OwE encI hh h.size 3 vl xs ∧ Djt hm vl ∧ Nbt hm bn3 ∧ Value.ownBlock vl ≠ some bn3 ∧ Blk hh bl #[vl] 25 ∧ Blk hh bn1 #[vp] 29 ∧ Blk hh bn2 #[v1] 49 ∧ Blk hh bn3 #[.int .i64 ((x : Nat) : Int)] 3 ∧ Ext h.size h hh ∧ (rows.length = p.length) ∧ (gt rows x = mrow p.length (pb p) x xs k) ∧ (∀ i, i < x → gt rows i = mapR p.length (muF p.length (pb p) i))) ?_ ?_ ?_ ?_) ?_
    · rintro k ha hb9 ⟨hr9, hd9, hm, rows, ho20, hot14, ho21, hdt1, hnb4, hdj3, hbk8, hbk9, hbk10, hbk11, hx0_12, hrl, hrx, hro⟩ hq1
      exact ⟨hq1.obj hr9 (Array.getElem?_eq_some_iff.1 hlr1).1, hq1.dso hd9 (fun d hd8 => (Array.getElem?_eq_some_iff.1 (DsOk.cons hDr1 (hdd1.nc (hch6.trans (Nc.of_ext hx7))) d hd8)).1), hm, rows, hq1.owE ho20 (by decide), hq1.ot hot14 (by decide), hq1.owE ho21 (by decide), hdt1, hnb4, hdj3, hq1.blk hbk8 (by decide), hq1.blk hbk9 (by decide), hq1.blk hbk10 (by decide), hq1.blk hbk11 (by decide), hq1.ext hx0_12 hx0_11.size, hrl, hrx, hro⟩
    · rintro k ha ⟨hr9, hd9, hm, rows, ho22, hot15, ho23, hdt2, hnb5, hdj4, hbk12, hbk13, hbk14, hbk15, hx0_13, hrl, hrx, hro⟩
      exact ⟨hbk12, ho23.rd⟩
    · rintro k ha1 hk1 ⟨hr1, hd1, hm, rows, ho24, hot16, ho25, hdt3, hnb6, hdj5, hbk16, hbk17, hbk18, hbk19, hx0_14, hrl, hrx, hro⟩
      have hxl9 := hli.len
      obtain ⟨b, hgb, hbn⟩ := hli.rng k (by omega)
      dsimp only
      rw [hgb]
      have hl_hot16 := hot16.1
      refine yield_ok hLo1 hr1 rfl (by decide) ?_
      refine wi_forget [(1, .pointer (some ⟨bn1, 0, none⟩)), (3, .pointer (some ⟨bn2, 0, none⟩)), (4, .pointer (some ⟨bn3, 0, none⟩)), (28, .int .i64 ((b : Nat) : Int))] ⟨rfl, rfl, rfl, rfl, trivial⟩ fun g2 => ?_
      refine wi_reg rfl <| lx_assign (.int .i64 ((b : Nat) : Int)) rfl rfl <| lx_nil <| ?_
      refine wi_begin hr1 hLo1.st (fun h12 hc5 hbu1 => ?_)
      have hcel1 := cel_loop hc5 hr1
      have hx0_15 := hx0_14.trans (hc5.ext hbl1)
      have ho26 := hcel1.owE ho24
      have hot17 := hot16.cel hcel1
      have ho27 := hcel1.owE ho25
      have hb24 := hcel1.blk hbk17
      have hb25 := hcel1.blk hbk18
      have hb26 := hcel1.blk hbk19
      have hb27 := hcel1.blk hbk16
      have hch8 := (Tk.of_loop hc5 hr1 : Tk 26 _ _)
      have hd2 := hd1.chgL hr1 hc5
      refine wi_block <| wi_seq <| wi_reg rfl <| lx_ldB (vp) rfl rfl fl29 hb24 rfl rfl <| lx_ldB (.int .i64 ((x : Nat) : Int)) rfl rfl fl3 hb26 rfl rfl <| lx_move (.int .i64 ((b : Nat) : Int)) rfl rfl <| lx_call [vp, .int .i64 ((x : Nat) : Int), .int .i64 ((b : Nat) : Int)] rfl rfl Try.call106 rfl (below_spec h12 vp hs p x b (hr_vp.extS hx0_15) (ht_vp.extS hx0_15) (by omega) hsq2 (by omega) (by omega)) (fun _ _ _ => trivial) ?_
      rintro _ h13 ⟨rfl, rfl⟩
      refine lx_nil <| wi_condS (t := decide (x ≠ b) && pb p x b) rfl (fun c2 => ?_) (fun c2 => ?_)
      · refine wi_drawS (fun h9 => Blk h9 bn1 #[vp] 29 ∧ Blk h9 bn2 #[v1] 49 ∧ Blk h9 bn3 #[.int .i64 ((x : Nat) : Int)] 3 ∧ OwE encHd h9 h.size 25 v1 hm) (fun o => match o.dst with | some 33 | some 34 | some 36 | some 38 | some 39 => .free | _ => kindOf o) mo rfl (by decide +kernel) ⟨hb24, hb25, hb26, ho26⟩ <| ?_
        obtain ⟨hne, hf⟩ : x ≠ b ∧ pb p x b = true := by simpa using ‹(decide (x ≠ b) && pb p x b) = true›
        have hsum : (sumI p.length fun q => if pb p x q && pb p q b then gt (gt rows x) q else 0) = -muF p.length (pb p) x b := by
          rw [hrx, ← mrow_sum hio hli (by omega) (by omega) hgb hbn hne hf, Int.neg_neg]
        have hmb := muF_bound (n := p.length) (f := pb p) hp1 x b
        have hrl9 : (gt rows x).length = p.length := by rw [hrx]; exact mrow_len _ _ _ _ _
        refine lx_ldBF (v1) rfl fl49 (fun _ hs9 => hs9.2.1) rfl rfl <| lx_ldBF (.int .i64 ((x : Nat) : Int)) rfl fl3 (fun _ hs9 => hs9.2.2.1) rfl rfl <| lx_ix (i := x) rfl eT49 ho26.rd rfl rfl (by omega) <| lx_ldF (i := x) (j := 0) ((gt hm x).v) rfl fl25 (fun _ hs9 => hs9.2.2.2.rd) (by omega) rfl rfl <| lx_move (.int .i64 ((b : Nat) : Int)) rfl rfl <| lx_ldBF (vp) rfl fl29 (fun _ hs9 => hs9.1) rfl rfl <| lx_ldBF (.int .i64 ((x : Nat) : Int)) rfl fl3 (fun _ hs9 => hs9.2.2.1) rfl rfl <| lx_move (.int .i64 ((b : Nat) : Int)) rfl rfl <| lx_makeFunc [] [.pointer (some ⟨bn2, 0, none⟩), .pointer (some ⟨bn3, 0, none⟩)] rfl rfl rfl <| lx_call [vp, .int .i64 ((x : Nat) : Int), .int .i64 ((b : Nat) : Int), .func (.func 143) #[] #[.pointer (some ⟨bn2, 0, none⟩), .pointer (some ⟨bn3, 0, none⟩)]] rfl rfl Try.call142 rfl (over_spec h12 vp hs p x b x v1 hm rows bn2 bn3 hb25 hb26 ho26.rd hot17.rt (hr_vp.extS hx0_15) (ht_vp.extS hx0_15) (by omega) hsq2 (by omega) (by omega) (by omega) hrl9 (fun z hz => by rw [hrx]; exact mrow_bound hp1 hz)) (by rintro _ _ ⟨_, rfl⟩; exact ⟨hb24, hb25, hb26, ho26⟩) ?_
        rintro _ h14 ⟨rfl, rfl⟩
        rw [hsum]
        refine lx_neg rfl rfl (by omega) (by omega) <| lx_ix (i := b) rfl eT25 (hot17.2.1 x (by omega)).rd rfl rfl (by omega) <| lx_st (i := b) (-(-muF p.length (pb p) x b)) rfl rfl Try.sizeOf3 (hot17.2.1 x (by omega)) (by omega) rfl rfl (fun hs9 _ _ hc9 _ => ⟨Blk.chg hs9.1 hc9 ((nbt_ty hot17 hb24 (by decide)) x (by rw [hot17.1]; exact (by omega))), Blk.chg hs9.2.1 hc9 ((nbt_ty hot17 hb25 (by decide)) x (by rw [hot17.1]; exact (by omega))), Blk.chg hs9.2.2.1 hc9 (hnb6 x (by rw [hot17.1]; exact (by omega))), OwE.chg hs9.2.2.2 hc9 (Dj.symm (dj_ty (hot17.2.1 x (by omega)) hs9.2.2.2 (by decide)))⟩) fun h15 ho28 hc6 hsz6 => ?_
        have hch9 := hch8.trans ((Tk.of_chg hc6 (hot17.2.1 x (by omega)) (by decide) : Tk 26 _ _))
        have hsz_hch9 := hch9.1
        have hch10 := Nc.of_chg hc6 (hot17.2.1 x (by omega))
        have hsz_hch10 := hch10.1
        have hx0_16 := hx0_15.trans ((hot17.2.1 x (by omega)).ext hc6 hx0_15.size)
        have ho29 := ho26.chg hc6 (Dj.symm ((djt_ty hot17 ho26 (by decide)) x (by rw [hot17.1]; exact (by omega))))
        have ho30 := ho27.chg hc6 (Dj.symm (hdt3 x (by rw [hot17.1]; exact (by omega))))
        have hb28 := hb24.chg hc6 ((nbt_ty hot17 hb24 (by decide)) x (by rw [hot17.1]; exact (by omega)))
        have hb29 := hb25.chg hc6 ((nbt_ty hot17 hb25 (by decide)) x (by rw [hot17.1]; exact (by omega)))
        have hb30 := hb26.chg hc6 (hnb6 x (by rw [hot17.1]; exact (by omega)))
        have hb31 := hb27.chg hc6 ((nbt_ty hot17 hb27 (by decide)) x (by rw [hot17.1]; exact (by omega)))
        have hot18 := OT.cell hot17 (by omega) hc6 ho28
        have hl_hot18 := hot18.1
        refine lx_nil <| wi_inBlock <| ?_
        have hbu2 := (nc_loop hch10 hbu1)
        have hd3 := (hd2.nc hch10)
        -- Q2.1
        refine wi_end ⟨rfl, hbu2, fun h16 hc7 hlr2 => ?_⟩
        have hcel2 := cel_loop hc7 hbu2
        have hx0_17 := hx0_16.trans (hc7.ext hbl1)
        have ho31 := hcel2.owE ho29
        have hot19 := hot18.cel hcel2
        have ho32 := hcel2.owE ho30
        have hb32 := hcel2.blk hb28
        have hb33 := hcel2.blk hb29
        have hb34 := hcel2.blk hb30
        have hb35 := hcel2.blk hb31
        refine ⟨hch9.trans (Tk.of_loop hc7 hbu2), hlr2, hd3.chgL hbu2 hc7, hm, rows.set x ((gt rows x).set b (-(-muF p.length (pb p) x b))), ?_, ?_, ?_, hdt3, hnb6, hdj5, ?_, ?_, ?_, ?_, hx0_17, ?_, ?_, ?_⟩
        · first | exact ho31 | (simpa using ho31)
        · first | exact hot19 | (simpa using hot19)
        · first | exact ho32 | (simpa using ho32)
        · exact hb35
        · exact hb32
        · exact hb33
        · exact hb34
        · try dsimp only
          first | exact hrl | (rw [List.length_set]; exact hrl)
        · try dsimp only
          first
          | (rw [gt_set (by omega), if_pos rfl, hrx, Int.neg_neg]; exact mrow_set hgb hbn hne hf)
          | (rw [hrx]; exact mrow_skip hgb (fun h9 => by have c9 : (decide (x ≠ b) && pb p x b) = false := (by assumption); rw [decide_eq_true h9.1, h9.2] at c9; cases c9))
        · try dsimp only
          first
          | exact hro
          | (intro i hi; rw [gt_set (by omega), if_neg (by omega)]; exact hro i hi)
      · refine wi_skip <| wi_inBlock <| ?_
        have hbu3 := hbu1
        have hd4 := hd2
        -- Q2.2
        refine wi_end ⟨rfl, hbu3, fun h17 hc8 hlr3 => ?_⟩
        have hcel3 := cel_loop hc8 hbu3
        have hx0_18 := hx0_15.trans (hc8.ext hbl1)
        have ho33 := hcel3.owE ho26
        have hot20 := hot17.cel hcel3
        have ho34 := hcel3.owE ho27
        have hb36 := hcel3.blk hb24
        have hb37 := hcel3.blk hb25
        have hb38 := hcel3.blk hb26
        have hb39 := hcel3.blk hb27
        refine ⟨hch8.trans (Tk.of_loop hc8 hbu3), hlr3, hd4.chgL hbu3 hc8, hm, rows, ?_, ?_, ?_, hdt3, hnb6, hdj5, ?_, ?_, ?_, ?_, hx0_18, ?_, ?_, ?_⟩
        · first | exact ho33 | (simpa using ho33)
        · first | exact hot20 | (simpa using hot20)
        · first | exact ho34 | (simpa using ho34)
        · exact hb39
        · exact hb36
        · exact hb37
        · exact hb38
        · try dsimp only
          first | exact hrl | (rw [List.length_set]; exact hrl)
        · try dsimp only
          first
          | (rw [gt_set (by omega), if_pos rfl, hrx, Int.neg_neg]; exact mrow_set hgb hbn hne hf)
          | (rw [hrx]; exact mrow_skip hgb (fun h9 => by have c9 : (decide (x ≠ b) && pb p x b) = false := (by assumption); rw [decide_eq_true h9.1, h9.2] at c9; cases c9))
        · try dsimp only
          first
          | exact hro
          | (intro i hi; rw [gt_set (by omega), if_neg (by omega)]; exact hro i hi)
    · refine ⟨hlr1, DsOk.cons hDr1 (hdd1.nc (hch6.trans (Nc.of_ext hx7))), hm.set x (hdrOf v2), (rows.set x (List.replicate hs.length (0 : Int))).set x ((gt (rows.set x (List.replicate hs.length (0 : Int))) x).set x ((1 : Int))), ?_, ?_, ?_, (djt_new hot10 ho15), hnb3, (nb_new hb16 ho15), ?_, ?_, ?_, ?_, hx0_11, ?_, ?_, ?_⟩
      · first | exact ho18 | (simpa using ho18)
      · first | exact hot13 | (simpa using hot13)
      · first | exact ho19 | (simpa using ho19)
      · exact hb23
      · exact hb20
      · exact hb21
      · exact hb22
      · try dsimp only
        simp only [List.length_set]; exact hrl
      · try dsimp only
        rw [gt_set (by simp only [List.length_set]; omega), if_pos rfl, hgx, hl_vp]; exact mrow_zero (by omega)
      · try dsimp only
        intro i hi; rw [gt_set (by simp only [List.length_set]; omega), if_neg (by omega), gt_set (by omega), if_neg (by omega)]; exact hro i hi
    rintro _ h18 ⟨_, hr2, hd5, hm, rows, ho35, hot21, ho36, hdt4, hnb7, hdj6, hbk20, hbk21, hbk22, hbk23, hx0_19, hrl, hrx, hro⟩
    have hl_hot21 := hot21.1
    refine ⟨hr2, fun h19 hc9 => ?_⟩
    have hcel4 := cel_loop hc9 hr2
    have hx0_20 := hx0_19.trans (hc9.ext hbl1)
    have ho37 := hcel4.owE ho35
    have hot22 := hot21.cel hcel4
    have ho38 := hcel4.owE ho36
    have hb40 := hcel4.blk hbk21
    have hb41 := hcel4.blk hbk22
    have hb42 := hcel4.blk hbk23
    have hb43 := hcel4.blk hbk20
    have hd6 := hd5.chgL hr2 hc9
    have hbDs1 : ∀ d ∈ D1 :: ds, h.size ≤ d := fun d hd9 => by
      rw [List.mem_cons] at hd9
      rcases hd9 with rfl | hd9
      · exact hbD1
      · exact hdb1 d hd9
    have hnd1 : (D1 :: ds).Nodup := List.nodup_cons.2 ⟨fun hd9 => (by have := hlt1 _ hd9; omega), hdn1⟩
    have hlt2 : ∀ d ∈ D1 :: ds, d < h19.size := fun d hd9 => (Array.getElem?_eq_some_iff.1 (hd6 d hd9)).1
    refine wi_inBlock <| wi_inBlock <| wi_reg rfl <| lx_add (((x + 1 : Nat) : Int)) rfl rfl rfl (by omega) (by omega) (by omega) <| lx_move (.int .i64 ((x + 1 : Nat) : Int)) rfl rfl <| lx_nil <| ?_
    -- L0.1
    refine IH1 _ _ (x + 1, hm, rows, D1 :: ds) (agree_ups rfl agree_self) ⟨rfl, trivial⟩ ⟨hd6, hbDs1, hnd1, ?_, ?_, ?_, ?_, hx0_20, ?_, ?_, ?_⟩ ?_
    · first | exact ho37 | (simpa using ho37)
    · first | exact hot22 | (simpa using hot22)
    · exact hb40
    · exact hb41
    · try dsimp only
      omega
    · try dsimp only
      exact hrl
    · try dsimp only
      intro i hi
      by_cases e : i = x
      · subst e; rw [hrx, hli.len]; exact mrow_end hli
      · exact hro i (by omega)
    · first | omega | (dsimp only; omega)
  · refine lx_nil <| wi_seq <| wi_false rfl <| wi_exit rfl <| wi_seq <| wi_reg rfl <| lx_ldB (v1) rfl rfl fl49 hbk5 rfl rfl <| lx_assign (v1) rfl rfl <| lx_nil <| ?_
    -- R1
    have hd7 := hdd1
    refine wi_retD (Ds := ds) hdn1 hd7 (fun h20 hcel5 hsz7 hbb4 => ?_)
    have hx0_21 := ext_marks2 hx0_4 hd7 hdb1 hsz7 hbb4
    have ho39 := hcel5.owE ho5
    have hot23 := hot4.cel hcel5
    have hb44 := hcel5.blk hbk4
    have hb45 := hcel5.blk hbk5
    refine ⟨v1, (res_one rfl rfl), ⟨v1, hm, rfl, ?_, ?_, hx0_21⟩⟩
    · exact ho39
    · rw [← muT_ext hrl (fun i hi => hro i (by omega))]; exact hot23

end Go.Proofs.Ytdokijbdnajhgaa
namespace Go.X
/-- The first number below 'n' that passes; -1 if none does. -/
def firstF (n : Nat) (P : Nat → Bool) : Int := match (List.range n).find? P with
  | some z => (z : Int)
  | none => -1
theorem firstF_none {n : Nat} {P : Nat → Bool} (h : ∀ i, i < n → P i = false) : firstF n P = -1 := by
  unfold firstF
  rw [List.find?_eq_none.2 fun x hx => by rw [h x (List.mem_range.1 hx)]; simp]
theorem find_first {P : Nat → Bool} {z : Nat} (hp : P z = true) : ∀ {n : Nat}, z < n → (∀ i, i < z → P i = false) → (List.range n).find? P = some z
  | 0, h, _ => by omega
  | n + 1, h, hb => by
    rw [List.range_succ, List.find?_append]
    by_cases e : z < n
    · rw [find_first hp e hb]; rfl
    · obtain rfl : z = n := by omega
      rw [List.find?_eq_none.2 fun x hx => by rw [hb x (List.mem_range.1 hx)]; simp]
      simp [hp]
theorem firstF_some {n z : Nat} {P : Nat → Bool} (hz : z < n) (hp : P z = true) (hb : ∀ i, i < z → P i = false) : firstF n P = (z : Int) := by
  unfold firstF
  rw [find_first hp hz hb]
theorem firstF_congr {n : Nat} {P Q : Nat → Bool} (h : ∀ i, i < n → P i = Q i) : firstF n P = firstF n Q := by
  by_cases hx : ∃ z, z < n ∧ P z = true
  · have : ∃ z, z < n ∧ P z = true ∧ ∀ i, i < z → P i = false := by
      obtain ⟨z, hz, hp⟩ := hx
      induction z using Nat.strongRecOn with
      | _ z ih =>
        by_cases h2 : ∃ y, y < z ∧ P y = true
        · obtain ⟨y, hy, hpy⟩ := h2; exact ih y hy (by omega) hpy
        · exact ⟨z, hz, hp, fun i hi => by
            cases c : P i
            · rfl
            · exact absurd ⟨i, hi, c⟩ h2⟩
    obtain ⟨z, hz, hp, hb⟩ := this
    rw [firstF_some hz hp hb, firstF_some hz (by rw [← h z hz]; exact hp) fun i hi => by rw [← h i (by omega)]; exact hb i hi]
  · have h1 : ∀ i, i < n → P i = false := fun i hi => by
      cases c : P i
      · rfl
      · exact absurd ⟨i, hi, c⟩ hx
    rw [firstF_none h1, firstF_none fun i hi => by rw [← h i hi]; exact h1 i hi]
theorem firstF_cases (n : Nat) (P : Nat → Bool) : (firstF n P = -1 ∧ ∀ i, i < n → P i = false) ∨ ∃ z : Nat, firstF n P = (z : Int) ∧ z < n ∧ P z = true ∧ ∀ i, i < z → P i = false := by
  by_cases h : ∀ i, i < n → P i = false
  · exact .inl ⟨firstF_none h, h⟩
  · right
    have : ∃ z, z < n ∧ P z = true := Classical.byContradiction fun hne => h fun i hi => by
      cases c : P i
      · rfl
      · exact absurd ⟨i, hi, c⟩ hne
    obtain ⟨z, hz, hp⟩ := this
    induction z using Nat.strongRecOn with
    | _ z ih =>
      by_cases h2 : ∃ y, y < z ∧ P y = true
      · obtain ⟨y, hy, hpy⟩ := h2; exact ih y hy (by omega) hpy
      · have hb : ∀ i, i < z → P i = false := fun i hi => by
          cases c : P i
          · rfl
          · exact absurd ⟨i, hi, c⟩ h2
        exact ⟨z, firstF_some hz hp hb, hz, hp, hb⟩
/-- The element of a set that, by 'F', all of the set is on one side of. -/
def bndB (F : Nat → Nat) (s x : Nat) : Bool := s.testBit x && incl s (F x)
/-- Whether 'z' is the join. -/
def jnB (n : Nat) (f : Nat → Nat → Bool) (x y z : Nat) : Bool := f x z && f y z && (List.range n).all fun w => !f x w || !f y w || f z w
theorem jnB_iff {n x y z : Nat} {f : Nat → Nat → Bool} : jnB n f x y z = true ↔ f x z = true ∧ f y z = true ∧ ∀ w, w < n → f x w = true → f y w = true → f z w = true := by
  unfold jnB
  rw [Bool.and_eq_true, Bool.and_eq_true, rall_iff, and_assoc]
  refine and_congr_right fun _ => and_congr_right fun _ => ⟨fun h w hw a b => by have := h w hw; rw [a, b] at this; simpa using this, fun h w hw => ?_⟩
  cases a : f x w
  · rfl
  · cases b : f y w
    · rfl
    · rw [h w hw a b]; rfl
def joinF (n : Nat) (f : Nat → Nat → Bool) (x y : Nat) : Int := firstF n (jnB n f x y)
def flipF (f : Nat → Nat → Bool) : Nat → Nat → Bool := fun x y => f y x
def meetF (n : Nat) (f : Nat → Nat → Bool) (x y : Nat) : Int := joinF n (flipF f) x y
theorem bnd_join {n x y : Nat} {f : Nat → Nat → Bool} : firstF n (bndB (upF n f) (upF n f x &&& upF n f y)) = joinF n f x y := firstF_congr fun z hz => by
  rw [Bool.eq_iff_iff, jnB_iff]
  unfold bndB
  rw [Bool.and_eq_true, incl_iff, Nat.testBit_and, upF_bit, upF_bit, decide_eq_true hz, Bool.true_and, Bool.true_and, Bool.and_eq_true, and_assoc]
  refine and_congr_right fun _ => and_congr_right fun _ => ⟨fun h w hw a b => ?_, fun h w hw => ?_⟩
  · have := h w (by rw [Nat.testBit_and, upF_bit, upF_bit, decide_eq_true hw, a, b]; rfl)
    rw [upF_bit, Bool.and_eq_true] at this; exact this.2
  · rw [Nat.testBit_and, upF_bit, upF_bit, Bool.and_eq_true, Bool.and_eq_true, Bool.and_eq_true, decide_eq_true_iff] at hw
    rw [upF_bit, decide_eq_true hw.1.1, h w hw.1.1 hw.1.2 hw.2.2]; rfl
theorem bnd_meet {n x y : Nat} {f : Nat → Nat → Bool} : firstF n (bndB (dnF n f) (dnF n f x &&& dnF n f y)) = meetF n f x y := bnd_join (f := flipF f)
/-- A table of numbers. -/
def tabI (n : Nat) (g : Nat → Nat → Int) : List (List Int) := (List.range n).map fun x => mapR n (g x)
theorem tabI_len (n : Nat) (g : Nat → Nat → Int) : (tabI n g).length = n := by simp [tabI]
theorem gt_tabI {n x : Nat} {g : Nat → Nat → Int} (h : x < n) : gt (tabI n g) x = mapR n (g x) := by rw [gt_eq (by rw [tabI_len]; exact h)]; simp [tabI]
theorem tabI_snoc {n k : Nat} {g : Nat → Nat → Int} {r : List (List Int)} (hr : r = (List.range k).map fun x => mapR n (g x)) : r ++ [mapR n (g k)] = (List.range (k + 1)).map fun x => mapR n (g x) := by rw [hr, List.range_succ, List.map_append]; rfl
theorem mapR_snoc (k : Nat) (g : Nat → Int) : mapR k g ++ [g k] = mapR (k + 1) g := by unfold mapR; rw [List.range_succ, List.map_append]; rfl
/-- The first two without a join or a meet. -/
def gapB (n : Nat) (f : Nat → Nat → Bool) (x y : Nat) : Bool := decide (joinF n f x y < 0) || decide (meetF n f x y < 0)
def gapR (n : Nat) (f : Nat → Nat → Bool) (x y : Nat) (b : Bool) : Prop :=
  (b = true ∧ x < y ∧ y < n ∧ gapB n f x y = true ∧ ∀ i j, i < j → j < n → (i < x ∨ (i = x ∧ j < y)) → gapB n f i j = false) ∨ (b = false ∧ x = 0 ∧ y = 0 ∧ ∀ i j, i < j → j < n → gapB n f i j = false)
theorem gapR_uniq {n x y u v : Nat} {f : Nat → Nat → Bool} {b c : Bool} (h : gapR n f x y b) (k : gapR n f u v c) : x = u ∧ y = v ∧ b = c := by
  rcases h with ⟨h1, h2, h3, h4, h5⟩ | ⟨h1, h2, h3, h4⟩ <;> rcases k with ⟨k1, k2, k3, k4, k5⟩ | ⟨k1, k2, k3, k4⟩
  · by_cases c1 : u < x ∨ (u = x ∧ v < y)
    · have := h5 u v k2 k3 c1; rw [k4] at this; cases this
    · by_cases c2 : x < u ∨ (x = u ∧ y < v)
      · have := k5 x y h2 h3 c2; rw [h4] at this; cases this
      · exact ⟨by omega, by omega, by rw [h1, k1]⟩
  · have := k4 x y h2 h3; rw [h4] at this; cases this
  · have := h4 u v k2 k3; rw [k4] at this; cases this
  · exact ⟨by omega, by omega, by rw [h1, k1]⟩
end Go.X
namespace Go.X
structure StrL (P : Program) (tx el : TypeId) (f0 f1 : Go.Field) : Prop where
  und : P.underlying tx = some (.struct #[f0, f1])
  t0 : f0.type = el
  t1 : f1.type = el
  o0 : f0.offset = 0
  o1 : f1.offset = 1
  size : ∀ w, (sizeOf el).run P w = .ok 1 w
section
variable {P : Program} {S : Heap → Prop} {kd : Oper → Kd} {ops : Array Oper} {rest : List Oper} {K : Env → Heap → Prop} {L : List (Nat × Value)} {b : Env} {h : Heap}
variable {d : Nat} {t tx ty el : TypeId} {p : String} {af : Array Edge} {g : Option (Nat × Bool)} {x y : Operand} {f0 f1 : Go.Field}
theorem bldL {u v : Value} (hA : StrL P tx el f0 f1) (hz : ∀ w, (zeroValue tx).run P w = .ok (.agg #[.slice none 0 0, .slice none 0 0]) w) (hu : u.cells = #[u]) (hv : v.cells = #[v]) (w : World) :
    (Instr.build tx #[(0, u), (1, v)]).run P w = .ok (.agg #[u, v]) w := by
  have hs := hA.size
  have hc : (Value.agg #[Value.slice none 0 0, Value.slice none 0 0]).cells = #[Value.slice none 0 0, Value.slice none 0 0] := rfl
  simp [Instr.build, hz, run_underlying hA.und, hA.t0, hA.t1, hA.o0, hA.o1, hs, Instr.fill, hu, hv, hc]
theorem bldL0 (hA : StrL P tx el f0 f1) (hz : ∀ w, (zeroValue tx).run P w = .ok (.agg #[.slice none 0 0, .slice none 0 0]) w) (w : World) :
    (Instr.build tx #[]).run P w = .ok (.agg #[.slice none 0 0, .slice none 0 0]) w := by
  have hs := hA.size
  have hc : (Value.agg #[Value.slice none 0 0, Value.slice none 0 0]).cells = #[Value.slice none 0 0, Value.slice none 0 0] := rfl
  simp [Instr.build, hz, run_underlying hA.und, Instr.fill, hA.t0, hA.t1, hs, hc]
theorem lx_fieldL {bn i : Nat} (hw : Region.wanted ⟨some d, .fieldAddr tx x i, t, p, af, g⟩ (yieldE ops (ups L b)) = true) (hA : StrL P tx el f0 f1) (hi : i = 0 ∨ i = 1) (hx : ev (ups L b) x = .pointer (some ⟨bn, 0, none⟩))
    (hn : Lx P S kd ops rest K (ups ((d, .pointer (some ⟨bn, i, none⟩)) :: L) b) h) : Lx P S kd ops (⟨some d, .fieldAddr tx x i, t, p, af, g⟩ :: rest) K (ups L b) h :=
  lx_free _ hw (fun w _ => by
    rcases hi with rfl | rfl
    · simp [execOp, hx, Instr.fieldAt, run_underlying hA.und, hA.o0, hA.t0, hA.size w, fieldPlace, Instr.sureAddr, add_lit]
    · simp [execOp, hx, Instr.fieldAt, run_underlying hA.und, hA.o1, hA.t1, hA.size w, fieldPlace, Instr.sureAddr, add_lit]) hn
theorem one2 {u v : Value} (hu : u.oneCell' = true) (hv : v.oneCell' = true) : ∀ x ∈ (#[u, v] : Array Value).toList, x.oneCell' = true := by
  intro x hx
  simp only [List.mem_cons, List.not_mem_nil, or_false] at hx
  rcases hx with rfl | rfl
  · exact hu
  · exact hv
end
end Go.X
namespace Go.Proofs.Ytdokijbdnajhgaa
open Go Go.X

theorem st119 : StrL Try.prog 119 49 { name := "join", type := 49, offset := 0, embedded := false, tag := "", pkgPath := "stadda/order", byteOffset := 0 } { name := "meet", type := 49, offset := 1, embedded := false, tag := "", pkgPath := "stadda/order", byteOffset := 24 } := ⟨Try.underlying119, rfl, rfl, rfl, rfl, Try.sizeOf49⟩

set_option maxRecDepth 10000 in
theorem omoebius_spec (h : Heap) (vp : Value) (hs : List Hdr) (p : List (List Bool)) (hr_vp : RdE encHd h vp hs) (ht_vp : RT encB h hs p) (hp1 : p.length ≤ 1000000) (hp2 : ∀ i, i < p.length → (gt p i).length ≤ 1000000) : Fx Try.prog 49 [vp] h (fun v h' => ∃ (s : Value) (hm : List Hdr) (r : List (List Int)), v = .tuple #[s, .int .i64 (chkT p)] ∧ OwE encHd h' h.size 25 s hm ∧ OT encI h' h.size 3 hm r ∧ ((chkT p ≠ 0 ∧ r = []) ∨ (chkT p = 0 ∧ r = muT p.length (pb p))) ∧ Ext h.size h h') := by
  have hl_vp := ht_vp.1
  refine fx_intro (n := 12) [(0, vp)] Try.func49 rfl rfl (by simp) ⟨rfl, trivial⟩ fun g0 => ?_
  refine wi_seq <| wi_reg rfl <| lx_assign (.slice none 0 0) rfl rfl <| lx_assign (.int .i64 0) rfl rfl <| lx_nil <| wi_seq <| wi_seq <| wi_reg rfl <| lx_move (vp) rfl rfl <| lx_call [vp] rfl rfl Try.call62 rfl (ocheck_spec h vp hs p hr_vp ht_vp (by omega) (by first | with_reducible assumption | omega)) (fun _ _ _ => trivial) ?_
  rintro _ h1 ⟨rfl, hx1⟩
  refine lx_assign (.int .i64 (chkT p)) rfl rfl <| lx_nil <| wi_seq <| wi_reg rfl <| lx_move (.int .i64 (chkT p)) rfl rfl <| lx_neqS rfl rfl rfl (fun c1 => ?_) (fun c1 => ?_)
  · refine lx_nil <| wi_true rfl <| wi_seq <| wi_reg rfl <| lx_move (.int .i64 (chkT p)) rfl rfl <| lx_assign (.slice none 0 0) rfl rfl <| lx_assign (.int .i64 (chkT p)) rfl rfl <| lx_nil <| ?_
    -- R1
    refine wi_ret ⟨.tuple #[.slice none 0 0, .int .i64 (chkT p)], (res_two rfl rfl rfl), ⟨.slice none 0 0, [], [], rfl, (owE_nil encHd _ h.size 25), (OT.nil encI _ h.size 3), ?_, hx1⟩⟩
    · exact .inl ⟨by omega, rfl⟩
  · refine lx_nil <| wi_false rfl <| wi_skip <| wi_seq <| wi_reg rfl <| ?_
    have hok := chkT_ok (p := p) (by omega)
    have hp12 : p.length ≤ 12 := hok.2.1
    have hpq : Sq p p.length := isT_sq hok.2.2
    refine lx_move (vp) rfl rfl <| lx_call [vp] rfl rfl Try.call108 rfl (moebius_spec h1 vp hs p (hr_vp.extS hx1) (ht_vp.extS hx1) (by omega) hok.2.2) (fun _ _ _ => trivial) ?_
    rintro v1 h2 ⟨_, hm_1, rfl, ho1, hot1, hx2⟩
    have hx0_1 := hx1.trans2 hx2 hx1.size
    have ho2 := ho1.base hx1.size
    have hot2 := hot1.base hx1.size
    have hl_hot2 := hot2.1
    refine lx_assign (v1) rfl rfl <| lx_assign (.int .i64 0) rfl rfl <| lx_nil <| ?_
    -- R2
    refine wi_ret ⟨.tuple #[v1, .int .i64 0], (res_two rfl rfl rfl), ⟨v1, hm_1, muT p.length (pb p), ?_, ho2, hot2, ?_, hx0_1⟩⟩
    · rw [show chkT p = 0 from by omega]
    · exact .inr ⟨by omega, rfl⟩

/-- Right below. -/
def rbF (n : Nat) (f : Nat → Nat → Bool) (x y : Nat) : Bool := (decide (x ≠ y) && f x y) && (List.range n).all fun z => !((decide (x ≠ z) && f x z) && (decide (z ≠ y) && f z y))
theorem rb_no {n x y z : Nat} {f : Nat → Nat → Bool} (hz : z < n) (h1 : (decide (x ≠ z) && f x z) = true) (h2 : (decide (z ≠ y) && f z y) = true) : rbF n f x y = false := by
  unfold rbF
  rw [Bool.and_eq_false_iff]
  right
  rw [Bool.eq_false_iff]
  intro h
  have := rall_iff.1 h z hz
  rw [h1, h2] at this
  cases this
theorem rb_yes {n x y : Nat} {f : Nat → Nat → Bool} (h : ∀ z, z < n → ((decide (x ≠ z) && f x z) && (decide (z ≠ y) && f z y)) = false) : rbF n f x y = (decide (x ≠ y) && f x y) := by
  unfold rbF
  rw [show ((List.range n).all fun z => !((decide (x ≠ z) && f x z) && (decide (z ≠ y) && f z y))) = true from rall_iff.2 fun z hz => by rw [h z hz]; rfl, Bool.and_true]
set_option maxRecDepth 10000 in
theorem rightBelow_spec (h : Heap) (vp : Value) (hs : List Hdr) (p : List (List Bool)) (x : Nat) (y : Nat) (hr_vp : RdE encHd h vp hs) (ht_vp : RT encB h hs p) (hp1 : p.length ≤ 12) (hp2 : Sq p p.length) (hp3 : x < p.length) (hp4 : y < p.length) : Fx Try.prog 96 [vp, .int .i64 ((x : Nat) : Int), .int .i64 ((y : Nat) : Int)] h (fun v h' => v = .bool (rbF p.length (pb p) x y) ∧ h = h') := by
  have hl_vp := ht_vp.1
  refine fx_intro (n := 28) [(0, vp), (1, .int .i64 ((x : Nat) : Int)), (2, .int .i64 ((y : Nat) : Int))] Try.func96 rfl rfl (by simp) ⟨rfl, rfl, rfl, trivial⟩ fun g0 => ?_
  refine wi_seq <| wi_reg rfl <| lx_assign (.bool false) rfl rfl <| lx_nil <| wi_seq <| wi_seq <| wi_reg rfl <| lx_move (vp) rfl rfl <| lx_len rfl Try.underlying29 hr_vp rfl <| lx_move (.int .i64 0) rfl rfl <| lx_nil <| wi_block <| ?_
  refine wi_loop (σ := Nat) (rngB 10 24 [6, 7]) (fun (z : Nat) => [(10, .int .i64 ((z : Nat) : Int))]) (fun (z : Nat) (hh : Heap) => h = hh ∧ (z ≤ p.length) ∧ (∀ w, w < z → ((decide (x ≠ w) && pb p x w) && (decide (w ≠ y) && pb p w y)) = false)) (fun (z : Nat) => p.length - z) 0 ⟨rfl, trivial⟩ ⟨rfl, ?_, ?_⟩ ?_
  · try dsimp only
    omega
  · try dsimp only
    intro w hw; omega
  rintro g1 z hh1 ⟨rfl, hz, ha⟩ IH1
  refine wi_seq <| wi_reg rfl <| lx_lssS rfl rfl rfl (fun c1 => ?_) (fun c1 => ?_)
  · refine lx_nil <| wi_seq <| wi_true rfl <| wi_skip <| wi_seq <| wi_block <| wi_seq <| wi_reg rfl <| lx_move (.int .i64 ((z : Nat) : Int)) rfl rfl <| lx_assign (.int .i64 ((z : Nat) : Int)) rfl rfl <| lx_nil <| wi_seq <| wi_reg rfl <| lx_move (vp) rfl rfl <| lx_move (.int .i64 ((x : Nat) : Int)) rfl rfl <| lx_move (.int .i64 ((z : Nat) : Int)) rfl rfl <| lx_call [vp, .int .i64 ((x : Nat) : Int), .int .i64 ((z : Nat) : Int)] rfl rfl Try.call106 rfl (below_spec h vp hs p x z hr_vp ht_vp (by omega) (by first | with_reducible assumption | omega) (by omega) (by omega)) (fun _ _ _ => trivial) ?_
    rintro _ h1 ⟨rfl, rfl⟩
    refine lx_move (.bool (decide (x ≠ z) && pb p x z)) rfl rfl <| ?_
    cases c2 : (decide (x ≠ z) && pb p x z)
    · refine lx_skip rfl <| lx_skip rfl <| lx_skip rfl <| lx_skip rfl <| lx_pick false (.bool false) rfl rfl rfl <| lx_nil <| wi_false rfl <| wi_skip <| wi_inBlock <| wi_reg rfl <| lx_add (((z + 1 : Nat) : Int)) rfl rfl rfl (by omega) (by omega) (by omega) <| lx_move (.int .i64 ((z + 1 : Nat) : Int)) rfl rfl <| lx_nil <| ?_
      -- L0.1
      refine IH1 _ _ (z + 1) (agree_ups rfl agree_self) ⟨rfl, trivial⟩ ⟨rfl, ?_, ?_⟩ ?_
      · try dsimp only
        omega
      · try dsimp only
        intro w hw
        by_cases e : w = z
        · subst e; first | (rw [show (decide (x ≠ w) && pb p x w) = false from by assumption]; rfl) | (rw [show (decide (w ≠ y) && pb p w y) = false from by assumption, Bool.and_false])
        · exact ha w (by omega)
      · first | omega | (dsimp only; omega)
    · refine lx_move (vp) rfl rfl <| lx_move (.int .i64 ((z : Nat) : Int)) rfl rfl <| lx_move (.int .i64 ((y : Nat) : Int)) rfl rfl <| lx_call [vp, .int .i64 ((z : Nat) : Int), .int .i64 ((y : Nat) : Int)] rfl rfl Try.call106 rfl (below_spec h vp hs p z y hr_vp ht_vp (by omega) (by first | with_reducible assumption | omega) (by omega) (by omega)) (fun _ _ _ => trivial) ?_
      rintro _ h2 ⟨rfl, rfl⟩
      refine lx_pick true (.bool (decide (z ≠ y) && pb p z y)) rfl rfl rfl <| lx_nil <| wi_condS (t := decide (z ≠ y) && pb p z y) rfl (fun c3 => ?_) (fun c3 => ?_)
      · refine wi_seq <| wi_reg rfl <| lx_assign (.bool false) rfl rfl <| lx_nil <| ?_
        -- R1
        refine wi_ret ⟨.bool false, (res_one rfl rfl), ⟨?_, rfl⟩⟩
        · congr 1
          first
          | exact (rb_no (z := z) (by omega) (by assumption) (by assumption)).symm
          | exact (rb_yes (fun w hw => ha w (by omega))).symm
      · refine wi_skip <| wi_inBlock <| wi_reg rfl <| lx_add (((z + 1 : Nat) : Int)) rfl rfl rfl (by omega) (by omega) (by omega) <| lx_move (.int .i64 ((z + 1 : Nat) : Int)) rfl rfl <| lx_nil <| ?_
        -- L0.2
        refine IH1 _ _ (z + 1) (agree_ups rfl agree_self) ⟨rfl, trivial⟩ ⟨rfl, ?_, ?_⟩ ?_
        · try dsimp only
          omega
        · try dsimp only
          intro w hw
          by_cases e : w = z
          · subst e; first | (rw [show (decide (x ≠ w) && pb p x w) = false from by assumption]; rfl) | (rw [show (decide (w ≠ y) && pb p w y) = false from by assumption, Bool.and_false])
          · exact ha w (by omega)
        · first | omega | (dsimp only; omega)
  · refine lx_nil <| wi_seq <| wi_false rfl <| wi_exit rfl <| wi_seq <| wi_reg rfl <| lx_move (vp) rfl rfl <| lx_move (.int .i64 ((x : Nat) : Int)) rfl rfl <| lx_move (.int .i64 ((y : Nat) : Int)) rfl rfl <| lx_call [vp, .int .i64 ((x : Nat) : Int), .int .i64 ((y : Nat) : Int)] rfl rfl Try.call106 rfl (below_spec h vp hs p x y hr_vp ht_vp (by omega) (by first | with_reducible assumption | omega) (by omega) (by omega)) (fun _ _ _ => trivial) ?_
    rintro _ h3 ⟨rfl, rfl⟩
    refine lx_assign (.bool (decide (x ≠ y) && pb p x y)) rfl rfl <| lx_nil <| ?_
    -- R2
    refine wi_ret ⟨.bool (decide (x ≠ y) && pb p x y), (res_one rfl rfl), ⟨?_, rfl⟩⟩
    · congr 1
      first
      | exact (rb_no (z := z) (by omega) (by assumption) (by assumption)).symm
      | exact (rb_yes (fun w hw => ha w (by omega))).symm

end Go.Proofs.Ytdokijbdnajhgaa
namespace Go.Proofs.Ytdokijbdnajhgaa
open Go Go.X

set_option maxRecDepth 10000 in
theorem bound_up_spec (h : Heap) (vp : Value) (hs : List Hdr) (p : List (List Bool)) (t : Nat) (hr_vp : RdE encHd h vp hs) (ht_vp : RT encB h hs p) (hp1 : p.length ≤ 12) (hp2 : Sq p p.length) (hp3 : t < 4096) : Fx Try.prog 95 [vp, .int .i64 ((t : Nat) : Int), .func (.func 80) #[vp] #[]] h (fun v h' => v = .int .i64 (firstF p.length (bndB (upF p.length (pb p)) t)) ∧ h = h') := by
  have hl_vp := ht_vp.1
  refine fx_intro (n := 29) [(0, vp), (1, .int .i64 ((t : Nat) : Int)), (2, .func (.func 80) #[vp] #[])] Try.func95 rfl rfl (by simp) ⟨rfl, rfl, rfl, trivial⟩ fun g0 => ?_
  refine wi_seq <| wi_reg rfl <| lx_assign (.int .i64 0) rfl rfl <| lx_nil <| wi_seq <| wi_seq <| wi_reg rfl <| lx_move (vp) rfl rfl <| lx_len rfl Try.underlying29 hr_vp rfl <| lx_move (.int .i64 0) rfl rfl <| lx_nil <| wi_block <| ?_
  refine wi_loop (σ := Nat) (rngB 10 29 [6, 7]) (fun (x : Nat) => [(10, .int .i64 ((x : Nat) : Int))]) (fun (x : Nat) (hh : Heap) => h = hh ∧ (x ≤ p.length) ∧ (∀ i, i < x → bndB (upF p.length (pb p)) t i = false)) (fun (x : Nat) => p.length - x) 0 ⟨rfl, trivial⟩ ⟨rfl, ?_, ?_⟩ ?_
  · try dsimp only
    omega
  · try dsimp only
    intro i hi; omega
  rintro g1 x hh1 ⟨rfl, hx, ha⟩ IH1
  refine wi_seq <| wi_reg rfl <| lx_lssS rfl rfl rfl (fun c1 => ?_) (fun c1 => ?_)
  · refine lx_nil <| wi_seq <| wi_true rfl <| wi_skip <| wi_seq <| wi_block <| wi_seq <| wi_reg rfl <| lx_move (.int .i64 ((x : Nat) : Int)) rfl rfl <| lx_assign (.int .i64 ((x : Nat) : Int)) rfl rfl <| lx_nil <| wi_seq <| wi_reg rfl <| ?_
    have hbl : t / 2 ^ x &&& 1 ≤ 1 := Nat.and_le_right
    have hdv := Nat.div_le_self t (2 ^ x)
    have hul := upF_lt p.length (pb p) x
    have hpw := pow12 hp1
    have hal := andNot_le t (upF p.length (pb p) x)
    refine lx_move (.int .i64 ((t : Nat) : Int)) rfl rfl <| lx_move (.int .i64 ((x : Nat) : Int)) rfl rfl <| lx_conv ((x : Nat) : Int) rfl Try.underlying3 Try.underlying45 rfl (wrap_u64 (by omega) (by omega)) <| lx_shr (m := t) (n := x) rfl rfl rfl (by show _ ≤ 64; omega) <| lx_and (m := t / 2 ^ x) (n := 1) rfl rfl rfl (by show _ < 2 ^ 64; omega) (by show _ < 2 ^ 64; omega) (wrap_i64 (by omega) (by omega)) <| lx_eqlS rfl rfl rfl (fun c2 => ?_) (fun c2 => ?_)
    · refine lx_move (.bool true) rfl rfl <| lx_move (.int .i64 ((t : Nat) : Int)) rfl rfl <| lx_move (.func (.func 80) #[vp] #[]) rfl rfl <| lx_move (.int .i64 ((x : Nat) : Int)) rfl rfl <| lx_callV [vp] [] [.int .i64 ((x : Nat) : Int)] rfl rfl Try.call80 rfl rfl (up_spec h vp hs p x hr_vp ht_vp (by omega) (by first | with_reducible assumption | omega) (by omega)) (fun _ _ _ => trivial) ?_
      rintro _ h1 ⟨rfl, rfl⟩
      refine lx_andNot (m := t) (n := upF p.length (pb p) x) rfl rfl rfl (by show _ < 2 ^ 64; omega) (by show _ < 2 ^ 64; omega) (wrap_i64 (by omega) (by omega)) <| lx_eqlS rfl rfl rfl (fun c3 => ?_) (fun c3 => ?_)
      · refine lx_pick true (.bool true) rfl rfl rfl <| lx_nil <| wi_true rfl <| wi_seq <| wi_reg rfl <| lx_move (.int .i64 ((x : Nat) : Int)) rfl rfl <| lx_assign (.int .i64 ((x : Nat) : Int)) rfl rfl <| lx_nil <| ?_
        -- R1
        refine wi_ret ⟨.int .i64 ((x : Nat) : Int), (res_one rfl rfl), ⟨?_, rfl⟩⟩
        · congr 1
          first
          | exact (firstF_none (fun i hi => ha i (by omega))).symm
          | exact (firstF_some (z := x) (by omega) (by unfold bndB; rw [bit_nz (by omega), ← incl_D, decide_eq_true (by omega)]; rfl) ha).symm
      · refine lx_pick true (.bool false) rfl rfl rfl <| lx_nil <| wi_false rfl <| wi_skip <| wi_inBlock <| wi_reg rfl <| lx_add (((x + 1 : Nat) : Int)) rfl rfl rfl (by omega) (by omega) (by omega) <| lx_move (.int .i64 ((x + 1 : Nat) : Int)) rfl rfl <| lx_nil <| ?_
        -- L0.1
        refine IH1 _ _ (x + 1) (agree_ups rfl agree_self) ⟨rfl, trivial⟩ ⟨rfl, ?_, ?_⟩ ?_
        · try dsimp only
          omega
        · try dsimp only
          intro i hi
          by_cases e : i = x
          · subst e; unfold bndB; first | (rw [show t.testBit i = false from bit_zero.1 (by omega)]; rfl) | (rw [← incl_D, decide_eq_false (by omega), Bool.and_false])
          · exact ha i (by omega)
        · first | omega | (dsimp only; omega)
    · refine lx_move (.bool false) rfl rfl <| lx_skip rfl <| lx_skip rfl <| lx_skip rfl <| lx_skip rfl <| lx_skip rfl <| lx_skip rfl <| lx_pick false (.bool false) rfl rfl rfl <| lx_nil <| wi_false rfl <| wi_skip <| wi_inBlock <| wi_reg rfl <| lx_add (((x + 1 : Nat) : Int)) rfl rfl rfl (by omega) (by omega) (by omega) <| lx_move (.int .i64 ((x + 1 : Nat) : Int)) rfl rfl <| lx_nil <| ?_
      -- L0.2
      refine IH1 _ _ (x + 1) (agree_ups rfl agree_self) ⟨rfl, trivial⟩ ⟨rfl, ?_, ?_⟩ ?_
      · try dsimp only
        omega
      · try dsimp only
        intro i hi
        by_cases e : i = x
        · subst e; unfold bndB; first | (rw [show t.testBit i = false from bit_zero.1 (by omega)]; rfl) | (rw [← incl_D, decide_eq_false (by omega), Bool.and_false])
        · exact ha i (by omega)
      · first | omega | (dsimp only; omega)
  · refine lx_nil <| wi_seq <| wi_false rfl <| wi_exit rfl <| wi_seq <| wi_reg rfl <| lx_assign (.int .i64 (-1)) rfl rfl <| lx_nil <| ?_
    -- R2
    refine wi_ret ⟨.int .i64 (-1), (res_one rfl rfl), ⟨?_, rfl⟩⟩
    · congr 1
      first
      | exact (firstF_none (fun i hi => ha i (by omega))).symm
      | exact (firstF_some (z := x) (by omega) (by unfold bndB; rw [bit_nz (by omega), ← incl_D, decide_eq_true (by omega)]; rfl) ha).symm

set_option maxRecDepth 10000 in
theorem bound_dn_spec (h : Heap) (vp : Value) (hs : List Hdr) (p : List (List Bool)) (t : Nat) (hr_vp : RdE encHd h vp hs) (ht_vp : RT encB h hs p) (hp1 : p.length ≤ 12) (hp2 : Sq p p.length) (hp3 : t < 4096) : Fx Try.prog 95 [vp, .int .i64 ((t : Nat) : Int), .func (.func 81) #[vp] #[]] h (fun v h' => v = .int .i64 (firstF p.length (bndB (dnF p.length (pb p)) t)) ∧ h = h') := by
  have hl_vp := ht_vp.1
  refine fx_intro (n := 29) [(0, vp), (1, .int .i64 ((t : Nat) : Int)), (2, .func (.func 81) #[vp] #[])] Try.func95 rfl rfl (by simp) ⟨rfl, rfl, rfl, trivial⟩ fun g0 => ?_
  refine wi_seq <| wi_reg rfl <| lx_assign (.int .i64 0) rfl rfl <| lx_nil <| wi_seq <| wi_seq <| wi_reg rfl <| lx_move (vp) rfl rfl <| lx_len rfl Try.underlying29 hr_vp rfl <| lx_move (.int .i64 0) rfl rfl <| lx_nil <| wi_block <| ?_
  refine wi_loop (σ := Nat) (rngB 10 29 [6, 7]) (fun (x : Nat) => [(10, .int .i64 ((x : Nat) : Int))]) (fun (x : Nat) (hh : Heap) => h = hh ∧ (x ≤ p.length) ∧ (∀ i, i < x → bndB (dnF p.length (pb p)) t i = false)) (fun (x : Nat) => p.length - x) 0 ⟨rfl, trivial⟩ ⟨rfl, ?_, ?_⟩ ?_
  · try dsimp only
    omega
  · try dsimp only
    intro i hi; omega
  rintro g1 x hh1 ⟨rfl, hx, ha⟩ IH1
  refine wi_seq <| wi_reg rfl <| lx_lssS rfl rfl rfl (fun c1 => ?_) (fun c1 => ?_)
  · refine lx_nil <| wi_seq <| wi_true rfl <| wi_skip <| wi_seq <| wi_block <| wi_seq <| wi_reg rfl <| lx_move (.int .i64 ((x : Nat) : Int)) rfl rfl <| lx_assign (.int .i64 ((x : Nat) : Int)) rfl rfl <| lx_nil <| wi_seq <| wi_reg rfl <| ?_
    have hbl : t / 2 ^ x &&& 1 ≤ 1 := Nat.and_le_right
    have hdv := Nat.div_le_self t (2 ^ x)
    have hul := dnF_lt p.length (pb p) x
    have hpw := pow12 hp1
    have hal := andNot_le t (dnF p.length (pb p) x)
    refine lx_move (.int .i64 ((t : Nat) : Int)) rfl rfl <| lx_move (.int .i64 ((x : Nat) : Int)) rfl rfl <| lx_conv ((x : Nat) : Int) rfl Try.underlying3 Try.underlying45 rfl (wrap_u64 (by omega) (by omega)) <| lx_shr (m := t) (n := x) rfl rfl rfl (by show _ ≤ 64; omega) <| lx_and (m := t / 2 ^ x) (n := 1) rfl rfl rfl (by show _ < 2 ^ 64; omega) (by show _ < 2 ^ 64; omega) (wrap_i64 (by omega) (by omega)) <| lx_eqlS rfl rfl rfl (fun c2 => ?_) (fun c2 => ?_)
    · refine lx_move (.bool true) rfl rfl <| lx_move (.int .i64 ((t : Nat) : Int)) rfl rfl <| lx_move (.func (.func 81) #[vp] #[]) rfl rfl <| lx_move (.int .i64 ((x : Nat) : Int)) rfl rfl <| lx_callV [vp] [] [.int .i64 ((x : Nat) : Int)] rfl rfl Try.call81 rfl rfl (down_spec h vp hs p x hr_vp ht_vp (by omega) (by first | with_reducible assumption | omega) (by omega)) (fun _ _ _ => trivial) ?_
      rintro _ h1 ⟨rfl, rfl⟩
      refine lx_andNot (m := t) (n := dnF p.length (pb p) x) rfl rfl rfl (by show _ < 2 ^ 64; omega) (by show _ < 2 ^ 64; omega) (wrap_i64 (by omega) (by omega)) <| lx_eqlS rfl rfl rfl (fun c3 => ?_) (fun c3 => ?_)
      · refine lx_pick true (.bool true) rfl rfl rfl <| lx_nil <| wi_true rfl <| wi_seq <| wi_reg rfl <| lx_move (.int .i64 ((x : Nat) : Int)) rfl rfl <| lx_assign (.int .i64 ((x : Nat) : Int)) rfl rfl <| lx_nil <| ?_
        -- R1
        refine wi_ret ⟨.int .i64 ((x : Nat) : Int), (res_one rfl rfl), ⟨?_, rfl⟩⟩
        · congr 1
          first
          | exact (firstF_none (fun i hi => ha i (by omega))).symm
          | exact (firstF_some (z := x) (by omega) (by unfold bndB; rw [bit_nz (by omega), ← incl_D, decide_eq_true (by omega)]; rfl) ha).symm
      · refine lx_pick true (.bool false) rfl rfl rfl <| lx_nil <| wi_false rfl <| wi_skip <| wi_inBlock <| wi_reg rfl <| lx_add (((x + 1 : Nat) : Int)) rfl rfl rfl (by omega) (by omega) (by omega) <| lx_move (.int .i64 ((x + 1 : Nat) : Int)) rfl rfl <| lx_nil <| ?_
        -- L0.1
        refine IH1 _ _ (x + 1) (agree_ups rfl agree_self) ⟨rfl, trivial⟩ ⟨rfl, ?_, ?_⟩ ?_
        · try dsimp only
          omega
        · try dsimp only
          intro i hi
          by_cases e : i = x
          · subst e; unfold bndB; first | (rw [show t.testBit i = false from bit_zero.1 (by omega)]; rfl) | (rw [← incl_D, decide_eq_false (by omega), Bool.and_false])
          · exact ha i (by omega)
        · first | omega | (dsimp only; omega)
    · refine lx_move (.bool false) rfl rfl <| lx_skip rfl <| lx_skip rfl <| lx_skip rfl <| lx_skip rfl <| lx_skip rfl <| lx_skip rfl <| lx_pick false (.bool false) rfl rfl rfl <| lx_nil <| wi_false rfl <| wi_skip <| wi_inBlock <| wi_reg rfl <| lx_add (((x + 1 : Nat) : Int)) rfl rfl rfl (by omega) (by omega) (by omega) <| lx_move (.int .i64 ((x + 1 : Nat) : Int)) rfl rfl <| lx_nil <| ?_
      -- L0.2
      refine IH1 _ _ (x + 1) (agree_ups rfl agree_self) ⟨rfl, trivial⟩ ⟨rfl, ?_, ?_⟩ ?_
      · try dsimp only
        omega
      · try dsimp only
        intro i hi
        by_cases e : i = x
        · subst e; unfold bndB; first | (rw [show t.testBit i = false from bit_zero.1 (by omega)]; rfl) | (rw [← incl_D, decide_eq_false (by omega), Bool.and_false])
        · exact ha i (by omega)
      · first | omega | (dsimp only; omega)
  · refine lx_nil <| wi_seq <| wi_false rfl <| wi_exit rfl <| wi_seq <| wi_reg rfl <| lx_assign (.int .i64 (-1)) rfl rfl <| lx_nil <| ?_
    -- R2
    refine wi_ret ⟨.int .i64 (-1), (res_one rfl rfl), ⟨?_, rfl⟩⟩
    · congr 1
      first
      | exact (firstF_none (fun i hi => ha i (by omega))).symm
      | exact (firstF_some (z := x) (by omega) (by unfold bndB; rw [bit_nz (by omega), ← incl_D, decide_eq_true (by omega)]; rfl) ha).symm

set_option maxRecDepth 10000 in
theorem tab_up_spec (h : Heap) (vp : Value) (hs : List Hdr) (p : List (List Bool)) (b1 : Nat) (hb_b1 : Blk h b1 (#[vp]) 29) (hr_vp : RdE encHd h vp hs) (ht_vp : RT encB h hs p) (hp1 : p.length ≤ 12) (hp2 : Sq p p.length) : Fx Try.prog 132 [.func (.func 80) #[vp] #[], .pointer (some ⟨b1, 0, none⟩)] h (fun v h' => ∃ (s : Value) (hm : List Hdr), v = s ∧ OwE encHd h' h.size 25 s hm ∧ OT encI h' h.size 3 hm (tabI p.length (joinF p.length (pb p))) ∧ Ext h.size h h') := by
  have hl_vp := ht_vp.1
  refine fx_intro (n := 38) [(0, .func (.func 80) #[vp] #[]), (1, .pointer (some ⟨b1, 0, none⟩))] Try.func132 rfl rfl (by simp) ⟨rfl, rfl, trivial⟩ fun g0 => ?_
  refine wi_seq <| wi_reg rfl <| lx_assign (.slice none 0 0) rfl rfl <| lx_nil <| wi_seq <| wi_reg rfl <| lx_assign (.slice none 0 0) rfl rfl <| lx_nil <| wi_seq <| wi_seq <| wi_reg rfl <| lx_ldB (vp) rfl rfl fl29 hb_b1 rfl rfl <| lx_len rfl Try.underlying29 hr_vp rfl <| lx_move (.int .i64 0) rfl rfl <| lx_nil <| wi_block <| ?_
  refine wi_loop (σ := Nat × Value × (List Hdr) × (List (List Int))) (rngB 10 37 [4, 5, 6, 7]) (fun (ss : Nat × Value × (List Hdr) × (List (List Int))) => [(10, .int .i64 ((ss.1 : Nat) : Int)), (4, ss.2.1)]) (fun (ss : Nat × Value × (List Hdr) × (List (List Int))) (hh : Heap) => OwE encHd hh h.size 25 ss.2.1 ss.2.2.1 ∧ OT encI hh h.size 3 ss.2.2.1 ss.2.2.2 ∧ Blk hh b1 #[vp] 29 ∧ Ext h.size h hh ∧ (ss.1 ≤ p.length) ∧ (ss.2.2.2 = (List.range ss.1).map fun q => mapR p.length (joinF p.length (pb p) q))) (fun (ss : Nat × Value × (List Hdr) × (List (List Int))) => p.length - ss.1) (0, .slice none 0 0, [], []) ⟨rfl, rfl, trivial⟩ ⟨?_, ?_, ?_, (Ext.refl _ _), ?_, ?_⟩ ?_
  · first | exact (owE_nil encHd _ h.size 25) | (simpa using (owE_nil encHd _ h.size 25))
  · first | exact (OT.nil encI _ h.size 3) | (simpa using (OT.nil encI _ h.size 3))
  · exact hb_b1
  · try dsimp only
    omega
  · try dsimp only
    first | done | rfl
  rintro g1 ⟨x, v, hm, rows⟩ hh1 ⟨ho1, hot1, hbk1, hx0_1, hx, hrw⟩ IH1
  dsimp only at *
  have hrl : rows.length = x := by rw [hrw]; simp
  have hl_hot1 := hot1.1
  refine wi_seq <| wi_reg rfl <| lx_lssS rfl rfl rfl (fun c1 => ?_) (fun c1 => ?_)
  · refine lx_nil <| wi_seq <| wi_true rfl <| wi_skip <| wi_seq <| wi_block <| wi_seq <| wi_reg rfl <| lx_move (.int .i64 ((x : Nat) : Int)) rfl rfl <| lx_assign (.int .i64 ((x : Nat) : Int)) rfl rfl <| lx_nil <| wi_seq <| wi_reg rfl <| lx_assign (.slice none 0 0) rfl rfl <| lx_nil <| wi_seq <| wi_seq <| wi_reg rfl <| lx_ldB (vp) rfl rfl fl29 hbk1 rfl rfl <| lx_len rfl Try.underlying29 hr_vp rfl <| lx_move (.int .i64 0) rfl rfl <| lx_nil <| wi_block <| ?_
    refine wi_loop (σ := Nat × Value × (List Int)) (rngB 15 32 [6, 7]) (fun (ss : Nat × Value × (List Int)) => [(15, .int .i64 ((ss.1 : Nat) : Int)), (6, ss.2.1)]) (fun (ss : Nat × Value × (List Int)) (hh : Heap) => OwE encHd hh h.size 25 v hm ∧ OT encI hh h.size 3 hm rows ∧ OwE encI hh h.size 3 ss.2.1 ss.2.2 ∧ Djt hm ss.2.1 ∧ Blk hh b1 #[vp] 29 ∧ Ext h.size h hh ∧ (ss.1 ≤ p.length) ∧ (ss.2.2 = mapR ss.1 (joinF p.length (pb p) x))) (fun (ss : Nat × Value × (List Int)) => p.length - ss.1) (0, .slice none 0 0, []) ⟨rfl, rfl, trivial⟩ ⟨?_, ?_, ?_, (djt_nil _), ?_, hx0_1, ?_, ?_⟩ ?_
    · first | exact ho1 | (simpa using ho1)
    · first | exact hot1 | (simpa using hot1)
    · first | exact (owE_nil encI _ h.size 3) | (simpa using (owE_nil encI _ h.size 3))
    · exact hbk1
    · try dsimp only
      omega
    · try dsimp only
      first | done | rfl
    rintro g2 ⟨y, w, l⟩ hh2 ⟨ho2, hot2, ho3, hdt1, hbk2, hx0_2, hy, hl⟩ IH2
    dsimp only at *
    have hll : l.length = y := by rw [hl]; exact mapR_len _ _
    have hl_hot2 := hot2.1
    refine wi_seq <| wi_reg rfl <| lx_lssS rfl rfl rfl (fun c2 => ?_) (fun c2 => ?_)
    · refine lx_nil <| wi_seq <| wi_true rfl <| wi_skip <| wi_seq <| wi_block <| wi_seq <| wi_reg rfl <| lx_move (.int .i64 ((y : Nat) : Int)) rfl rfl <| lx_assign (.int .i64 ((y : Nat) : Int)) rfl rfl <| lx_nil <| wi_drawS (fun h9 => Blk h9 b1 #[vp] 29) (fun o => match o.dst with | some 19 => .free | _ => kindOf o) mo rfl (by decide +kernel) hbk2 <| ?_
      have hux := upF_lt p.length (pb p) x
      have huy := upF_lt p.length (pb p) y
      have hpw := pow12 hp1
      have hal : upF p.length (pb p) x &&& upF p.length (pb p) y ≤ upF p.length (pb p) x := Nat.and_le_left
      refine lx_move (w) rfl rfl <| lx_ldBF (vp) rfl fl29 (fun _ hs => hs) rfl rfl <| lx_move (.func (.func 80) #[vp] #[]) rfl rfl <| lx_move (.int .i64 ((x : Nat) : Int)) rfl rfl <| lx_callV [vp] [] [.int .i64 ((x : Nat) : Int)] rfl rfl Try.call80 rfl rfl (up_spec hh2 vp hs p x (hr_vp.extS hx0_2) (ht_vp.extS hx0_2) (by omega) (by first | with_reducible assumption | omega) (by omega)) (by rintro _ _ ⟨_, rfl⟩; exact hbk2) ?_
      rintro _ h1 ⟨rfl, rfl⟩
      refine lx_move (.func (.func 80) #[vp] #[]) rfl rfl <| lx_move (.int .i64 ((y : Nat) : Int)) rfl rfl <| lx_callV [vp] [] [.int .i64 ((y : Nat) : Int)] rfl rfl Try.call80 rfl rfl (up_spec hh2 vp hs p y (hr_vp.extS hx0_2) (ht_vp.extS hx0_2) (by omega) (by first | with_reducible assumption | omega) (by omega)) (by rintro _ _ ⟨_, rfl⟩; exact hbk2) ?_
      rintro _ h2 ⟨rfl, rfl⟩
      refine lx_and (m := upF p.length (pb p) x) (n := upF p.length (pb p) y) rfl rfl rfl (by show _ < 2 ^ 64; omega) (by show _ < 2 ^ 64; omega) (wrap_i64 (by omega) (by omega)) <| lx_move (.func (.func 80) #[vp] #[]) rfl rfl <| lx_call [vp, .int .i64 (((upF p.length (pb p) x) &&& (upF p.length (pb p) y) : Nat) : Int), .func (.func 80) #[vp] #[]] rfl rfl Try.call95 rfl (bound_up_spec hh2 vp hs p ((upF p.length (pb p) x) &&& (upF p.length (pb p) y)) (hr_vp.extS hx0_2) (ht_vp.extS hx0_2) (by omega) (by first | with_reducible assumption | omega) (by omega)) (by rintro _ _ ⟨_, rfl⟩; exact hbk2) ?_
      rintro _ h3 ⟨rfl, rfl⟩
      refine lx_appendL (E := encI) (B := h.size) [firstF p.length (bndB (upF p.length (pb p)) ((upF p.length (pb p) x) &&& (upF p.length (pb p) y)))] [.int .i64 (firstF p.length (bndB (upF p.length (pb p)) ((upF p.length (pb p) x) &&& (upF p.length (pb p) y))))] rfl rfl (fun _ => rfl) rfl eT25 rfl rfl rfl rfl ho3 (fun _ => rfl) (by show l.length + 1 ≤ _; omega) (by show (l.length + 1) * 8 ≤ _; omega) hx0_2.size (fun _ hc => Blk.chg hbk2 hc (nb_ty ho3 hbk2 (by decide))) fun u1 v1 h4 ho4 hc1 hg1 => ?_
      have hx0_3 := hx0_2.trans (ho3.ext hc1 hx0_2.size)
      have ho5 := ho2.chg hc1 (dj_ty ho2 ho3 (by decide))
      have hot3 := hot2.chg hc1 hdt1
      have hb1 := hbk2.chg hc1 (nb_ty ho3 hbk2 (by decide))
      refine lx_assign (v1) rfl rfl <| lx_nil <| wi_inBlock <| wi_reg rfl <| lx_add (((y + 1 : Nat) : Int)) rfl rfl rfl (by omega) (by omega) (by omega) <| lx_move (.int .i64 ((y + 1 : Nat) : Int)) rfl rfl <| lx_nil <| ?_
      -- L2.1
      refine IH2 _ _ (y + 1, v1, l ++ [firstF p.length (bndB (upF p.length (pb p)) ((upF p.length (pb p) x) &&& (upF p.length (pb p) y)))]) (agree_ups rfl agree_self) ⟨rfl, rfl, trivial⟩ ⟨?_, ?_, ?_, (djt_app hdt1 hot2 hg1), ?_, hx0_3, ?_, ?_⟩ ?_
      · first | exact ho5 | (simpa using ho5)
      · first | exact hot3 | (simpa using hot3)
      · first | exact ho4 | (simpa using ho4)
      · exact hb1
      · try dsimp only
        omega
      · try dsimp only
        rw [hl, bnd_join]; exact mapR_snoc _ _
      · first | omega | (dsimp only; omega)
    · have hot4 : OT encI hh2 h.size 3 (hm ++ [hdrOf w]) (rows ++ [l]) := OT.snoc hot2 ho3 hdt1
      refine lx_nil <| wi_seq <| wi_false rfl <| wi_exit rfl <| wi_reg rfl <| lx_move (v) rfl rfl <| lx_move (w) rfl rfl <| lx_appendL (E := encHd) (B := h.size) [hdrOf w] [w] rfl rfl (fun _ => rfl) rfl eT49 rfl rfl (hdr_cells1 ho3.rd) rfl ho2 (fun _ => rfl) (by show hm.length + 1 ≤ _; omega) (by show (hm.length + 1) * 24 ≤ _; omega) hx0_2.size (fun _ _ => trivial) fun u2 v2 h5 ho6 hc2 hg2 => ?_
      have hx0_4 := hx0_2.trans (ho2.ext hc2 hx0_2.size)
      have hb2 := hbk2.chg hc2 (nb_ty ho2 hbk2 (by decide))
      have hot5 : OT encI h5 h.size 3 (hm ++ [hdrOf w]) (rows ++ [l]) := hot4.chg hc2 (djt_ty hot4 ho2 (by decide))
      have hl_hot5 := hot5.1
      refine lx_assign (v2) rfl rfl <| lx_nil <| wi_inBlock <| wi_reg rfl <| lx_add (((x + 1 : Nat) : Int)) rfl rfl rfl (by omega) (by omega) (by omega) <| lx_move (.int .i64 ((x + 1 : Nat) : Int)) rfl rfl <| lx_nil <| ?_
      -- L0.1
      refine IH1 _ _ (x + 1, v2, hm ++ [hdrOf w], rows ++ [l]) (agree_ups rfl (agree_mix (rngB_sub (by decide) (by decide) rfl) (agree_ups rfl agree_self))) ⟨rfl, rfl, trivial⟩ ⟨?_, ?_, ?_, hx0_4, ?_, ?_⟩ ?_
      · first | exact ho6 | (simpa using ho6)
      · first | exact hot5 | (simpa using hot5)
      · exact hb2
      · try dsimp only
        omega
      · try dsimp only
        rw [hl, show y = p.length from by omega]; exact tabI_snoc hrw
      · first | omega | (dsimp only; omega)
  · refine lx_nil <| wi_seq <| wi_false rfl <| wi_exit rfl <| wi_seq <| wi_reg rfl <| lx_move (v) rfl rfl <| lx_assign (v) rfl rfl <| lx_nil <| ?_
    -- R1
    refine wi_ret ⟨v, (res_one rfl rfl), ⟨v, hm, rfl, ?_, ?_, hx0_1⟩⟩
    · exact ho1
    · rw [show tabI p.length (joinF p.length (pb p)) = rows from by rw [hrw, show x = p.length from by omega]; rfl]; exact hot1

set_option maxRecDepth 10000 in
theorem tab_dn_spec (h : Heap) (vp : Value) (hs : List Hdr) (p : List (List Bool)) (b1 : Nat) (hb_b1 : Blk h b1 (#[vp]) 29) (hr_vp : RdE encHd h vp hs) (ht_vp : RT encB h hs p) (hp1 : p.length ≤ 12) (hp2 : Sq p p.length) : Fx Try.prog 132 [.func (.func 81) #[vp] #[], .pointer (some ⟨b1, 0, none⟩)] h (fun v h' => ∃ (s : Value) (hm : List Hdr), v = s ∧ OwE encHd h' h.size 25 s hm ∧ OT encI h' h.size 3 hm (tabI p.length (meetF p.length (pb p))) ∧ Ext h.size h h') := by
  have hl_vp := ht_vp.1
  refine fx_intro (n := 38) [(0, .func (.func 81) #[vp] #[]), (1, .pointer (some ⟨b1, 0, none⟩))] Try.func132 rfl rfl (by simp) ⟨rfl, rfl, trivial⟩ fun g0 => ?_
  refine wi_seq <| wi_reg rfl <| lx_assign (.slice none 0 0) rfl rfl <| lx_nil <| wi_seq <| wi_reg rfl <| lx_assign (.slice none 0 0) rfl rfl <| lx_nil <| wi_seq <| wi_seq <| wi_reg rfl <| lx_ldB (vp) rfl rfl fl29 hb_b1 rfl rfl <| lx_len rfl Try.underlying29 hr_vp rfl <| lx_move (.int .i64 0) rfl rfl <| lx_nil <| wi_block <| ?_
  refine wi_loop (σ := Nat × Value × (List Hdr) × (List (List Int))) (rngB 10 37 [4, 5, 6, 7]) (fun (ss : Nat × Value × (List Hdr) × (List (List Int))) => [(10, .int .i64 ((ss.1 : Nat) : Int)), (4, ss.2.1)]) (fun (ss : Nat × Value × (List Hdr) × (List (List Int))) (hh : Heap) => OwE encHd hh h.size 25 ss.2.1 ss.2.2.1 ∧ OT encI hh h.size 3 ss.2.2.1 ss.2.2.2 ∧ Blk hh b1 #[vp] 29 ∧ Ext h.size h hh ∧ (ss.1 ≤ p.length) ∧ (ss.2.2.2 = (List.range ss.1).map fun q => mapR p.length (meetF p.length (pb p) q))) (fun (ss : Nat × Value × (List Hdr) × (List (List Int))) => p.length - ss.1) (0, .slice none 0 0, [], []) ⟨rfl, rfl, trivial⟩ ⟨?_, ?_, ?_, (Ext.refl _ _), ?_, ?_⟩ ?_
  · first | exact (owE_nil encHd _ h.size 25) | (simpa using (owE_nil encHd _ h.size 25))
  · first | exact (OT.nil encI _ h.size 3) | (simpa using (OT.nil encI _ h.size 3))
  · exact hb_b1
  · try dsimp only
    omega
  · try dsimp only
    first | done | rfl
  rintro g1 ⟨x, v, hm, rows⟩ hh1 ⟨ho1, hot1, hbk1, hx0_1, hx, hrw⟩ IH1
  dsimp only at *
  have hrl : rows.length = x := by rw [hrw]; simp
  have hl_hot1 := hot1.1
  refine wi_seq <| wi_reg rfl <| lx_lssS rfl rfl rfl (fun c1 => ?_) (fun c1 => ?_)
  · refine lx_nil <| wi_seq <| wi_true rfl <| wi_skip <| wi_seq <| wi_block <| wi_seq <| wi_reg rfl <| lx_move (.int .i64 ((x : Nat) : Int)) rfl rfl <| lx_assign (.int .i64 ((x : Nat) : Int)) rfl rfl <| lx_nil <| wi_seq <| wi_reg rfl <| lx_assign (.slice none 0 0) rfl rfl <| lx_nil <| wi_seq <| wi_seq <| wi_reg rfl <| lx_ldB (vp) rfl rfl fl29 hbk1 rfl rfl <| lx_len rfl Try.underlying29 hr_vp rfl <| lx_move (.int .i64 0) rfl rfl <| lx_nil <| wi_block <| ?_
    refine wi_loop (σ := Nat × Value × (List Int)) (rngB 15 32 [6, 7]) (fun (ss : Nat × Value × (List Int)) => [(15, .int .i64 ((ss.1 : Nat) : Int)), (6, ss.2.1)]) (fun (ss : Nat × Value × (List Int)) (hh : Heap) => OwE encHd hh h.size 25 v hm ∧ OT encI hh h.size 3 hm rows ∧ OwE encI hh h.size 3 ss.2.1 ss.2.2 ∧ Djt hm ss.2.1 ∧ Blk hh b1 #[vp] 29 ∧ Ext h.size h hh ∧ (ss.1 ≤ p.length) ∧ (ss.2.2 = mapR ss.1 (meetF p.length (pb p) x))) (fun (ss : Nat × Value × (List Int)) => p.length - ss.1) (0, .slice none 0 0, []) ⟨rfl, rfl, trivial⟩ ⟨?_, ?_, ?_, (djt_nil _), ?_, hx0_1, ?_, ?_⟩ ?_
    · first | exact ho1 | (simpa using ho1)
    · first | exact hot1 | (simpa using hot1)
    · first | exact (owE_nil encI _ h.size 3) | (simpa using (owE_nil encI _ h.size 3))
    · exact hbk1
    · try dsimp only
      omega
    · try dsimp only
      first | done | rfl
    rintro g2 ⟨y, w, l⟩ hh2 ⟨ho2, hot2, ho3, hdt1, hbk2, hx0_2, hy, hl⟩ IH2
    dsimp only at *
    have hll : l.length = y := by rw [hl]; exact mapR_len _ _
    have hl_hot2 := hot2.1
    refine wi_seq <| wi_reg rfl <| lx_lssS rfl rfl rfl (fun c2 => ?_) (fun c2 => ?_)
    · refine lx_nil <| wi_seq <| wi_true rfl <| wi_skip <| wi_seq <| wi_block <| wi_seq <| wi_reg rfl <| lx_move (.int .i64 ((y : Nat) : Int)) rfl rfl <| lx_assign (.int .i64 ((y : Nat) : Int)) rfl rfl <| lx_nil <| wi_drawS (fun h9 => Blk h9 b1 #[vp] 29) (fun o => match o.dst with | some 19 => .free | _ => kindOf o) mo rfl (by decide +kernel) hbk2 <| ?_
      have hux := dnF_lt p.length (pb p) x
      have huy := dnF_lt p.length (pb p) y
      have hpw := pow12 hp1
      have hal : dnF p.length (pb p) x &&& dnF p.length (pb p) y ≤ dnF p.length (pb p) x := Nat.and_le_left
      refine lx_move (w) rfl rfl <| lx_ldBF (vp) rfl fl29 (fun _ hs => hs) rfl rfl <| lx_move (.func (.func 81) #[vp] #[]) rfl rfl <| lx_move (.int .i64 ((x : Nat) : Int)) rfl rfl <| lx_callV [vp] [] [.int .i64 ((x : Nat) : Int)] rfl rfl Try.call81 rfl rfl (down_spec hh2 vp hs p x (hr_vp.extS hx0_2) (ht_vp.extS hx0_2) (by omega) (by first | with_reducible assumption | omega) (by omega)) (by rintro _ _ ⟨_, rfl⟩; exact hbk2) ?_
      rintro _ h1 ⟨rfl, rfl⟩
      refine lx_move (.func (.func 81) #[vp] #[]) rfl rfl <| lx_move (.int .i64 ((y : Nat) : Int)) rfl rfl <| lx_callV [vp] [] [.int .i64 ((y : Nat) : Int)] rfl rfl Try.call81 rfl rfl (down_spec hh2 vp hs p y (hr_vp.extS hx0_2) (ht_vp.extS hx0_2) (by omega) (by first | with_reducible assumption | omega) (by omega)) (by rintro _ _ ⟨_, rfl⟩; exact hbk2) ?_
      rintro _ h2 ⟨rfl, rfl⟩
      refine lx_and (m := dnF p.length (pb p) x) (n := dnF p.length (pb p) y) rfl rfl rfl (by show _ < 2 ^ 64; omega) (by show _ < 2 ^ 64; omega) (wrap_i64 (by omega) (by omega)) <| lx_move (.func (.func 81) #[vp] #[]) rfl rfl <| lx_call [vp, .int .i64 (((dnF p.length (pb p) x) &&& (dnF p.length (pb p) y) : Nat) : Int), .func (.func 81) #[vp] #[]] rfl rfl Try.call95 rfl (bound_dn_spec hh2 vp hs p ((dnF p.length (pb p) x) &&& (dnF p.length (pb p) y)) (hr_vp.extS hx0_2) (ht_vp.extS hx0_2) (by omega) (by first | with_reducible assumption | omega) (by omega)) (by rintro _ _ ⟨_, rfl⟩; exact hbk2) ?_
      rintro _ h3 ⟨rfl, rfl⟩
      refine lx_appendL (E := encI) (B := h.size) [firstF p.length (bndB (dnF p.length (pb p)) ((dnF p.length (pb p) x) &&& (dnF p.length (pb p) y)))] [.int .i64 (firstF p.length (bndB (dnF p.length (pb p)) ((dnF p.length (pb p) x) &&& (dnF p.length (pb p) y))))] rfl rfl (fun _ => rfl) rfl eT25 rfl rfl rfl rfl ho3 (fun _ => rfl) (by show l.length + 1 ≤ _; omega) (by show (l.length + 1) * 8 ≤ _; omega) hx0_2.size (fun _ hc => Blk.chg hbk2 hc (nb_ty ho3 hbk2 (by decide))) fun u1 v1 h4 ho4 hc1 hg1 => ?_
      have hx0_3 := hx0_2.trans (ho3.ext hc1 hx0_2.size)
      have ho5 := ho2.chg hc1 (dj_ty ho2 ho3 (by decide))
      have hot3 := hot2.chg hc1 hdt1
      have hb1 := hbk2.chg hc1 (nb_ty ho3 hbk2 (by decide))
      refine lx_assign (v1) rfl rfl <| lx_nil <| wi_inBlock <| wi_reg rfl <| lx_add (((y + 1 : Nat) : Int)) rfl rfl rfl (by omega) (by omega) (by omega) <| lx_move (.int .i64 ((y + 1 : Nat) : Int)) rfl rfl <| lx_nil <| ?_
      -- L2.1
      refine IH2 _ _ (y + 1, v1, l ++ [firstF p.length (bndB (dnF p.length (pb p)) ((dnF p.length (pb p) x) &&& (dnF p.length (pb p) y)))]) (agree_ups rfl agree_self) ⟨rfl, rfl, trivial⟩ ⟨?_, ?_, ?_, (djt_app hdt1 hot2 hg1), ?_, hx0_3, ?_, ?_⟩ ?_
      · first | exact ho5 | (simpa using ho5)
      · first | exact hot3 | (simpa using hot3)
      · first | exact ho4 | (simpa using ho4)
      · exact hb1
      · try dsimp only
        omega
      · try dsimp only
        rw [hl, bnd_meet]; exact mapR_snoc _ _
      · first | omega | (dsimp only; omega)
    · have hot4 : OT encI hh2 h.size 3 (hm ++ [hdrOf w]) (rows ++ [l]) := OT.snoc hot2 ho3 hdt1
      refine lx_nil <| wi_seq <| wi_false rfl <| wi_exit rfl <| wi_reg rfl <| lx_move (v) rfl rfl <| lx_move (w) rfl rfl <| lx_appendL (E := encHd) (B := h.size) [hdrOf w] [w] rfl rfl (fun _ => rfl) rfl eT49 rfl rfl (hdr_cells1 ho3.rd) rfl ho2 (fun _ => rfl) (by show hm.length + 1 ≤ _; omega) (by show (hm.length + 1) * 24 ≤ _; omega) hx0_2.size (fun _ _ => trivial) fun u2 v2 h5 ho6 hc2 hg2 => ?_
      have hx0_4 := hx0_2.trans (ho2.ext hc2 hx0_2.size)
      have hb2 := hbk2.chg hc2 (nb_ty ho2 hbk2 (by decide))
      have hot5 : OT encI h5 h.size 3 (hm ++ [hdrOf w]) (rows ++ [l]) := hot4.chg hc2 (djt_ty hot4 ho2 (by decide))
      have hl_hot5 := hot5.1
      refine lx_assign (v2) rfl rfl <| lx_nil <| wi_inBlock <| wi_reg rfl <| lx_add (((x + 1 : Nat) : Int)) rfl rfl rfl (by omega) (by omega) (by omega) <| lx_move (.int .i64 ((x + 1 : Nat) : Int)) rfl rfl <| lx_nil <| ?_
      -- L0.1
      refine IH1 _ _ (x + 1, v2, hm ++ [hdrOf w], rows ++ [l]) (agree_ups rfl (agree_mix (rngB_sub (by decide) (by decide) rfl) (agree_ups rfl agree_self))) ⟨rfl, rfl, trivial⟩ ⟨?_, ?_, ?_, hx0_4, ?_, ?_⟩ ?_
      · first | exact ho6 | (simpa using ho6)
      · first | exact hot5 | (simpa using hot5)
      · exact hb2
      · try dsimp only
        omega
      · try dsimp only
        rw [hl, show y = p.length from by omega]; exact tabI_snoc hrw
      · first | omega | (dsimp only; omega)
  · refine lx_nil <| wi_seq <| wi_false rfl <| wi_exit rfl <| wi_seq <| wi_reg rfl <| lx_move (v) rfl rfl <| lx_assign (v) rfl rfl <| lx_nil <| ?_
    -- R1
    refine wi_ret ⟨v, (res_one rfl rfl), ⟨v, hm, rfl, ?_, ?_, hx0_1⟩⟩
    · exact ho1
    · rw [show tabI p.length (meetF p.length (pb p)) = rows from by rw [hrw, show x = p.length from by omega]; rfl]; exact hot1

end Go.Proofs.Ytdokijbdnajhgaa
namespace Go.Proofs.Ytdokijbdnajhgaa
open Go Go.X

set_option maxRecDepth 10000 in
theorem tables_spec (h : Heap) (vp : Value) (hs : List Hdr) (p : List (List Bool)) (hr_vp : RdE encHd h vp hs) (ht_vp : RT encB h hs p) (hp1 : p.length ≤ 12) (hp2 : Sq p p.length) : Fx Try.prog 89 [vp] h (fun v h' => ∃ (s1 : Value) (s2 : Value) (h1 : List Hdr) (h2 : List Hdr), v = .agg #[s1, s2] ∧ OwE encHd h' h.size 25 s1 h1 ∧ OT encI h' h.size 3 h1 (tabI p.length (joinF p.length (pb p))) ∧ OwE encHd h' h.size 25 s2 h2 ∧ OT encI h' h.size 3 h2 (tabI p.length (meetF p.length (pb p))) ∧ Ext h.size h h') := by
  have hl_vp := ht_vp.1
  refine fx_intro (n := 14) [(0, vp)] Try.func89 rfl rfl (by simp) ⟨rfl, trivial⟩ fun g0 => ?_
  refine wi_seq <| wi_reg rfl <| lx_box #[vp] rfl rfl (sl_cells hr_vp) (fun _ _ _ => trivial) fun bn1 h1 hbn1 hbk1 hx1 hsz1 => ?_
  have hbb1 : h.size ≤ bn1 := by have := (Nat.le_refl h.size); omega
  refine lx_alloc rfl rfl Try.zeroValue119 (fun _ _ _ => trivial) fun bn2 h2 hbn2 hbk2 hx2 hsz2 => ?_
  have hbb2 : h.size ≤ bn2 := by have := hx1.size; omega
  have hne1 : bn2 ≠ bn1 := by have := hbk1.lt; omega
  have hx0_1 := hx1.trans2 hx2 hx1.size
  have hb1 := hbk1.extS hx2
  have hbk2 : Blk h2 bn2 #[.slice none 0 0, .slice none 0 0] 119 := hbk2
  refine lx_nil <| wi_seq <| wi_reg rfl <| lx_makeFunc [] [.pointer (some ⟨bn1, 0, none⟩)] rfl rfl rfl <| lx_assign (.func (.func 132) #[] #[.pointer (some ⟨bn1, 0, none⟩)]) rfl rfl <| lx_nil <| wi_seq <| wi_drawS (fun h9 => Blk h9 bn1 #[vp] 29) (fun o => match o.dst with | some 6 | some 10 => .free | _ => kindOf o) mo rfl (by decide +kernel) hb1 <| lx_move (.func (.func 132) #[] #[.pointer (some ⟨bn1, 0, none⟩)]) rfl rfl <| lx_ldBF (vp) rfl fl29 (fun _ hs => hs) rfl rfl <| lx_makeFunc [vp] [] rfl rfl rfl <| lx_callV [] [.pointer (some ⟨bn1, 0, none⟩)] [.func (.func 80) #[vp] #[]] rfl rfl Try.call132 rfl rfl (tab_up_spec h2 vp hs p bn1 hb1 (hr_vp.extS hx0_1) (ht_vp.extS hx0_1) (by omega) hp2) (by rintro _ _ ⟨_, _, _, _, _, e⟩; exact Blk.extS hb1 e) ?_
  rintro vj h3 ⟨_, hj, rfl, ho1, hot1, hx3⟩
  have hx0_2 := hx0_1.trans2 hx3 hx0_1.size
  have hb2 := hb1.extS hx3
  have hb3 := hbk2.extS hx3
  have ho2 := ho1.base hx0_1.size
  have hot2 := hot1.base hx0_1.size
  have hl_hot2 := hot2.1
  refine lx_move (.func (.func 132) #[] #[.pointer (some ⟨bn1, 0, none⟩)]) rfl rfl <| lx_ldBF (vp) rfl fl29 (fun _ hs => hs) rfl rfl <| lx_makeFunc [vp] [] rfl rfl rfl <| lx_callV [] [.pointer (some ⟨bn1, 0, none⟩)] [.func (.func 81) #[vp] #[]] rfl rfl Try.call132 rfl rfl (tab_dn_spec h3 vp hs p bn1 hb2 (hr_vp.extS hx0_2) (ht_vp.extS hx0_2) (by omega) hp2) (by rintro _ _ ⟨_, _, _, _, _, e⟩; exact Blk.extS hb2 e) ?_
  rintro vm h4 ⟨_, hm, rfl, ho3, hot3, hx4⟩
  have hx0_3 := hx0_2.trans2 hx4 hx0_2.size
  have ho4 := ho2.extS hx4
  have hot4 := hot2.extS hx4
  have hb4 := hb2.extS hx4
  have hb5 := hb3.extS hx4
  have ho5 := ho3.base hx0_2.size
  have hot5 := hot3.base hx0_2.size
  have hl_hot5 := hot5.1
  refine lx_build (.agg #[vj, vm]) [(0, vj), (1, vm)] rfl rfl (fun w => bldL st119 Try.zeroValue119 (sl_cells ho4.rd) (sl_cells ho5.rd) w) <| lx_stBA (#[vj, vm]) rfl rfl Try.sizeOf119 hb5 rfl rfl rfl rfl (one2 (sl_one ho4.rd) (sl_one ho5.rd)) (fun hs _ _ hc => ChgB.blk hc hs (by omega)) fun h5 hbk3 hc1 => ?_
  have hx0_4 := hx0_3.trans (hc1.ext hbb2)
  have ho6 := hc1.owE ho4 (nb_new hbk2 ho1)
  have hot6 := hot4.chgB hc1 (nbt_ty hot4 hb5 (by decide))
  have ho7 := hc1.owE ho5 (nb_new hb3 ho3)
  have hot7 := hot5.chgB hc1 (nbt_ty hot5 hb5 (by decide))
  have hb6 := hc1.blk hb4 (Ne.symm hne1)
  refine lx_nil <| ?_
  -- R1
  refine wi_ret ⟨.agg #[vj, vm], (res_cell rfl rfl hbk3 wd119 rfl), ⟨vj, vm, hj, hm, rfl, ho6, hot6, ho7, hot7, hx0_4⟩⟩

set_option maxRecDepth 10000 in
theorem gap_spec (h : Heap) (n : Nat) (f : Nat → Nat → Bool) (vj : Value) (hj : List Hdr) (rj : List (List Int)) (vm : Value) (hm : List Hdr) (rm : List (List Int)) (hr_vj : RdE encHd h vj hj) (ht_vj : RT encI h hj rj) (hr_vm : RdE encHd h vm hm) (ht_vm : RT encI h hm rm) (hp1 : n ≤ 12) (hp2 : rj = tabI n (joinF n f)) (hp3 : rm = tabI n (meetF n f)) : Fx Try.prog 90 [.agg #[vj, vm]] h (fun v h' => ∃ (x : Nat) (y : Nat) (b : Bool), v = .tuple #[.int .i64 ((x : Nat) : Int), .int .i64 ((y : Nat) : Int), .bool b] ∧ (gapR n f x y b) ∧ Ext h.size h h') := by
  have hl_vj := ht_vj.1
  have hl_vm := ht_vm.1
  refine fx_intro (n := 45) [(0, .agg #[vj, vm])] Try.func90 rfl rfl (by simp) ⟨rfl, trivial⟩ fun g0 => ?_
  refine wi_seq <| wi_reg rfl <| lx_box #[vj, vm] rfl rfl rfl (fun _ _ _ => trivial) fun bn1 h1 hbn1 hbk1 hx1 hsz1 => ?_
  have hbb1 : h.size ≤ bn1 := by have := (Nat.le_refl h.size); omega
  refine lx_assign (.int .i64 0) rfl rfl <| lx_assign (.int .i64 0) rfl rfl <| lx_assign (.bool false) rfl rfl <| lx_nil <| wi_seq <| wi_seq <| wi_reg rfl <| ?_
  have hjl : rj.length = n := by rw [hp2]; exact tabI_len _ _
  have hml : rm.length = n := by rw [hp3]; exact tabI_len _ _
  refine lx_fieldL (i := 0) rfl st119 (.inl rfl) rfl <| lx_ldB (vj) rfl rfl fl49 hbk1 rfl rfl <| lx_len rfl Try.underlying49 hr_vj rfl <| lx_move (.int .i64 0) rfl rfl <| lx_nil <| wi_block <| ?_
  refine wi_loop (σ := Nat) (rngB 10 45 [2, 3, 4, 5, 6]) (fun (x : Nat) => [(10, .int .i64 ((x : Nat) : Int))]) (fun (x : Nat) (hh : Heap) => h1 = hh ∧ (x ≤ n) ∧ (∀ i j, i < j → j < n → i < x → gapB n f i j = false)) (fun (x : Nat) => n - x) 0 ⟨rfl, trivial⟩ ⟨rfl, ?_, ?_⟩ ?_
  · try dsimp only
    omega
  · try dsimp only
    intro i j h1 h2 h3; omega
  rintro g1 x hh1 ⟨rfl, hx, ha⟩ IH1
  refine wi_seq <| wi_reg rfl <| lx_lssS rfl rfl rfl (fun c1 => ?_) (fun c1 => ?_)
  · refine lx_nil <| wi_seq <| wi_true rfl <| wi_skip <| wi_seq <| wi_block <| wi_seq <| wi_reg rfl <| lx_move (.int .i64 ((x : Nat) : Int)) rfl rfl <| lx_assign (.int .i64 ((x : Nat) : Int)) rfl rfl <| lx_nil <| wi_seq <| wi_reg rfl <| lx_move (.int .i64 ((x : Nat) : Int)) rfl rfl <| lx_add (((x + 1 : Nat) : Int)) rfl rfl rfl (by omega) (by omega) (by omega) <| lx_assign (.int .i64 ((x + 1 : Nat) : Int)) rfl rfl <| lx_nil <| wi_block <| ?_
    refine wi_loop (σ := Nat) (rngB 15 44 [2, 3, 4, 6]) (fun (y : Nat) => [(6, .int .i64 ((y : Nat) : Int))]) (fun (y : Nat) (hh : Heap) => h1 = hh ∧ (x < y ∧ y ≤ n) ∧ (∀ j, x < j → j < y → gapB n f x j = false)) (fun (y : Nat) => n - y) (x + 1) ⟨rfl, trivial⟩ ⟨rfl, ?_, ?_⟩ ?_
    · try dsimp only
      omega
    · try dsimp only
      intro j h1 h2; omega
    rintro g2 y hh2 ⟨rfl, hy, hb⟩ IH2
    refine wi_seq <| wi_seq <| wi_reg rfl <| lx_move (.int .i64 ((y : Nat) : Int)) rfl rfl <| lx_fieldL (i := 0) rfl st119 (.inl rfl) rfl <| lx_ldB (vj) rfl rfl fl49 hbk1 rfl rfl <| lx_len rfl Try.underlying49 hr_vj rfl <| lx_lssS rfl rfl rfl (fun c2 => ?_) (fun c2 => ?_)
    · refine lx_nil <| wi_true rfl <| wi_skip <| wi_seq <| wi_block <| wi_seq <| wi_reg rfl <| ?_
      have hjr : gt rj x = mapR n (joinF n f x) := by rw [hp2, gt_tabI (by omega)]
      have hmr : gt rm x = mapR n (meetF n f x) := by rw [hp3, gt_tabI (by omega)]
      have hjl2 : (gt rj x).length = n := by rw [hjr]; exact mapR_len _ _
      have hml2 : (gt rm x).length = n := by rw [hmr]; exact mapR_len _ _
      have hje : gt (gt rj x) y = joinF n f x y := by rw [hjr, gt_mapR (by omega)]
      have hme : gt (gt rm x) y = meetF n f x y := by rw [hmr, gt_mapR (by omega)]
      refine lx_fieldL (i := 0) rfl st119 (.inl rfl) rfl <| lx_ldB (vj) rfl rfl fl49 hbk1 rfl rfl <| lx_move (.int .i64 ((x : Nat) : Int)) rfl rfl <| lx_ix (i := x) rfl eT49 hr_vj rfl rfl (by omega) <| lx_ld (i := x) (j := 0) ((gt hj x).v) rfl rfl fl25 (hr_vj.extS hx1) (by omega) rfl rfl <| lx_move (.int .i64 ((y : Nat) : Int)) rfl rfl <| lx_ix (i := y) rfl eT25 (ht_vj.2 x (by omega)) rfl rfl (by omega) <| lx_ld (i := y) (j := 0) (.int .i64 (gt (gt rj x) y)) rfl rfl fl3 ((ht_vj.extS hx1).2 x (by omega)) (by omega) rfl rfl <| lx_lssS rfl rfl rfl (fun c3 => ?_) (fun c3 => ?_)
      · refine lx_move (.bool true) rfl rfl <| lx_skip rfl <| lx_skip rfl <| lx_skip rfl <| lx_skip rfl <| lx_skip rfl <| lx_skip rfl <| lx_skip rfl <| lx_skip rfl <| lx_skip rfl <| lx_pick true (.bool true) rfl rfl rfl <| lx_nil <| wi_true rfl <| wi_seq <| wi_reg rfl <| lx_move (.int .i64 ((x : Nat) : Int)) rfl rfl <| lx_move (.int .i64 ((y : Nat) : Int)) rfl rfl <| lx_assign (.int .i64 ((x : Nat) : Int)) rfl rfl <| lx_assign (.int .i64 ((y : Nat) : Int)) rfl rfl <| lx_assign (.bool true) rfl rfl <| lx_nil <| ?_
        -- R1
        refine wi_ret ⟨.tuple #[.int .i64 ((x : Nat) : Int), .int .i64 ((y : Nat) : Int), .bool true], (res_three rfl rfl rfl rfl), ⟨x, y, true, rfl, ?_, hx1⟩⟩
        · refine .inl ⟨rfl, by omega, by omega, ?_, fun i j h1 h2 h3 => ?_⟩
          · unfold gapB; rw [Bool.or_eq_true, decide_eq_true_iff, decide_eq_true_iff]; omega
          · rcases h3 with h3 | ⟨rfl, h3⟩
            · exact ha i j h1 h2 h3
            · exact hb j h1 h3
      · refine lx_move (.bool false) rfl rfl <| lx_fieldL (i := 1) rfl st119 (.inr rfl) rfl <| lx_ldB (vm) rfl rfl fl49 hbk1 rfl rfl <| lx_move (.int .i64 ((x : Nat) : Int)) rfl rfl <| lx_ix (i := x) rfl eT49 hr_vm rfl rfl (by omega) <| lx_ld (i := x) (j := 0) ((gt hm x).v) rfl rfl fl25 (hr_vm.extS hx1) (by omega) rfl rfl <| lx_move (.int .i64 ((y : Nat) : Int)) rfl rfl <| lx_ix (i := y) rfl eT25 (ht_vm.2 x (by omega)) rfl rfl (by omega) <| lx_ld (i := y) (j := 0) (.int .i64 (gt (gt rm x) y)) rfl rfl fl3 ((ht_vm.extS hx1).2 x (by omega)) (by omega) rfl rfl <| lx_lssS rfl rfl rfl (fun c4 => ?_) (fun c4 => ?_)
        · refine lx_pick false (.bool true) rfl rfl rfl <| lx_nil <| wi_true rfl <| wi_seq <| wi_reg rfl <| lx_move (.int .i64 ((x : Nat) : Int)) rfl rfl <| lx_move (.int .i64 ((y : Nat) : Int)) rfl rfl <| lx_assign (.int .i64 ((x : Nat) : Int)) rfl rfl <| lx_assign (.int .i64 ((y : Nat) : Int)) rfl rfl <| lx_assign (.bool true) rfl rfl <| lx_nil <| ?_
          -- R2
          refine wi_ret ⟨.tuple #[.int .i64 ((x : Nat) : Int), .int .i64 ((y : Nat) : Int), .bool true], (res_three rfl rfl rfl rfl), ⟨x, y, true, rfl, ?_, hx1⟩⟩
          · refine .inl ⟨rfl, by omega, by omega, ?_, fun i j h1 h2 h3 => ?_⟩
            · unfold gapB; rw [Bool.or_eq_true, decide_eq_true_iff, decide_eq_true_iff]; omega
            · rcases h3 with h3 | ⟨rfl, h3⟩
              · exact ha i j h1 h2 h3
              · exact hb j h1 h3
        · refine lx_pick false (.bool false) rfl rfl rfl <| lx_nil <| wi_false rfl <| wi_skip <| wi_inBlock <| wi_reg rfl <| lx_move (.int .i64 ((y : Nat) : Int)) rfl rfl <| lx_add (((y + 1 : Nat) : Int)) rfl rfl rfl (by omega) (by omega) (by omega) <| lx_assign (.int .i64 ((y + 1 : Nat) : Int)) rfl rfl <| lx_nil <| ?_
          -- L2.1
          refine IH2 _ _ (y + 1) (agree_ups rfl agree_self) ⟨rfl, trivial⟩ ⟨rfl, ?_, ?_⟩ ?_
          · try dsimp only
            omega
          · try dsimp only
            intro j h1 h2
            by_cases e : j = y
            · subst e; unfold gapB; rw [decide_eq_false (by omega), decide_eq_false (by omega)]; rfl
            · exact hb j h1 (by omega)
          · first | omega | (dsimp only; omega)
    · refine lx_nil <| wi_false rfl <| wi_exit rfl <| wi_inBlock <| wi_reg rfl <| lx_add (((x + 1 : Nat) : Int)) rfl rfl rfl (by omega) (by omega) (by omega) <| lx_move (.int .i64 ((x + 1 : Nat) : Int)) rfl rfl <| lx_nil <| ?_
      -- L0.1
      refine IH1 _ _ (x + 1) (agree_ups rfl (agree_mix (rngB_sub (by decide) (by decide) rfl) (agree_ups rfl agree_self))) ⟨rfl, trivial⟩ ⟨rfl, ?_, ?_⟩ ?_
      · try dsimp only
        omega
      · try dsimp only
        intro i j h1 h2 h3
        by_cases e : i = x
        · subst e; exact hb j h1 (by omega)
        · exact ha i j h1 h2 (by omega)
      · first | omega | (dsimp only; omega)
  · refine lx_nil <| wi_seq <| wi_false rfl <| wi_exit rfl <| wi_seq <| wi_reg rfl <| lx_assign (.int .i64 0) rfl rfl <| lx_assign (.int .i64 0) rfl rfl <| lx_assign (.bool false) rfl rfl <| lx_nil <| ?_
    -- R3
    refine wi_ret ⟨.tuple #[.int .i64 0, .int .i64 0, .bool false], (res_three rfl rfl rfl rfl), ⟨0, 0, false, ?_, ?_, hx1⟩⟩
    · first | rfl | (simp; done) | (simp; omega)
    · exact .inr ⟨rfl, rfl, rfl, fun i j h1 h2 => ha i j h1 h2 (by omega)⟩

end Go.Proofs.Ytdokijbdnajhgaa
namespace Go.X
section
variable {P : Program} {fn : Func} {e : Env} {h : Heap}
theorem res_cell2 {t ty m u : Nat} (hr : fn.results = #[.cell t ty, .tmp u]) {bn te : Nat} {cs : Array Value} {v2 : Value} (hp : e t = .pointer (some ⟨bn, 0, none⟩)) (hb : Blk h bn cs te) (hW : Wide P ty m) (hl : cs.size = m) (h2 : e u = v2) : ResOb P fn e h (.tuple #[.agg cs, v2]) := by
  intro a w ha hh
  subst hh
  have h3 := run_load_wide (P := P) hW (w := w) (a := ⟨bn, 0, none⟩) (us := cs.toList) (by simpa using hl) (fun j u hju => by
      rw [add_lit, hb.cell]; simpa using hju)
  have hp' : a.tmps[t]?.getD undef = .pointer (some ⟨bn, 0, none⟩) := by
    have := ha t
    rw [hp] at this
    simpa using this
  have hu : a.tmps[u]?.getD undef = v2 := by
    have := ha u
    rw [h2] at this
    simpa using this
  simp [results, hr, hp', hu, asAddr, h3]
theorem res_cell3 {t ty m u x : Nat} (hr : fn.results = #[.cell t ty, .tmp u, .tmp x]) {bn te : Nat} {cs : Array Value} {v2 v3 : Value} (hp : e t = .pointer (some ⟨bn, 0, none⟩)) (hb : Blk h bn cs te) (hW : Wide P ty m) (hl : cs.size = m) (h2 : e u = v2) (h3 : e x = v3) : ResOb P fn e h (.tuple #[.agg cs, v2, v3]) := by
  intro a w ha hh
  subst hh
  have h4 := run_load_wide (P := P) hW (w := w) (a := ⟨bn, 0, none⟩) (us := cs.toList) (by simpa using hl) (fun j u hju => by
      rw [add_lit, hb.cell]; simpa using hju)
  have hp' : a.tmps[t]?.getD undef = .pointer (some ⟨bn, 0, none⟩) := by
    have := ha t
    rw [hp] at this
    simpa using this
  have hu : a.tmps[u]?.getD undef = v2 := by
    have := ha u
    rw [h2] at this
    simpa using this
  have hx : a.tmps[x]?.getD undef = v3 := by
    have := ha x
    rw [h3] at this
    simpa using this
  simp [results, hr, hp', hu, hx, asAddr, h4]
end
end Go.X
namespace Go.X
structure Lat (α : Type) where
  le : α → α → Prop
  j : α → α → α
  m : α → α → α
  refl : ∀ x, le x x
  anti : ∀ {x y}, le x y → le y x → x = y
  trans : ∀ {x y z}, le x y → le y z → le x z
  j1 : ∀ x y, le x (j x y)
  j2 : ∀ x y, le y (j x y)
  jl : ∀ {x y z}, le x z → le y z → le (j x y) z
  m1 : ∀ x y, le (m x y) x
  m2 : ∀ x y, le (m x y) y
  ml : ∀ {x y z}, le z x → le z y → le z (m x y)
namespace Lat
variable {α : Type} (L : Lat α)
def lo (x y z : α) : α := L.j (L.m x y) (L.j (L.m y z) (L.m z x))
def hi (x y z : α) : α := L.m (L.j x y) (L.m (L.j y z) (L.j z x))
end Lat
end Go.X
namespace Go.X
theorem jnB_comm {n x y z : Nat} {f : Nat → Nat → Bool} : jnB n f x y z = jnB n f y x z := by
  rw [Bool.eq_iff_iff, jnB_iff, jnB_iff]
  exact ⟨fun ⟨a, b, c⟩ => ⟨b, a, fun w hw h1 h2 => c w hw h2 h1⟩, fun ⟨a, b, c⟩ => ⟨b, a, fun w hw h1 h2 => c w hw h2 h1⟩⟩
theorem joinF_comm (n : Nat) (f : Nat → Nat → Bool) (x y : Nat) : joinF n f x y = joinF n f y x := firstF_congr fun z _ => jnB_comm
theorem meetF_comm (n : Nat) (f : Nat → Nat → Bool) (x y : Nat) : meetF n f x y = meetF n f y x := joinF_comm n _ x y
theorem joinF_some {n x y : Nat} {f : Nat → Nat → Bool} (h : 0 ≤ joinF n f x y) : ∃ z : Nat, joinF n f x y = (z : Int) ∧ z < n ∧ f x z = true ∧ f y z = true ∧ ∀ w, w < n → f x w = true → f y w = true → f z w = true := by
  rcases firstF_cases n (jnB n f x y) with ⟨h1, _⟩ | ⟨z, hz, hzn, hp, _⟩
  · unfold joinF at h; omega
  · obtain ⟨a, b, c⟩ := jnB_iff.1 hp
    exact ⟨z, hz, hzn, a, b, c⟩
theorem flip_o {n : Nat} {f : Nat → Nat → Bool} (ho : IsO n f) : IsO n (flipF f) :=
  isO_mk (fun x hx => ho.refl hx) (fun x y hx hy a b => ho.anti hx hy b a) (fun x y z hx hy hz a b => ho.trans hz hy hx b a)
theorem join_is {n x y z : Nat} {f : Nat → Nat → Bool} (ho : IsO n f) (hz : z < n) (h1 : f x z = true) (h2 : f y z = true) (h3 : ∀ w, w < n → f x w = true → f y w = true → f z w = true) : joinF n f x y = (z : Int) := by
  rcases firstF_cases n (jnB n f x y) with ⟨_, h⟩ | ⟨u, hu, hun, hp, _⟩
  · have := h z hz
    rw [jnB_iff.2 ⟨h1, h2, h3⟩] at this; cases this
  · obtain ⟨a, b, c⟩ := jnB_iff.1 hp
    unfold joinF
    rw [hu, ho.anti hun hz (c z hz h1 h2) (h3 u hun a b)]
theorem join_self {n x : Nat} {f : Nat → Nat → Bool} (ho : IsO n f) (hx : x < n) : joinF n f x x = (x : Int) := join_is ho hx (ho.refl hx) (ho.refl hx) fun w _ h _ => h
/-- All have a join, and a meet. -/
def noGap (n : Nat) (f : Nat → Nat → Bool) : Prop := ∀ i j, i < j → j < n → gapB n f i j = false
theorem gapB_no {n x y : Nat} {f : Nat → Nat → Bool} (h : gapB n f x y = false) : 0 ≤ joinF n f x y ∧ 0 ≤ meetF n f x y := by
  unfold gapB at h
  rw [Bool.or_eq_false_iff, decide_eq_false_iff_not, decide_eq_false_iff_not] at h
  omega
theorem noGap_all {n : Nat} {f : Nat → Nat → Bool} (ho : IsO n f) (hg : noGap n f) {x y : Nat} (hx : x < n) (hy : y < n) : 0 ≤ joinF n f x y ∧ 0 ≤ meetF n f x y := by
  rcases Nat.lt_trichotomy x y with h | h | h
  · exact gapB_no (hg x y h hy)
  · subst h
    exact ⟨by rw [join_self ho hx]; omega, by unfold meetF; rw [join_self (flip_o ho) hx]; omega⟩
  · rw [joinF_comm, meetF_comm]; exact gapB_no (hg y x h hx)
def jN (n : Nat) (f : Nat → Nat → Bool) (x y : Nat) : Nat := (joinF n f x y).toNat
def mN (n : Nat) (f : Nat → Nat → Bool) (x y : Nat) : Nat := (meetF n f x y).toNat
section
variable {n : Nat} {f : Nat → Nat → Bool} (ho : IsO n f) (hg : noGap n f)
include ho hg
theorem jN_at {x y : Nat} (hx : x < n) (hy : y < n) : joinF n f x y = (jN n f x y : Int) ∧ jN n f x y < n ∧ f x (jN n f x y) = true ∧ f y (jN n f x y) = true ∧ ∀ w, w < n → f x w = true → f y w = true → f (jN n f x y) w = true := by
  obtain ⟨z, h1, h2⟩ := joinF_some (noGap_all ho hg hx hy).1
  have : jN n f x y = z := by unfold jN; rw [h1]; rfl
  rw [this]
  exact ⟨h1, h2⟩
theorem mN_at {x y : Nat} (hx : x < n) (hy : y < n) : meetF n f x y = (mN n f x y : Int) ∧ mN n f x y < n ∧ f (mN n f x y) x = true ∧ f (mN n f x y) y = true ∧ ∀ w, w < n → f w x = true → f w y = true → f w (mN n f x y) = true := by
  obtain ⟨z, h1, h2⟩ := joinF_some (f := flipF f) (noGap_all ho hg hx hy).2
  have : mN n f x y = z := by unfold mN meetF; rw [h1]; rfl
  rw [this]
  exact ⟨h1, h2⟩
end
/-- Whether five are bad: the least, three, the greatest. -/
def badP (n : Nat) (f : Nat → Nat → Bool) (o a b c i : Nat) : Prop :=
  (o ≠ a ∧ o ≠ b ∧ o ≠ c ∧ o ≠ i ∧ a ≠ b ∧ a ≠ c ∧ a ≠ i ∧ b ≠ c ∧ b ≠ i ∧ c ≠ i) ∧ mN n f a c = o ∧ jN n f a c = i ∧ mN n f b c = o ∧ jN n f b c = i ∧ (f a b = true ∨ (mN n f a b = o ∧ jN n f a b = i))
instance (n : Nat) (f : Nat → Nat → Bool) (o a b c i : Nat) : Decidable (badP n f o a b c i) := by unfold badP; infer_instance
end Go.X
namespace Go.Proofs.Ytdokijbdnajhgaa
open Go Go.X

/-- No two are without a join or a meet. -/
def ngB (n : Nat) (f : Nat → Nat → Bool) : Bool := (List.range n).all fun j => (List.range j).all fun i => !gapB n f i j
theorem ngB_iff {n : Nat} {f : Nat → Nat → Bool} : ngB n f = true ↔ ∀ i j, i < j → j < n → gapB n f i j = false := by
  unfold ngB
  rw [rall_iff]
  constructor
  · intro h i j hi hj
    have := rall_iff.1 (h j hj) i hi
    simpa using this
  · intro h j hj
    rw [rall_iff]
    intro i hi
    rw [h i j hi hj]; rfl
theorem gapR_ng {n x y : Nat} {f : Nat → Nat → Bool} {b : Bool} (h : gapR n f x y b) : b = !ngB n f := by
  rcases h with ⟨h1, h2, h3, h4, _⟩ | ⟨h1, _, _, h4⟩
  · rw [h1, show ngB n f = false from by
      rw [Bool.eq_false_iff]; intro h; have := ngB_iff.1 h x y h2 h3; rw [h4] at this; cases this]; rfl
  · rw [h1, ngB_iff.2 h4]; rfl
/-- What is wrong with a lattice. -/
def opnC (p : List (List Bool)) : Int := if chkT p = 0 then (if ngB p.length (pb p) then 0 else 91) else chkT p
theorem opnC_bad {p : List (List Bool)} (h : chkT p ≠ 0) : opnC p = chkT p := if_neg h
theorem opnC_gap {p : List (List Bool)} (h : chkT p = 0) {x y : Nat} (hg : gapR p.length (pb p) x y true) : opnC p = 91 := by
  unfold opnC
  have := gapR_ng hg
  rw [if_pos h, if_neg (by rw [show ngB p.length (pb p) = false from by simpa using this.symm]; simp)]
theorem opnC_ok {p : List (List Bool)} (h : chkT p = 0) {x y : Nat} (hg : gapR p.length (pb p) x y false) : opnC p = 0 := by
  unfold opnC
  have := gapR_ng hg
  rw [if_pos h, if_pos (by simpa using this.symm)]
theorem gapR_true {n x y : Nat} {f : Nat → Nat → Bool} {b : Bool} (h : gapR n f x y b) (hb : b = true) : gapR n f x y true := by subst hb; exact h
theorem gapR_false {n x y : Nat} {f : Nat → Nat → Bool} {b : Bool} (h : gapR n f x y b) (hb : b = false) : gapR n f x y false := by subst hb; exact h
theorem opnC_zero {p : List (List Bool)} (h : opnC p = 0) : chkT p = 0 ∧ ngB p.length (pb p) = true := by
  unfold opnC at h
  by_cases c : chkT p = 0
  · rw [if_pos c] at h
    by_cases d : ngB p.length (pb p) = true
    · exact ⟨c, d⟩
    · rw [if_neg d] at h; omega
  · rw [if_neg c] at h; exact absurd h c
/-- The tables that 'open' gives. -/
def opnP (p : List (List Bool)) (rj rm : List (List Int)) : Prop := (opnC p ≠ 0 ∧ rj = [] ∧ rm = []) ∨ (opnC p = 0 ∧ rj = tabI p.length (joinF p.length (pb p)) ∧ rm = tabI p.length (meetF p.length (pb p)))
theorem opnP_ok {p : List (List Bool)} {rj rm : List (List Int)} (h : opnP p rj rm) (hz : opnC p = 0) : rj = tabI p.length (joinF p.length (pb p)) ∧ rm = tabI p.length (meetF p.length (pb p)) := by
  rcases h with ⟨h1, _⟩ | ⟨_, h2⟩
  · exact absurd hz h1
  · exact h2
set_option maxRecDepth 10000 in
theorem ogap_spec (h : Heap) (vp : Value) (hs : List Hdr) (p : List (List Bool)) (hr_vp : RdE encHd h vp hs) (ht_vp : RT encB h hs p) (hp1 : p.length ≤ 1000000) (hp2 : ∀ i, i < p.length → (gt p i).length ≤ 1000000) : Fx Try.prog 30 [vp] h (fun v h' => ∃ (x : Nat) (y : Nat) (b : Bool), v = .tuple #[.int .i64 ((x : Nat) : Int), .int .i64 ((y : Nat) : Int), .bool b, .int .i64 (chkT p)] ∧ ((chkT p ≠ 0 ∧ x = 0 ∧ y = 0 ∧ b = false) ∨ (chkT p = 0 ∧ gapR p.length (pb p) x y b)) ∧ Ext h.size h h') := by
  have hl_vp := ht_vp.1
  refine fx_intro (n := 25) [(0, vp)] Try.func30 rfl rfl (by simp) ⟨rfl, trivial⟩ fun g0 => ?_
  refine wi_seq <| wi_reg rfl <| lx_assign (.int .i64 0) rfl rfl <| lx_assign (.int .i64 0) rfl rfl <| lx_assign (.bool false) rfl rfl <| lx_assign (.int .i64 0) rfl rfl <| lx_nil <| wi_seq <| wi_seq <| wi_reg rfl <| lx_move (vp) rfl rfl <| lx_call [vp] rfl rfl Try.call62 rfl (ocheck_spec h vp hs p hr_vp ht_vp (by omega) (by first | with_reducible assumption | omega)) (fun _ _ _ => trivial) ?_
  rintro _ h1 ⟨rfl, hx1⟩
  refine lx_assign (.int .i64 (chkT p)) rfl rfl <| lx_nil <| wi_seq <| wi_reg rfl <| lx_move (.int .i64 (chkT p)) rfl rfl <| lx_neqS rfl rfl rfl (fun c1 => ?_) (fun c1 => ?_)
  · refine lx_nil <| wi_true rfl <| wi_seq <| wi_reg rfl <| lx_move (.int .i64 (chkT p)) rfl rfl <| lx_assign (.int .i64 0) rfl rfl <| lx_assign (.int .i64 0) rfl rfl <| lx_assign (.bool false) rfl rfl <| lx_assign (.int .i64 (chkT p)) rfl rfl <| lx_nil <| ?_
    -- R1
    refine wi_ret ⟨.tuple #[.int .i64 0, .int .i64 0, .bool false, .int .i64 (chkT p)], (res_four rfl rfl rfl rfl rfl), ⟨0, 0, false, ?_, ?_, hx1⟩⟩
    · first | rfl | (simp; done) | (simp; omega)
    · exact .inl ⟨by omega, rfl, rfl, rfl⟩
  · refine lx_nil <| wi_false rfl <| wi_skip <| wi_seq <| wi_reg rfl <| ?_
    have hok := chkT_ok (p := p) (by omega)
    have hp12 : p.length ≤ 12 := hok.2.1
    have hpq : Sq p p.length := isT_sq hok.2.2
    refine lx_move (vp) rfl rfl <| lx_call [vp] rfl rfl Try.call89 rfl (tables_spec h1 vp hs p (hr_vp.extS hx1) (ht_vp.extS hx1) (by omega) (by first | with_reducible assumption | omega)) (fun _ _ _ => trivial) ?_
    rintro _ h2 ⟨v1, v2, h1_1, h2_1, rfl, ho1, hot1, ho2, hot2, hx2⟩
    have hx0_1 := hx1.trans2 hx2 hx1.size
    have ho3 := ho1.base hx1.size
    have hot3 := hot1.base hx1.size
    have hl_hot3 := hot3.1
    have ho4 := ho2.base hx1.size
    have hot4 := hot2.base hx1.size
    have hl_hot4 := hot4.1
    refine lx_call [.agg #[v1, v2]] rfl rfl Try.call90 rfl (gap_spec h2 p.length ((pb p)) v1 h1_1 (tabI p.length (joinF p.length (pb p))) v2 h2_1 (tabI p.length (meetF p.length (pb p))) ho3.rd hot3.rt ho4.rd hot4.rt (by omega) rfl rfl) (fun _ _ _ => trivial) ?_
    rintro _ h3 ⟨gx, gy, gb, rfl, hgap, hx3⟩
    have hx0_2 := hx0_1.trans2 hx3 hx0_1.size
    have ho5 := ho3.extS hx3
    have hot5 := hot3.extS hx3
    have ho6 := ho4.extS hx3
    have hot6 := hot4.extS hx3
    refine lx_move (.tuple #[.int .i64 ((gx : Nat) : Int), .int .i64 ((gy : Nat) : Int), .bool gb]) rfl rfl <| lx_extract (.int .i64 ((gx : Nat) : Int)) rfl rfl rfl <| lx_extract (.int .i64 ((gy : Nat) : Int)) rfl rfl rfl <| lx_extract (.bool gb) rfl rfl rfl <| lx_assign (.int .i64 ((gx : Nat) : Int)) rfl rfl <| lx_assign (.int .i64 ((gy : Nat) : Int)) rfl rfl <| lx_assign (.bool gb) rfl rfl <| lx_nil <| wi_seq <| wi_reg rfl <| lx_move (.int .i64 ((gx : Nat) : Int)) rfl rfl <| lx_move (.int .i64 ((gy : Nat) : Int)) rfl rfl <| lx_move (.bool gb) rfl rfl <| lx_assign (.int .i64 ((gx : Nat) : Int)) rfl rfl <| lx_assign (.int .i64 ((gy : Nat) : Int)) rfl rfl <| lx_assign (.bool gb) rfl rfl <| lx_assign (.int .i64 0) rfl rfl <| lx_nil <| ?_
    -- R2
    refine wi_ret ⟨.tuple #[.int .i64 ((gx : Nat) : Int), .int .i64 ((gy : Nat) : Int), .bool gb, .int .i64 0], (res_four rfl rfl rfl rfl rfl), ⟨gx, gy, gb, ?_, ?_, hx0_2⟩⟩
    · rw [show chkT p = 0 from by omega]
    · exact .inr ⟨by omega, hgap⟩

set_option maxRecDepth 10000 in
theorem open_spec (h : Heap) (vp : Value) (hs : List Hdr) (p : List (List Bool)) (hr_vp : RdE encHd h vp hs) (ht_vp : RT encB h hs p) (hp1 : p.length ≤ 1000000) (hp2 : ∀ i, i < p.length → (gt p i).length ≤ 1000000) : Fx Try.prog 92 [vp] h (fun v h' => ∃ (s1 : Value) (s2 : Value) (h1 : List Hdr) (h2 : List Hdr) (rj : List (List Int)) (rm : List (List Int)), v = .tuple #[.agg #[s1, s2], .int .i64 (opnC p)] ∧ OwE encHd h' h.size 25 s1 h1 ∧ OT encI h' h.size 3 h1 rj ∧ OwE encHd h' h.size 25 s2 h2 ∧ OT encI h' h.size 3 h2 rm ∧ (opnP p rj rm) ∧ Ext h.size h h') := by
  have hl_vp := ht_vp.1
  refine fx_intro (n := 26) [(0, vp)] Try.func92 rfl rfl (by simp) ⟨rfl, trivial⟩ fun g0 => ?_
  refine wi_seq <| wi_reg rfl <| lx_alloc rfl rfl Try.zeroValue119 (fun _ _ _ => trivial) fun bn1 h1 hbn1 hbk1 hx1 hsz1 => ?_
  have hbb1 : h.size ≤ bn1 := by have := (Nat.le_refl h.size); omega
  have hbk1 : Blk h1 bn1 #[.slice none 0 0, .slice none 0 0] 119 := hbk1
  refine lx_assign (.int .i64 0) rfl rfl <| lx_nil <| wi_seq <| wi_seq <| wi_reg rfl <| lx_move (vp) rfl rfl <| lx_call [vp] rfl rfl Try.call62 rfl (ocheck_spec h1 vp hs p (hr_vp.extS hx1) (ht_vp.extS hx1) (by omega) (by first | with_reducible assumption | omega)) (fun _ _ _ => trivial) ?_
  rintro _ h2 ⟨rfl, hx2⟩
  have hx0_1 := hx1.trans2 hx2 hx1.size
  have hb1 := hbk1.extS hx2
  refine lx_assign (.int .i64 (chkT p)) rfl rfl <| lx_nil <| wi_seq <| wi_reg rfl <| lx_move (.int .i64 (chkT p)) rfl rfl <| lx_neqS rfl rfl rfl (fun c1 => ?_) (fun c1 => ?_)
  · refine lx_nil <| wi_true rfl <| wi_seq <| wi_reg rfl <| lx_build (.agg #[.slice none 0 0, .slice none 0 0]) [] rfl rfl (fun w => bldL0 st119 Try.zeroValue119 w) <| lx_move (.int .i64 (chkT p)) rfl rfl <| lx_stBA (#[.slice none 0 0, .slice none 0 0]) rfl rfl Try.sizeOf119 hb1 rfl rfl rfl rfl (one2 rfl rfl) (fun _ _ _ _ => trivial) fun h3 hbk2 hc1 => ?_
    have hx0_2 := hx0_1.trans (hc1.ext hbb1)
    refine lx_assign (.int .i64 (chkT p)) rfl rfl <| lx_nil <| ?_
    -- R1
    refine wi_ret ⟨.tuple #[.agg #[.slice none 0 0, .slice none 0 0], .int .i64 (chkT p)], (res_cell2 rfl rfl hbk2 wd119 rfl rfl), ⟨.slice none 0 0, .slice none 0 0, [], [], [], [], ?_, (owE_nil encHd _ h.size 25), (OT.nil encI _ h.size 3), (owE_nil encHd _ h.size 25), (OT.nil encI _ h.size 3), ?_, hx0_2⟩⟩
    · rw [opnC_bad (by omega)]
    · exact .inl ⟨by rw [opnC_bad (by omega)]; omega, rfl, rfl⟩
  · refine lx_nil <| wi_false rfl <| wi_skip <| wi_seq <| wi_reg rfl <| ?_
    have hok := chkT_ok (p := p) (by omega)
    have hp12 : p.length ≤ 12 := hok.2.1
    have hpq : Sq p p.length := isT_sq hok.2.2
    refine lx_move (vp) rfl rfl <| lx_call [vp] rfl rfl Try.call89 rfl (tables_spec h2 vp hs p (hr_vp.extS hx0_1) (ht_vp.extS hx0_1) (by omega) (by first | with_reducible assumption | omega)) (fun _ _ _ => trivial) ?_
    rintro _ h4 ⟨vj, vm, hj, hm, rfl, ho1, hot1, ho2, hot2, hx3⟩
    have hx0_3 := hx0_1.trans2 hx3 hx0_1.size
    have hb2 := hb1.extS hx3
    have ho3 := ho1.base hx0_1.size
    have hot3 := hot1.base hx0_1.size
    have hl_hot3 := hot3.1
    have ho4 := ho2.base hx0_1.size
    have hot4 := hot2.base hx0_1.size
    have hl_hot4 := hot4.1
    refine lx_alloc rfl rfl Try.zeroValue119 (fun _ _ _ => trivial) fun bn2 h5 hbn2 hbk3 hx4 hsz2 => ?_
    have hbb2 : h.size ≤ bn2 := by have := hx0_3.size; omega
    have hne1 : bn2 ≠ bn1 := by have := hb2.lt; omega
    have hdj1 : Value.ownBlock vj ≠ some bn2 := by intro e; have := (ho3.lt e).2; omega
    have hnb1 : Nbt hj bn2 := nbt_new hot3 (by omega)
    have hdj2 : Value.ownBlock vm ≠ some bn2 := by intro e; have := (ho4.lt e).2; omega
    have hnb2 : Nbt hm bn2 := nbt_new hot4 (by omega)
    have hx0_4 := hx0_3.trans2 hx4 hx0_3.size
    have ho5 := ho3.extS hx4
    have hot5 := hot3.extS hx4
    have ho6 := ho4.extS hx4
    have hot6 := hot4.extS hx4
    have hb3 := hb2.extS hx4
    have hbk3 : Blk h5 bn2 #[.slice none 0 0, .slice none 0 0] 119 := hbk3
    refine lx_stBA (#[vj, vm]) rfl rfl Try.sizeOf119 hbk3 rfl rfl rfl rfl (one2 (sl_one ho5.rd) (sl_one ho6.rd)) (fun _ _ _ _ => trivial) fun h6 hbk4 hc2 => ?_
    have hx0_5 := hx0_4.trans (hc2.ext hbb2)
    have ho7 := hc2.owE ho5 hdj1
    have hot7 := hot5.chgB hc2 hnb1
    have ho8 := hc2.owE ho6 hdj2
    have hot8 := hot6.chgB hc2 hnb2
    have hb4 := hc2.blk hb3 (Ne.symm hne1)
    refine lx_nil <| wi_seq <| wi_seq <| wi_reg rfl <| lx_ldBA rfl rfl wd119 hbk4 rfl rfl <| lx_call [.agg #[vj, vm]] rfl rfl Try.call90 rfl (gap_spec h6 p.length ((pb p)) vj hj (tabI p.length (joinF p.length (pb p))) vm hm (tabI p.length (meetF p.length (pb p))) ho7.rd hot7.rt ho8.rd hot8.rt (by omega) rfl rfl) (fun _ _ _ => trivial) ?_
    rintro _ h7 ⟨gx, gy, gb, rfl, hgap, hx5⟩
    have hx0_6 := hx0_5.trans2 hx5 hx0_5.size
    have ho9 := ho7.extS hx5
    have hot9 := hot7.extS hx5
    have ho10 := ho8.extS hx5
    have hot10 := hot8.extS hx5
    have hb5 := hb4.extS hx5
    have hb6 := hbk4.extS hx5
    refine lx_move (.tuple #[.int .i64 ((gx : Nat) : Int), .int .i64 ((gy : Nat) : Int), .bool gb]) rfl rfl <| lx_extract (.int .i64 ((gx : Nat) : Int)) rfl rfl rfl <| lx_extract (.int .i64 ((gy : Nat) : Int)) rfl rfl rfl <| lx_extract (.bool gb) rfl rfl rfl <| lx_assign (.int .i64 ((gx : Nat) : Int)) rfl rfl <| lx_assign (.int .i64 ((gy : Nat) : Int)) rfl rfl <| lx_assign (.bool gb) rfl rfl <| lx_nil <| wi_seq <| wi_reg rfl <| lx_move (.bool gb) rfl rfl <| lx_nil <| wi_condS (t := gb) rfl (fun c2 => ?_) (fun c2 => ?_)
    · refine wi_seq <| wi_reg rfl <| lx_build (.agg #[.slice none 0 0, .slice none 0 0]) [] rfl rfl (fun w => bldL0 st119 Try.zeroValue119 w) <| lx_stBA (#[.slice none 0 0, .slice none 0 0]) rfl rfl Try.sizeOf119 hb5 rfl rfl rfl rfl (one2 rfl rfl) (fun _ _ _ _ => trivial) fun h8 hbk5 hc3 => ?_
      have hx0_7 := hx0_6.trans (hc3.ext hbb1)
      have ho11 := hc3.owE ho9 (nb_new hb1 ho1)
      have hot11 := hot9.chgB hc3 (nbt_ty hot9 hb5 (by decide))
      have ho12 := hc3.owE ho10 (nb_new hb1 ho2)
      have hot12 := hot10.chgB hc3 (nbt_ty hot10 hb5 (by decide))
      have hb7 := hc3.blk hb6 hne1
      refine lx_assign (.int .i64 91) rfl rfl <| lx_nil <| ?_
      -- R2
      refine wi_ret ⟨.tuple #[.agg #[.slice none 0 0, .slice none 0 0], .int .i64 91], (res_cell2 rfl rfl hbk5 wd119 rfl rfl), ⟨.slice none 0 0, .slice none 0 0, [], [], [], [], ?_, (owE_nil encHd _ h.size 25), (OT.nil encI _ h.size 3), (owE_nil encHd _ h.size 25), (OT.nil encI _ h.size 3), ?_, hx0_7⟩⟩
      · rw [opnC_gap (by omega) (gapR_true hgap (by assumption))]
      · exact .inl ⟨by rw [opnC_gap (by omega) (gapR_true hgap (by assumption))]; omega, rfl, rfl⟩
    · refine wi_skip <| wi_seq <| wi_reg rfl <| lx_ldBA rfl rfl wd119 hb6 rfl rfl <| lx_stBA (#[vj, vm]) rfl rfl Try.sizeOf119 hb5 rfl rfl rfl rfl (one2 (sl_one ho9.rd) (sl_one ho10.rd)) (fun _ _ _ _ => trivial) fun h9 hbk6 hc4 => ?_
      have hx0_8 := hx0_6.trans (hc4.ext hbb1)
      have ho13 := hc4.owE ho9 (nb_new hb1 ho1)
      have hot13 := hot9.chgB hc4 (nbt_ty hot9 hb5 (by decide))
      have ho14 := hc4.owE ho10 (nb_new hb1 ho2)
      have hot14 := hot10.chgB hc4 (nbt_ty hot10 hb5 (by decide))
      have hb8 := hc4.blk hb6 hne1
      refine lx_assign (.int .i64 0) rfl rfl <| lx_nil <| ?_
      -- R3
      refine wi_ret ⟨.tuple #[.agg #[vj, vm], .int .i64 0], (res_cell2 rfl rfl hbk6 wd119 rfl rfl), ⟨vj, vm, hj, hm, tabI p.length (joinF p.length (pb p)), tabI p.length (meetF p.length (pb p)), ?_, ho13, hot13, ho14, hot14, ?_, hx0_8⟩⟩
      · rw [opnC_ok (by omega) (gapR_false hgap (by assumption))]
      · exact .inr ⟨opnC_ok (by omega) (gapR_false hgap (by assumption)), rfl, rfl⟩

end Go.Proofs.Ytdokijbdnajhgaa
