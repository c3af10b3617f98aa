/-
  Walks: shattered sets.
-/
import Derived.Test.YtdokijbdnajhgaaOI
set_option linter.unusedSimpArgs false
set_option linter.unusedVariables false
namespace Go.Proofs.Ytdokijbdnajhgaa
open Go Go.X

set_option maxRecDepth 10000 in
theorem shattered1_seq (bn bl n : Nat) (vl : Value) (xs : List Int) (hp1 : n ≤ 7) (hp2 : xs.length ≤ 4096) (hp3 : ∀ i, i < xs.length → 0 ≤ gt xs i ∧ gt xs i < 1024) : SeqC Try.prog 148 [.pointer (some ⟨bn, 0, none⟩), .pointer (some ⟨bl, 0, none⟩)] 26 (fun h => Blk h bn #[.int .i64 ((n : Nat) : Int)] 3 ∧ Blk h bl #[vl] 25 ∧ RdE encI h vl xs) ((filtF (2 ^ n) (shB xs)).length) (fun k => [.int .i64 (gt (filtF (2 ^ n) (shB xs)) k)]) := by
  intro l h J hJS hCap hY h0
  have hpw : 2 ^ n ≤ 128 := Nat.pow_le_pow_right (by omega : 0 < 2) hp1
  obtain ⟨hcp1, hcp2, hcp3⟩ := hCap _ _ h0
  refine fx_intro (n := 34) [(0, .func (.yield l) #[] #[]), (1, .pointer (some ⟨bn, 0, none⟩)), (2, .pointer (some ⟨bl, 0, none⟩))] Try.func148 rfl rfl (by simp) ⟨rfl, rfl, rfl, trivial⟩ fun g0 => ?_
  refine wi_seq <| wi_reg rfl <| lx_ldB (.int .i64 ((n : Nat) : Int)) rfl rfl fl3 hcp1 rfl rfl <| lx_conv ((n : Nat) : Int) rfl Try.underlying3 Try.underlying45 rfl (wrap_u64 (by omega) (by omega)) <| lx_shl (m := 1) (n := n) rfl rfl rfl (by show _ ≤ 64; omega) (wrap_i64 (by omega) (by omega)) <| lx_move (.int .i64 0) rfl rfl <| lx_nil <| wi_block <| ?_
  have hds9 : ([] : List Nat).map markD = [] := rfl
  refine wi_loopD (σ := Nat × (List Nat)) (rngB 20 34 [4, 5, 6, 7, 11, 12, 13, 14, 15, 16, 17, 18]) (fun (ss : Nat × (List Nat)) => [(11, .int .i64 ((ss.1 : Nat) : Int))]) (fun (ss : Nat × (List Nat)) => ss.2) (fun (ss : Nat × (List Nat)) (hh : Heap) => h.size ≤ hh.size ∧ J ((filtF ss.1 (shB xs)).length) hh ∧ DsOk ss.2 hh ∧ (∀ d ∈ ss.2, h.size ≤ d) ∧ ss.2.Nodup ∧ (ss.1 ≤ 2 ^ n)) (fun (ss : Nat × (List Nat)) => 2 ^ n - ss.1) (0, []) ⟨rfl, trivial⟩ ⟨(Nat.le_refl h.size), h0, (DsOk.nil _), (fun d hd9 => by cases hd9), List.nodup_nil, ?_⟩ ?_
  · try dsimp only
    exact Nat.zero_le _
  rintro g1 ⟨w, ds⟩ hh1 ⟨hle1, hJ1, hdd1, hdb1, hdn1, hw⟩ IH1
  dsimp only at *
  obtain ⟨hcp4, hcp5, hcp6⟩ := hCap _ _ hJ1
  have hlt1 : ∀ d ∈ ds, d < hh1.size := fun d hd9 => (Array.getElem?_eq_some_iff.1 (hdd1 d hd9)).1
  refine wi_seq <| wi_reg rfl <| lx_lssS rfl rfl rfl (fun c1 => ?_) (fun c1 => ?_)
  · refine lx_nil <| wi_seq <| wi_true rfl <| wi_skip <| wi_seq <| wi_block <| wi_seq <| wi_reg rfl <| lx_move (.int .i64 ((w : Nat) : Int)) rfl rfl <| lx_assign (.int .i64 ((w : Nat) : Int)) rfl rfl <| lx_nil <| wi_seq <| wi_reg rfl <| lx_ldB (vl) rfl rfl fl25 hcp5 rfl rfl <| lx_move (.int .i64 ((w : Nat) : Int)) rfl rfl <| lx_call [vl, .int .i64 ((w : Nat) : Int)] rfl rfl Try.call149 rfl (trace_spec hh1 vl xs w hcp6 (by omega) (by first | with_reducible assumption | omega) (by omega)) (fun _ _ _ => trivial) ?_
    rintro _ h1 ⟨bs, rfl, hbl, hbs, hx1⟩
    have hch1 := (Qk.of_ext hx1 : Qk 26 (hh1).size _ _)
    have hsz_hch1 := hch1.1
    have hch2 := Nc.of_ext hx1
    have hsz_hch2 := hch2.1
    have hx0_1 := hx1.mono hle1
    have hb1 := hcp4.extS hx1
    have hb2 := hcp5.extS hx1
    have hxr1 := (Ext.refl hh1.size hh1).trans2 hx1 (Ext.refl hh1.size hh1).size
    refine lx_alloc rfl rfl Try.zeroValue156 (fun _ _ _ => trivial) fun bn1 h2 hbn1 hbk1 hx2 hsz1 => ?_
    have hbb1 : h.size ≤ bn1 := by have := (Nat.le_trans hle1 hx0_1.size); omega
    have hne1 : bn1 ≠ bn := by have := hb1.lt; omega
    have hne2 : bn1 ≠ bl := by have := hb2.lt; omega
    have hch3 := hch1.trans ((Qk.of_ext hx2 : Qk 26 (hh1).size _ _))
    have hsz_hch3 := hch3.1
    have hch4 := hch2.trans (Nc.of_ext hx2)
    have hsz_hch4 := hch4.1
    have hx0_2 := hx0_1.trans (hx2.mono (Nat.le_trans hle1 hx0_1.size))
    have hb3 := hb1.extS hx2
    have hb4 := hb2.extS hx2
    have hxr2 := hxr1.trans2 hx2 hxr1.size
    have hbk1 : Blk h2 bn1 (bc (List.replicate 1024 false)) 156 := by rw [← zc156]; exact hbk1
    refine lx_stBA (bc bs) rfl rfl Try.sizeOf156 hbk1 (by rw [bc_size]; first | omega | (simp; done) | (simp; omega)) (by rw [bc_size]; first | omega | (simp; done) | (simp; omega)) rfl rfl (bc_one _) (fun _ _ _ _ => trivial) fun h3 hbk2 hc1 => ?_
    have hch5 := hch3.trans ((Qk.of_new hc1 (by omega) : Qk 26 (hh1).size _ _))
    have hsz_hch5 := hch5.1
    have hch6 := hch4.trans (Nc.of_chgB hc1 hbk1)
    have hsz_hch6 := hch6.1
    have hx0_3 := hx0_2.trans (hc1.ext hbb1)
    have hb5 := hc1.blk hb3 (Ne.symm hne1)
    have hb6 := hc1.blk hb4 (Ne.symm hne2)
    have hxr3 := hxr2.trans (hc1.ext (by omega))
    refine lx_nil <| wi_seq <| wi_reg rfl <| lx_alloc rfl rfl Try.zeroValue4 (fun _ _ _ => trivial) fun bn2 h4 hbn2 hbk3 hx3 hsz2 => ?_
    have hbb2 : h.size ≤ bn2 := by have := (Nat.le_trans hle1 hx0_3.size); omega
    have hne3 : bn2 ≠ bn := by have := hb5.lt; omega
    have hne4 : bn2 ≠ bl := by have := hb6.lt; omega
    have hne5 : bn2 ≠ bn1 := by have := hbk2.lt; omega
    have hch7 := hch5.trans ((Qk.of_ext hx3 : Qk 26 (hh1).size _ _))
    have hsz_hch7 := hch7.1
    have hch8 := hch6.trans (Nc.of_ext hx3)
    have hsz_hch8 := hch8.1
    have hx0_4 := hx0_3.trans (hx3.mono (Nat.le_trans hle1 hx0_3.size))
    have hb7 := hb5.extS hx3
    have hb8 := hb6.extS hx3
    have hb9 := hbk2.extS hx3
    have hxr4 := hxr3.trans2 hx3 hxr3.size
    have hbk3 : Blk h4 bn2 #[.bool false] 4 := hbk3
    refine lx_stB (.bool true) rfl rfl Try.sizeOf4 hbk3 (by simp) rfl rfl rfl rfl (fun _ _ _ _ => trivial) fun h5 hbk4 hc2 => ?_
    have hch9 := hch7.trans ((Qk.of_new hc2 (by omega) : Qk 26 (hh1).size _ _))
    have hsz_hch9 := hch9.1
    have hch10 := hch8.trans (Nc.of_chgB hc2 hbk3)
    have hsz_hch10 := hch10.1
    have hx0_5 := hx0_4.trans (hc2.ext hbb2)
    have hb10 := hc2.blk hb7 (Ne.symm hne3)
    have hb11 := hc2.blk hb8 (Ne.symm hne4)
    have hb12 := hc2.blk hb9 (Ne.symm hne5)
    have hxr5 := hxr4.trans (hc2.ext (by omega))
    have hbk4 : Blk h5 bn2 #[.bool true] 4 := hbk4
    refine lx_nil <| wi_seq <| wi_seq <| wi_reg rfl <| lx_move (.int .i64 ((w : Nat) : Int)) rfl rfl <| lx_call [.int .i64 ((w : Nat) : Int)] rfl rfl Try.call150 rfl (within_spec h5 w ) (fun _ _ _ => trivial) ?_
    rintro _ h6 ⟨bm, rfl, ho1, hot1, hx4⟩
    have hch11 := hch9.trans ((Qk.of_ext hx4 : Qk 26 (hh1).size _ _))
    have hsz_hch11 := hch11.1
    have hch12 := hch10.trans (Nc.of_ext hx4)
    have hsz_hch12 := hch12.1
    have hx0_6 := hx0_5.trans (hx4.mono (Nat.le_trans hle1 hx0_5.size))
    have hb13 := hb10.extS hx4
    have hb14 := hb11.extS hx4
    have hb15 := hb12.extS hx4
    have hb16 := hbk4.extS hx4
    have hxr6 := hxr5.trans2 hx4 hxr5.size
    have hbx1 : h.size ≤ bm := Nat.le_trans (Nat.le_trans hle1 hx0_5.size) ho1
    refine lx_nil <| wi_block <| ?_
    refine wi_range (Ds := ds) (gf := 172) (lb := [.pointer (some ⟨bm, 0, none⟩)]) Try.call172 rfl (fun l1 D1 h7 rc1 hlD1 hll1 hDl1 hx5 hlr1 hDr1 hLo1 => ?_)
    have hbl1 : h.size ≤ l1 := Nat.le_trans (Nat.le_trans hle1 hx0_6.size) hll1
    have hbD1 : h.size ≤ D1 := Nat.le_trans (Nat.le_trans hle1 hx0_6.size) hlD1
    have hch13 := hch11.trans ((Qk.of_ext hx5 : Qk 26 (hh1).size _ _))
    have hsz_hch13 := hch13.1
    have hch14 := hch12.trans (Nc.of_ext hx5)
    have hsz_hch14 := hch14.1
    have hx0_7 := hx0_6.trans (hx5.mono (Nat.le_trans hle1 hx0_6.size))
    have hb17 := hb13.extS hx5
    have hb18 := hb14.extS hx5
    have hb19 := hb15.extS hx5
    have hb20 := hb16.extS hx5
    have hb21 := hot1.extS hx5
    have hxr7 := hxr6.trans2 hx5 hxr6.size
    refine Fx.mono (within1_seq bm w (by omega) l1 h7 (fun j hh => hh[l1]? = some (.loop rc1) ∧ DsOk (D1 :: ds) hh ∧ ∃ (a : Bool), Quiet 26 h.size hh1 hh ∧ Blk hh bn1 (bc bs) 156 ∧ Blk hh bn2 #[.bool a] 4 ∧ Blk hh bm #[.int .i64 ((w : Nat) : Int)] 3 ∧ (bm ≠ bn2) ∧ (a = (List.range j).all fun q => trB xs w (gt (subs w) q))) ?_ ?_ ?_ ?_) ?_
    · rintro j ha hb9 ⟨hr9, hd9, a, hjq1, hbk5, hbk6, hbk7, hnm, ha⟩ hq1
      exact ⟨hq1.obj hr9 (Array.getElem?_eq_some_iff.1 hlr1).1, hq1.dso hd9 (fun d hd8 => (Array.getElem?_eq_some_iff.1 (DsOk.cons hDr1 (hdd1.nc (hch12.trans (Nc.of_ext hx5))) d hd8)).1), a, hq1.up hjq1 (Nat.le_trans hle1 hx0_7.size), hq1.blk hbk5 (by decide), hq1.blk hbk6 (by decide), hq1.blk hbk7 (by decide), hnm, ha⟩
    · rintro j ha ⟨hr9, hd9, a, hjq2, hbk8, hbk9, hbk10, hnm, ha⟩
      exact hbk10
    · rintro j ha1 hk1 ⟨hr1, hd1, a, hjq3, hbk11, hbk12, hbk13, hnm, ha⟩
      refine yield_ok hLo1 hr1 rfl (by decide) ?_
      refine wi_forget [(5, .pointer (some ⟨bn1, 0, none⟩)), (6, .pointer (some ⟨bn2, 0, none⟩)), (19, .int .i64 ((gt (subs w) j : Nat) : Int))] ⟨rfl, rfl, rfl, trivial⟩ fun g2 => ?_
      refine wi_reg rfl <| lx_assign (.int .i64 ((gt (subs w) j : Nat) : Int)) rfl rfl <| lx_nil <| ?_
      refine wi_begin hr1 hLo1.st (fun h8 hc3 hbu1 => ?_)
      have hcel1 := cel_loop hc3 hr1
      have hch15 := hjq3.2.trans (Qk.of_loop hc3 hr1 : Qk 26 (hh1).size _ _)
      have hx0_8 := hjq3.1.trans (hc3.ext hbl1)
      have hb22 := hcel1.blk hbk11
      have hb23 := hcel1.blk hbk12
      have hb24 := hcel1.blk hbk13
      have hch16 := (Tk.of_loop hc3 hr1 : Tk 26 _ _)
      have hd2 := hd1.chgL hr1 hc3
      refine wi_block <| wi_reg rfl <| ?_
      have hsl := subs_le hk1
      refine lx_ldB (.bool a) rfl rfl fl4 hb23 rfl rfl <| lx_move (.bool a) rfl rfl <| ?_
      cases c2 : a
      · refine lx_skip rfl <| lx_skip rfl <| lx_skip rfl <| lx_pick false (.bool false) rfl rfl rfl <| lx_stB (.bool false) rfl rfl Try.sizeOf4 hb23 (by simp) rfl rfl rfl rfl (fun _ _ _ _ => trivial) fun h9 hbk14 hc4 => ?_
        have hch17 := hch16.trans ((Tk.of_chgB hc4 hb23 (by decide) : Tk 26 _ _))
        have hsz_hch17 := hch17.1
        have hch18 := Nc.of_chgB hc4 hb23
        have hsz_hch18 := hch18.1
        have hch19 := hch15.trans ((Qk.of_new hc4 (by omega) : Qk 26 (hh1).size _ _))
        have hsz_hch19 := hch19.1
        have hx0_9 := hx0_8.trans (hc4.ext hbb2)
        have hb25 := hc4.blk hb22 (Ne.symm hne5)
        have hb26 := hc4.blk hb24 (by omega)
        have hbk14 : Blk h9 bn2 #[.bool false] 4 := hbk14
        refine lx_nil <| wi_inBlock <| ?_
        have hbu2 := (nc_loop hch18 hbu1)
        have hd3 := (hd2.nc hch18)
        -- Q2.1
        refine wi_end ⟨rfl, hbu2, fun h10 hc5 hlr2 => ?_⟩
        have hcel2 := cel_loop hc5 hbu2
        have hch20 := hch19.trans (Qk.of_loop hc5 hbu2 : Qk 26 (hh1).size _ _)
        have hx0_10 := hx0_9.trans (hc5.ext hbl1)
        have hb27 := hcel2.blk hb25
        have hb28 := hcel2.blk hbk14
        have hb29 := hcel2.blk hb26
        refine ⟨hch17.trans (Tk.of_loop hc5 hbu2), hlr2, hd3.chgL hbu2 hc5, (false), (⟨hx0_10, hch20⟩ : Quiet 26 h.size hh1 h10), ?_, ?_, ?_, ?_, ?_⟩
        · exact hb27
        · exact hb28
        · exact hb29
        · try dsimp only
          omega
        · try dsimp only
          rw [rall_succ, ← ha]
          first
          | (rw [show a = false from by assumption]; rfl)
          | (rw [show a = true from by assumption, hbs _ (by omega)]; rfl)
      · refine lx_move (.int .i64 ((gt (subs w) j : Nat) : Int)) rfl rfl <| lx_ixB (i := gt (subs w) j) ((gt (subs w) j)) rfl Try.underlying156 Try.sizeOf4 rfl rfl (by omega) (by omega) <| lx_ldB (.bool (gt bs ((gt (subs w) j)))) rfl rfl fl4 hb22 (bc_get (by first | omega | (simp only [List.length_set, List.length_append, List.length_cons, List.length_nil, List.length_replicate, List.length_take, swp_length, exch_length]; omega))) rfl <| lx_pick true (.bool (gt bs ((gt (subs w) j)))) rfl rfl rfl <| lx_stB (.bool (gt bs ((gt (subs w) j)))) rfl rfl Try.sizeOf4 hb23 (by simp) rfl rfl rfl rfl (fun _ _ _ _ => trivial) fun h11 hbk15 hc6 => ?_
        have hch21 := hch16.trans ((Tk.of_chgB hc6 hb23 (by decide) : Tk 26 _ _))
        have hsz_hch21 := hch21.1
        have hch22 := Nc.of_chgB hc6 hb23
        have hsz_hch22 := hch22.1
        have hch23 := hch15.trans ((Qk.of_new hc6 (by omega) : Qk 26 (hh1).size _ _))
        have hsz_hch23 := hch23.1
        have hx0_11 := hx0_8.trans (hc6.ext hbb2)
        have hb30 := hc6.blk hb22 (Ne.symm hne5)
        have hb31 := hc6.blk hb24 (by omega)
        have hbk15 : Blk h11 bn2 #[.bool (gt bs ((gt (subs w) j)))] 4 := hbk15
        refine lx_nil <| wi_inBlock <| ?_
        have hbu3 := (nc_loop hch22 hbu1)
        have hd4 := (hd2.nc hch22)
        -- Q2.2
        refine wi_end ⟨rfl, hbu3, fun h12 hc7 hlr3 => ?_⟩
        have hcel3 := cel_loop hc7 hbu3
        have hch24 := hch23.trans (Qk.of_loop hc7 hbu3 : Qk 26 (hh1).size _ _)
        have hx0_12 := hx0_11.trans (hc7.ext hbl1)
        have hb32 := hcel3.blk hb30
        have hb33 := hcel3.blk hbk15
        have hb34 := hcel3.blk hb31
        refine ⟨hch21.trans (Tk.of_loop hc7 hbu3), hlr3, hd4.chgL hbu3 hc7, (gt bs ((gt (subs w) j))), (⟨hx0_12, hch24⟩ : Quiet 26 h.size hh1 h12), ?_, ?_, ?_, ?_, ?_⟩
        · exact hb32
        · exact hb33
        · exact hb34
        · try dsimp only
          omega
        · try dsimp only
          rw [rall_succ, ← ha]
          first
          | (rw [show a = false from by assumption]; rfl)
          | (rw [show a = true from by assumption, hbs _ (by omega)]; rfl)
    · refine ⟨hlr1, DsOk.cons hDr1 (hdd1.nc (hch12.trans (Nc.of_ext hx5))), (true), (⟨hx0_7, hch13⟩ : Quiet 26 h.size hh1 h7), ?_, ?_, ?_, ?_, ?_⟩
      · exact hb19
      · exact hb20
      · exact hb21
      · try dsimp only
        have h8 := hbk4.lt; omega
      · try dsimp only
        first | done | rfl
    rintro _ h13 ⟨_, hr2, hd5, a, hjq4, hbk16, hbk17, hbk18, hnm, ha⟩
    refine ⟨hr2, fun h14 hc8 => ?_⟩
    have hcel4 := cel_loop hc8 hr2
    have hch25 := hjq4.2.trans (Qk.of_loop hc8 hr2 : Qk 26 (hh1).size _ _)
    have hx0_13 := hjq4.1.trans (hc8.ext hbl1)
    have hb35 := hcel4.blk hbk16
    have hb36 := hcel4.blk hbk17
    have hb37 := hcel4.blk hbk18
    have hd6 := hd5.chgL hr2 hc8
    have hbDs1 : ∀ d ∈ D1 :: ds, h.size ≤ d := fun d hd9 => by
      rw [List.mem_cons] at hd9
      rcases hd9 with rfl | hd9
      · exact hbD1
      · exact hdb1 d hd9
    have hnd1 : (D1 :: ds).Nodup := List.nodup_cons.2 ⟨fun hd9 => (by have := hlt1 _ hd9; omega), hdn1⟩
    have hlt2 : ∀ d ∈ D1 :: ds, d < h14.size := fun d hd9 => (Array.getElem?_eq_some_iff.1 (hd6 d hd9)).1
    refine wi_inBlock <| wi_seq <| wi_reg rfl <| ?_
    have hsh : a = shB xs w := ha
    refine lx_ldB (.bool a) rfl rfl fl4 hb36 rfl rfl <| lx_move (.bool a) rfl rfl <| ?_
    cases c3 : a
    · refine lx_skip rfl <| lx_skip rfl <| lx_skip rfl <| lx_skip rfl <| lx_pick false (.bool false) rfl rfl rfl <| lx_nil <| wi_false rfl <| wi_skip <| wi_inBlock <| wi_reg rfl <| lx_add (((w + 1 : Nat) : Int)) rfl rfl rfl (by omega) (by omega) (by omega) <| lx_move (.int .i64 ((w + 1 : Nat) : Int)) rfl rfl <| lx_nil <| ?_
      -- L0.1
      refine IH1 _ _ (w + 1, D1 :: ds) (agree_ups rfl agree_self) ⟨rfl, trivial⟩ ⟨(Nat.le_trans hle1 hx0_13.size), (by first | (rw [filtF_len_yes (by rw [← hsh]; assumption)]; exact (hJS _ _ _ hJ1 ⟨hx0_13, hch25⟩)) | (rw [filtF_len_no (by rw [← hsh]; assumption)]; exact (hJS _ _ _ hJ1 ⟨hx0_13, hch25⟩))), hd6, hbDs1, hnd1, ?_⟩ ?_
      · try dsimp only
        omega
      · first | omega | (dsimp only; omega)
    · have hJk1 := (hJS _ _ _ hJ1 ⟨hx0_13, hch25⟩)
      have hy2 := hY _ _ (filtF_at (by omega) (by rw [← hsh]; assumption)).1 hJk1
      dsimp only at hy2
      rw [(filtF_at (f := shB xs) (show w < 2 ^ n by omega) (by rw [← hsh]; assumption)).2] at hy2
      refine lx_move (.func (.yield l) #[] #[]) rfl rfl <| lx_move (.int .i64 ((w : Nat) : Int)) rfl rfl <| lx_yield [.int .i64 ((w : Nat) : Int)] rfl rfl rfl rfl hy2 (fun _ _ => trivial) fun h15 ⟨hty1, hJ2⟩ => ?_
      have hle2 : h.size ≤ h15.size := Nat.le_trans (Nat.le_trans hle1 hx0_13.size) hty1.1
      have hd7 := hty1.dso hd6
      obtain ⟨hcp7, hcp8, hcp9⟩ := hCap _ _ hJ2
      refine lx_notB false rfl rfl rfl <| lx_pick true (.bool false) rfl rfl rfl <| lx_nil <| wi_false rfl <| wi_skip <| wi_inBlock <| wi_reg rfl <| lx_add (((w + 1 : Nat) : Int)) rfl rfl rfl (by omega) (by omega) (by omega) <| lx_move (.int .i64 ((w + 1 : Nat) : Int)) rfl rfl <| lx_nil <| ?_
      -- L0.2
      refine IH1 _ _ (w + 1, D1 :: ds) (agree_ups rfl agree_self) ⟨rfl, trivial⟩ ⟨hle2, (by first | (rw [filtF_len_yes (by rw [← hsh]; assumption)]; exact hJ2) | (rw [filtF_len_no (by rw [← hsh]; assumption)]; exact hJ2)), hd7, hbDs1, hnd1, ?_⟩ ?_
      · try dsimp only
        omega
      · first | omega | (dsimp only; omega)
  · refine lx_nil <| wi_seq <| wi_false rfl <| wi_exit rfl <| ?_
    -- R1
    have hd8 := hdd1
    refine wi_endD (Ds := ds) hdn1 hd8 (fun h16 hcel5 hsz3 hbb3 => ?_)
    have hx0_14 := ext_marks2 (Ext.refl _ _) hd8 hdb1 hsz3 hbb3
    have hch26 := (Qk.of_marks hd8 hsz3 hbb3 : Qk 26 (hh1).size _ _)
    refine ⟨.tuple #[], (res_none rfl), (Nat.le_trans hle1 hx0_14.size), ?_⟩
    have hJk := (hJS _ _ _ hJ1 ⟨hx0_14, hch26⟩)
    rw [show 2 ^ n = w from by omega]; exact hJk

set_option maxRecDepth 10000 in
theorem appendSeq_spec (h : Heap) (n : Nat) (vl : Value) (xs : List Int) (bn : Nat) (bl : Nat) (hb_bn : Blk h bn (#[.int .i64 ((n : Nat) : Int)]) 3) (hb_bl : Blk h bl (#[vl]) 25) (hr_vl : RdE encI h vl xs) (hp1 : n ≤ 7) (hp2 : xs.length ≤ 4096) (hp3 : ∀ i, i < xs.length → 0 ≤ gt xs i ∧ gt xs i < 1024) : Fx Try.prog 147 [.slice none 0 0, .func (.func 148) #[] #[.pointer (some ⟨bn, 0, none⟩), .pointer (some ⟨bl, 0, none⟩)]] h (fun v h' => ∃ (s : Value), v = s ∧ OwE encI h' h.size 3 s (filtF (2 ^ n) (shB xs)) ∧ Ext h.size h h') := by
  refine fx_intro (n := 13) [(0, .slice none 0 0), (1, .func (.func 148) #[] #[.pointer (some ⟨bn, 0, none⟩), .pointer (some ⟨bl, 0, none⟩)])] Try.func147 rfl rfl (by simp) ⟨rfl, rfl, trivial⟩ fun g0 => ?_
  refine wi_seq <| wi_reg rfl <| lx_box #[.slice none 0 0] rfl rfl rfl (fun _ _ _ => trivial) fun bn1 h1 hbn1 hbk1 hx1 hsz1 => ?_
  have hbb1 : h.size ≤ bn1 := by have := (Nat.le_refl h.size); omega
  have hne1 : bn1 ≠ bn := by have := hb_bn.lt; omega
  have hne2 : bn1 ≠ bl := by have := hb_bl.lt; omega
  have hb1 := hb_bn.extS hx1
  have hb2 := hb_bl.extS hx1
  refine lx_assign (.slice none 0 0) rfl rfl <| lx_nil <| wi_seq <| wi_seq <| wi_reg rfl <| lx_move (.func (.func 148) #[] #[.pointer (some ⟨bn, 0, none⟩), .pointer (some ⟨bl, 0, none⟩)]) rfl rfl <| lx_nil <| wi_block <| ?_
  refine wi_range (Ds := []) (gf := 148) (lb := [.pointer (some ⟨bn, 0, none⟩), .pointer (some ⟨bl, 0, none⟩)]) Try.call148 rfl (fun l1 D1 h2 rc1 hlD1 hll1 hDl1 hx2 hlr1 hDr1 hLo1 => ?_)
  have hbl1 : h.size ≤ l1 := Nat.le_trans hx1.size hll1
  have hbD1 : h.size ≤ D1 := Nat.le_trans hx1.size hlD1
  have hx0_1 := hx1.trans2 hx2 hx1.size
  have hb3 := hb1.extS hx2
  have hb4 := hb2.extS hx2
  have hb5 := hbk1.extS hx2
  refine Fx.mono (shattered1_seq bn bl n vl xs hp1 hp2 hp3 l1 h2 (fun k hh => hh[l1]? = some (.loop rc1) ∧ DsOk (D1 :: []) hh ∧ ∃ (v : Value), Blk hh bn1 #[v] 25 ∧ OwE encI hh h.size 3 v ((filtF (2 ^ n) (shB xs)).take k) ∧ Ext h.size h hh) ?_ ?_ ?_ ?_) ?_
  · rintro k ha hb9 ⟨hr9, hd9, v, hbk2, ho1, hx0_2⟩ hq1
    exact ⟨hq1.obj hr9 (Array.getElem?_eq_some_iff.1 hlr1).1, hq1.dso hd9 (fun d hd8 => (Array.getElem?_eq_some_iff.1 (DsOk.cons hDr1 (DsOk.nil _) d hd8)).1), v, hq1.blk hbk2 (by decide), hq1.owE ho1 (by decide), hq1.ext hx0_2 hx0_1.size⟩
  · rintro k ha ⟨hr9, hd9, v, hbk3, ho2, hx0_3⟩
    exact ⟨hb_bn.extS hx0_3, hb_bl.extS hx0_3, hr_vl.extS hx0_3⟩
  · rintro k ha1 hk1 ⟨hr1, hd1, v, hbk4, ho3, hx0_4⟩
    refine yield_ok hLo1 hr1 rfl (by decide) ?_
    refine wi_forget [(2, .pointer (some ⟨bn1, 0, none⟩)), (7, .int .i64 (gt (filtF (2 ^ n) (shB xs)) k))] ⟨rfl, rfl, trivial⟩ fun g1 => ?_
    refine wi_reg rfl <| lx_assign (.int .i64 (gt (filtF (2 ^ n) (shB xs)) k)) rfl rfl <| lx_nil <| ?_
    refine wi_begin hr1 hLo1.st (fun h3 hc1 hbu1 => ?_)
    have hcel1 := cel_loop hc1 hr1
    have hx0_5 := hx0_4.trans (hc1.ext hbl1)
    have ho4 := hcel1.owE ho3
    have hb6 := hcel1.blk hbk4
    have hch1 := (Tk.of_loop hc1 hr1 : Tk 26 _ _)
    have hd2 := hd1.chgL hr1 hc1
    refine wi_block <| wi_reg rfl <| ?_
    have hpw : 2 ^ n ≤ 128 := Nat.pow_le_pow_right (by omega : 0 < 2) hp1
    have hfl := filtF_length (2 ^ n) (shB xs)
    have htk : ((filtF (2 ^ n) (shB xs)).take k).length = k := by rw [List.length_take]; omega
    refine lx_ldB (v) rfl rfl fl25 hb6 rfl rfl <| lx_move (.int .i64 (gt (filtF (2 ^ n) (shB xs)) k)) rfl rfl <| lx_appendL (E := encI) (B := h.size) [gt (filtF (2 ^ n) (shB xs)) k] [.int .i64 (gt (filtF (2 ^ n) (shB xs)) k)] rfl rfl (fun _ => rfl) rfl eT25 rfl rfl rfl rfl ho4 (fun _ => rfl) (by show ((filtF (2 ^ n) (shB xs)).take k).length + 1 ≤ _; omega) (by show (((filtF (2 ^ n) (shB xs)).take k).length + 1) * 8 ≤ _; omega) hx0_5.size (fun _ _ => trivial) fun u1 v1 h4 ho5 hc2 hg1 => ?_
    have hch2 := hch1.trans ((Tk.of_chg hc2 ho4 (by decide) : Tk 26 _ _))
    have hsz_hch2 := hch2.1
    have hch3 := Nc.of_chg hc2 ho4
    have hsz_hch3 := hch3.1
    have hx0_6 := hx0_5.trans (ho4.ext hc2 hx0_5.size)
    have hb7 := hb6.chg hc2 (nb_ty ho4 hb6 (by decide))
    refine lx_stB (v1) rfl rfl Try.sizeOf25 hb7 (by simp) rfl rfl (sl_cells ho5.rd) (sl_one ho5.rd) (fun _ _ _ _ => trivial) fun h5 hbk5 hc3 => ?_
    have hch4 := hch2.trans ((Tk.of_chgB hc3 hb7 (by decide) : Tk 26 _ _))
    have hsz_hch4 := hch4.1
    have hch5 := hch3.trans (Nc.of_chgB hc3 hb7)
    have hsz_hch5 := hch5.1
    have hx0_7 := hx0_6.trans (hc3.ext hbb1)
    have ho6 := hc3.owE ho5 (nb_ty ho5 hb7 (by decide))
    have hbk5 : Blk h5 bn1 #[v1] 25 := hbk5
    refine lx_nil <| wi_inBlock <| ?_
    have hbu2 := (nc_loop hch5 hbu1)
    have hd3 := (hd2.nc hch5)
    -- Q0.1
    refine wi_end ⟨rfl, hbu2, fun h6 hc4 hlr2 => ?_⟩
    have hcel2 := cel_loop hc4 hbu2
    have hx0_8 := hx0_7.trans (hc4.ext hbl1)
    have ho7 := hcel2.owE ho6
    have hb8 := hcel2.blk hbk5
    refine ⟨hch4.trans (Tk.of_loop hc4 hbu2), hlr2, hd3.chgL hbu2 hc4, (v1), ?_, ?_, hx0_8⟩
    · exact hb8
    · rw [List.take_add_one, gt_some hk1]; exact ho7
  · refine ⟨hlr1, DsOk.cons hDr1 (DsOk.nil _), (.slice none 0 0), ?_, ?_, hx0_1⟩
    · exact hb5
    · rw [List.take_zero]; exact (owE_nil encI _ h.size 3)
  rintro _ h7 ⟨_, hr2, hd4, v, hbk6, ho8, hx0_9⟩
  refine ⟨hr2, fun h8 hc5 => ?_⟩
  have hcel3 := cel_loop hc5 hr2
  have hx0_10 := hx0_9.trans (hc5.ext hbl1)
  have ho9 := hcel3.owE ho8
  have hb9 := hcel3.blk hbk6
  have hd5 := hd4.chgL hr2 hc5
  have hbDs1 : ∀ d ∈ D1 :: [], h.size ≤ d := fun d hd9 => by
    rw [List.mem_cons] at hd9
    rcases hd9 with rfl | hd9
    · exact hbD1
    · exact (fun d hd9 => by cases hd9) d hd9
  have hnd1 : (D1 :: []).Nodup := List.nodup_cons.2 ⟨fun hd9 => (by cases hd9), List.nodup_nil⟩
  have hlt1 : ∀ d ∈ D1 :: [], d < h8.size := fun d hd9 => (Array.getElem?_eq_some_iff.1 (hd5 d hd9)).1
  refine wi_inBlock <| wi_seq <| wi_reg rfl <| lx_ldB (v) rfl rfl fl25 hb9 rfl rfl <| lx_assign (v) rfl rfl <| lx_nil <| ?_
  -- R1
  have hd6 := hd5
  refine wi_retD (Ds := D1 :: []) hnd1 hd6 (fun h9 hcel4 hsz2 hbb2 => ?_)
  have hx0_11 := ext_marks2 hx0_10 hd6 hbDs1 hsz2 hbb2
  have ho10 := hcel4.owE ho9
  have hb10 := hcel4.blk hb9
  refine ⟨v, (res_one rfl rfl), ⟨v, rfl, ?_, hx0_11⟩⟩
  · rw [List.take_length] at *; exact ho10

set_option maxRecDepth 10000 in
theorem collect_spec (h : Heap) (n : Nat) (vl : Value) (xs : List Int) (bn : Nat) (bl : Nat) (hb_bn : Blk h bn (#[.int .i64 ((n : Nat) : Int)]) 3) (hb_bl : Blk h bl (#[vl]) 25) (hr_vl : RdE encI h vl xs) (hp1 : n ≤ 7) (hp2 : xs.length ≤ 4096) (hp3 : ∀ i, i < xs.length → 0 ≤ gt xs i ∧ gt xs i < 1024) : Fx Try.prog 117 [.func (.func 148) #[] #[.pointer (some ⟨bn, 0, none⟩), .pointer (some ⟨bl, 0, none⟩)]] h (fun v h' => ∃ (s : Value), v = s ∧ OwE encI h' h.size 3 s (filtF (2 ^ n) (shB xs)) ∧ Ext h.size h h') := by
  refine fx_intro (n := 5) [(0, .func (.func 148) #[] #[.pointer (some ⟨bn, 0, none⟩), .pointer (some ⟨bl, 0, none⟩)])] Try.func117 rfl rfl (by simp) ⟨rfl, trivial⟩ fun g0 => ?_
  refine wi_seq <| wi_reg rfl <| lx_assign (.slice none 0 0) rfl rfl <| lx_nil <| wi_seq <| wi_reg rfl <| lx_move (.func (.func 148) #[] #[.pointer (some ⟨bn, 0, none⟩), .pointer (some ⟨bl, 0, none⟩)]) rfl rfl <| lx_call [.slice none 0 0, .func (.func 148) #[] #[.pointer (some ⟨bn, 0, none⟩), .pointer (some ⟨bl, 0, none⟩)]] rfl rfl Try.call147 rfl (appendSeq_spec h n vl xs bn bl hb_bn hb_bl hr_vl (by omega) (by omega) (by first | with_reducible assumption | omega)) (fun _ _ _ => trivial) ?_
  rintro v1 h1 ⟨_, rfl, ho1, hx1⟩
  have hb1 := hb_bn.extS hx1
  have hb2 := hb_bl.extS hx1
  have ho2 := ho1.base (Nat.le_refl h.size)
  refine lx_assign (v1) rfl rfl <| lx_nil <| ?_
  -- R1
  refine wi_ret ⟨v1, (res_one rfl rfl), ⟨v1, rfl, ho2, hx1⟩⟩

/-- What shat.Check answers. -/
def chkS (n : Int) (xs : List Int) : Int := if n < 0 ∨ 10 < n then 1 else if (∀ i, i < xs.length → (if i = 0 then -1 else gt xs (i - 1)) < gt xs i ∧ gt xs i < ((2 ^ n.toNat : Nat) : Int)) then 0 else 80
theorem chkS_size {n : Int} {xs : List Int} (h : n < 0 ∨ 10 < n) : chkS n xs = 1 := if_pos h
theorem chkS_bad {n : Int} {xs : List Int} {i : Nat} (h : ¬ (n < 0 ∨ 10 < n)) (hi : i < xs.length) (hb : ¬ ((if i = 0 then -1 else gt xs (i - 1)) < gt xs i ∧ gt xs i < ((2 ^ n.toNat : Nat) : Int))) : chkS n xs = 80 := by
  unfold chkS; rw [if_neg h, if_neg fun h9 => hb (h9 i hi)]
theorem chkS_ok {n : Int} {xs : List Int} (h : ¬ (n < 0 ∨ 10 < n)) (hb : ∀ i, i < xs.length → (if i = 0 then -1 else gt xs (i - 1)) < gt xs i ∧ gt xs i < ((2 ^ n.toNat : Nat) : Int)) : chkS n xs = 0 := by
  unfold chkS; rw [if_neg h, if_pos hb]
theorem chkS_zero {n : Int} {xs : List Int} (h : chkS n xs = 0) : 0 ≤ n ∧ n ≤ 10 ∧ ∀ i, i < xs.length → (if i = 0 then -1 else gt xs (i - 1)) < gt xs i ∧ gt xs i < ((2 ^ n.toNat : Nat) : Int) := by
  unfold chkS at h
  split at h
  · cases h
  · split at h
    · rename_i h1 h2; exact ⟨by omega, by omega, h2⟩
    · cases h
theorem chkS_nonneg {n : Int} {xs : List Int} (h : ∀ i, i < xs.length → (if i = 0 then -1 else gt xs (i - 1)) < gt xs i ∧ gt xs i < ((2 ^ n.toNat : Nat) : Int)) : ∀ i, i < xs.length → 0 ≤ gt xs i
  | 0, hi => by have := (h 0 hi).1; rw [if_pos rfl] at this; omega
  | i + 1, hi => by have h1 := (h (i + 1) hi).1; rw [if_neg (by omega)] at h1; have h2 := chkS_nonneg h i (by omega); rw [show i + 1 - 1 = i from rfl] at h1; omega

set_option maxRecDepth 10000 in
theorem shcheck_spec (h : Heap) (n : Int) (vl : Value) (xs : List Int) (hr_vl : RdE encI h vl xs) (hp1 : xs.length ≤ 4611686018427387904) : Fx Try.prog 72 [.int .i64 n, vl] h (fun v h' => v = .int .i64 (chkS n xs) ∧ h = h') := by
  refine fx_intro (n := 32) [(0, .int .i64 n), (1, vl)] Try.func72 rfl rfl (by simp) ⟨rfl, rfl, trivial⟩ fun g0 => ?_
  refine wi_seq <| wi_reg rfl <| lx_assign (.int .i64 0) rfl rfl <| lx_nil <| wi_seq <| wi_seq <| wi_reg rfl <| lx_move (.int .i64 n) rfl rfl <| lx_lssS rfl rfl rfl (fun c1 => ?_) (fun c1 => ?_)
  · refine lx_move (.bool true) rfl rfl <| lx_skip rfl <| lx_skip rfl <| lx_pick true (.bool true) rfl rfl rfl <| lx_nil <| wi_true rfl <| wi_seq <| wi_reg rfl <| lx_assign (.int .i64 1) rfl rfl <| lx_nil <| ?_
    -- R1
    refine wi_ret ⟨.int .i64 1, (res_one rfl rfl), ⟨?_, rfl⟩⟩
    · congr 1
      first
      | rw [chkS_size (by omega)]
      | (rw [chkS_bad (i := i) hn1 (by omega) (by rw [← hla, Int.toNat_natCast]; omega)]; done)
      | rw [chkS_ok hn1 fun j hj => hall j (by omega)]
  · refine lx_move (.bool false) rfl rfl <| lx_move (.int .i64 n) rfl rfl <| lx_gtrS rfl rfl rfl (fun c2 => ?_) (fun c2 => ?_)
    · refine lx_pick false (.bool true) rfl rfl rfl <| lx_nil <| wi_true rfl <| wi_seq <| wi_reg rfl <| lx_assign (.int .i64 1) rfl rfl <| lx_nil <| ?_
      -- R2
      refine wi_ret ⟨.int .i64 1, (res_one rfl rfl), ⟨?_, rfl⟩⟩
      · congr 1
        first
        | rw [chkS_size (by omega)]
        | (rw [chkS_bad (i := i) hn1 (by omega) (by rw [← hla, Int.toNat_natCast]; omega)]; done)
        | rw [chkS_ok hn1 fun j hj => hall j (by omega)]
    · refine lx_pick false (.bool false) rfl rfl rfl <| lx_nil <| wi_false rfl <| wi_skip <| wi_seq <| wi_reg rfl <| ?_
      have hn1 : ¬ (n < 0 ∨ 10 < n) := by omega
      obtain ⟨m, rfl⟩ : ∃ m : Nat, n = ((m : Nat) : Int) := ⟨n.toNat, by omega⟩
      have hpw := pow10 (show m ≤ 10 by omega)
      refine lx_assign (.int .i64 (-1)) rfl rfl <| lx_nil <| wi_seq <| wi_seq <| wi_reg rfl <| lx_move (vl) rfl rfl <| lx_len rfl Try.underlying25 hr_vl rfl <| lx_move (.int .i64 0) rfl rfl <| lx_nil <| wi_block <| ?_
      refine wi_loop (σ := Nat × Int) (rngB 16 32 [4, 5, 7]) (fun (ss : Nat × Int) => [(16, .int .i64 ((ss.1 : Nat) : Int)), (5, .int .i64 ss.2)]) (fun (ss : Nat × Int) (hh : Heap) => h = hh ∧ (ss.1 ≤ xs.length) ∧ (ss.2 = if ss.1 = 0 then -1 else gt xs (ss.1 - 1)) ∧ (∀ j, j < ss.1 → (if j = 0 then -1 else gt xs (j - 1)) < gt xs j ∧ gt xs j < ((2 ^ m : Nat) : Int))) (fun (ss : Nat × Int) => xs.length - ss.1) (0, -1) ⟨rfl, rfl, trivial⟩ ⟨rfl, ?_, ?_, ?_⟩ ?_
      · try dsimp only
        omega
      · try dsimp only
        first | done | rfl
      · try dsimp only
        intro j hj; omega
      rintro g1 ⟨i, la⟩ hh1 ⟨rfl, hi, hla, hall⟩ IH1
      dsimp only at *
      refine wi_seq <| wi_reg rfl <| lx_lssS rfl rfl rfl (fun c3 => ?_) (fun c3 => ?_)
      · refine lx_nil <| wi_seq <| wi_true rfl <| wi_skip <| wi_seq <| wi_block <| wi_seq <| wi_reg rfl <| lx_ix (i := i) rfl eT25 hr_vl rfl rfl (by first | omega | (simp only [List.length_set, List.length_append, List.length_cons, List.length_nil, List.length_replicate, List.length_take, swp_length, exch_length]; omega)) <| lx_ld (i := i) (j := 0) (.int .i64 (gt xs i)) rfl rfl fl3 hr_vl (by first | omega | (simp only [List.length_set, List.length_append, List.length_cons, List.length_nil, List.length_replicate, List.length_take, swp_length, exch_length]; omega)) rfl rfl <| lx_assign (.int .i64 (gt xs i)) rfl rfl <| lx_nil <| wi_seq <| wi_seq <| wi_reg rfl <| lx_move (.int .i64 (gt xs i)) rfl rfl <| lx_move (.int .i64 la) rfl rfl <| lx_leqS rfl rfl rfl (fun c4 => ?_) (fun c4 => ?_)
        · refine lx_move (.bool true) rfl rfl <| lx_skip rfl <| lx_skip rfl <| lx_skip rfl <| lx_skip rfl <| lx_skip rfl <| lx_pick true (.bool true) rfl rfl rfl <| lx_nil <| wi_true rfl <| wi_seq <| wi_reg rfl <| lx_assign (.int .i64 80) rfl rfl <| lx_nil <| ?_
          -- R3
          refine wi_ret ⟨.int .i64 80, (res_one rfl rfl), ⟨?_, rfl⟩⟩
          · congr 1
            first
            | rw [chkS_size (by omega)]
            | (rw [chkS_bad (i := i) hn1 (by omega) (by rw [← hla, Int.toNat_natCast]; omega)]; done)
            | rw [chkS_ok hn1 fun j hj => hall j (by omega)]
        · refine lx_move (.bool false) rfl rfl <| lx_move (.int .i64 (gt xs i)) rfl rfl <| lx_move (.int .i64 ((m : Nat) : Int)) rfl rfl <| lx_conv ((m : Nat) : Int) rfl Try.underlying3 Try.underlying45 rfl (wrap_u64 (by omega) (by omega)) <| lx_shl (m := 1) (n := m) rfl rfl rfl (by show _ ≤ 64; omega) (wrap_i64 (by omega) (by omega)) <| lx_geqS rfl rfl rfl (fun c5 => ?_) (fun c5 => ?_)
          · refine lx_pick false (.bool true) rfl rfl rfl <| lx_nil <| wi_true rfl <| wi_seq <| wi_reg rfl <| lx_assign (.int .i64 80) rfl rfl <| lx_nil <| ?_
            -- R4
            refine wi_ret ⟨.int .i64 80, (res_one rfl rfl), ⟨?_, rfl⟩⟩
            · congr 1
              first
              | rw [chkS_size (by omega)]
              | (rw [chkS_bad (i := i) hn1 (by omega) (by rw [← hla, Int.toNat_natCast]; omega)]; done)
              | rw [chkS_ok hn1 fun j hj => hall j (by omega)]
          · refine lx_pick false (.bool false) rfl rfl rfl <| lx_nil <| wi_false rfl <| wi_skip <| wi_reg rfl <| lx_move (.int .i64 (gt xs i)) rfl rfl <| lx_assign (.int .i64 (gt xs i)) rfl rfl <| lx_nil <| wi_inBlock <| wi_reg rfl <| lx_add (((i + 1 : Nat) : Int)) rfl rfl rfl (by omega) (by omega) (by omega) <| lx_move (.int .i64 ((i + 1 : Nat) : Int)) rfl rfl <| lx_nil <| ?_
            -- L0.1
            refine IH1 _ _ (i + 1, gt xs i) (agree_ups rfl agree_self) ⟨rfl, rfl, trivial⟩ ⟨rfl, ?_, ?_, ?_⟩ ?_
            · try dsimp only
              omega
            · try dsimp only
              first | done | rfl
            · try dsimp only
              intro j hj
              by_cases e : j = i
              · subst e; rw [← hla]; exact ⟨by omega, by omega⟩
              · exact hall j (by omega)
            · first | omega | (dsimp only; omega)
      · refine lx_nil <| wi_seq <| wi_false rfl <| wi_exit rfl <| wi_seq <| wi_reg rfl <| lx_assign (.int .i64 0) rfl rfl <| lx_nil <| ?_
        -- R5
        refine wi_ret ⟨.int .i64 0, (res_one rfl rfl), ⟨?_, rfl⟩⟩
        · congr 1
          first
          | rw [chkS_size (by omega)]
          | (rw [chkS_bad (i := i) hn1 (by omega) (by rw [← hla, Int.toNat_natCast]; omega)]; done)
          | rw [chkS_ok hn1 fun j hj => hall j (by omega)]

set_option maxRecDepth 10000 in
theorem shattered_all_spec (h : Heap) (n : Nat) (vl : Value) (xs : List Int) (hr_vl : RdE encI h vl xs) (hp1 : n ≤ 7) (hp2 : xs.length ≤ 4096) : Fx Try.prog 67 [.int .i64 ((n : Nat) : Int), vl] h (fun v h' => ∃ (s : Value) (ys : List Int), v = .tuple #[s, .int .i64 (chkS n xs)] ∧ OwE encI h' h.size 3 s ys ∧ ((chkS n xs ≠ 0 ∧ ys = []) ∨ (chkS n xs = 0 ∧ ys = filtF (2 ^ n) (shB xs))) ∧ Ext h.size h h') := by
  refine fx_intro (n := 17) [(0, .int .i64 ((n : Nat) : Int)), (1, vl)] Try.func67 rfl rfl (by simp) ⟨rfl, rfl, trivial⟩ fun g0 => ?_
  refine wi_seq <| wi_reg rfl <| lx_assign (.slice none 0 0) rfl rfl <| lx_assign (.int .i64 0) rfl rfl <| lx_nil <| wi_seq <| wi_seq <| wi_reg rfl <| lx_move (.int .i64 ((n : Nat) : Int)) rfl rfl <| lx_move (vl) rfl rfl <| lx_call [.int .i64 ((n : Nat) : Int), vl] rfl rfl Try.call72 rfl (shcheck_spec h (((n : Nat) : Int)) vl xs hr_vl (by omega)) (fun _ _ _ => trivial) ?_
  rintro _ h1 ⟨rfl, rfl⟩
  refine lx_assign (.int .i64 (chkS (((n : Nat) : Int)) xs)) rfl rfl <| lx_nil <| wi_seq <| wi_reg rfl <| lx_move (.int .i64 (chkS (((n : Nat) : Int)) xs)) rfl rfl <| lx_neqS rfl rfl rfl (fun c1 => ?_) (fun c1 => ?_)
  · refine lx_nil <| wi_true rfl <| wi_seq <| wi_reg rfl <| lx_move (.int .i64 (chkS (((n : Nat) : Int)) xs)) rfl rfl <| lx_assign (.slice none 0 0) rfl rfl <| lx_assign (.int .i64 (chkS (((n : Nat) : Int)) xs)) rfl rfl <| lx_nil <| ?_
    -- R1
    refine wi_ret ⟨.tuple #[.slice none 0 0, .int .i64 (chkS (((n : Nat) : Int)) xs)], (res_two rfl rfl rfl), ⟨.slice none 0 0, [], ?_, (owE_nil encI _ h.size 3), ?_, (Ext.refl _ _)⟩⟩
    · first | rfl | (simp; done) | (simp; omega)
    · exact .inl ⟨by omega, rfl⟩
  · refine lx_nil <| wi_false rfl <| wi_skip <| wi_seq <| wi_reg rfl <| ?_
    obtain ⟨_, _, hz3⟩ := chkS_zero (n := n) (xs := xs) (by omega)
    have hz4 := chkS_nonneg hz3
    have hz5 : ∀ i, i < xs.length → 0 ≤ gt xs i ∧ gt xs i < 1024 := fun i hi => ⟨hz4 i hi, by have := (hz3 i hi).2; rw [Int.toNat_natCast] at this; have h9 := pow10 (show n ≤ 10 by omega); omega⟩
    refine lx_move (.int .i64 ((n : Nat) : Int)) rfl rfl <| lx_move (vl) rfl rfl <| lx_call [.int .i64 ((n : Nat) : Int), vl] rfl rfl Try.call118 rfl (shattered_spec h n vl xs hr_vl) (fun _ _ _ => trivial) ?_
    rintro _ h2 ⟨bn_1, bl_1, rfl, ho1, hot1, ho2, hot2, hx1⟩
    have hbx1 : h.size ≤ bn_1 := Nat.le_trans (Nat.le_refl h.size) ho1
    have hbx2 : h.size ≤ bl_1 := Nat.le_trans (Nat.le_refl h.size) ho2
    refine lx_call [.func (.func 148) #[] #[.pointer (some ⟨bn_1, 0, none⟩), .pointer (some ⟨bl_1, 0, none⟩)]] rfl rfl Try.call117 rfl (collect_spec h2 n vl xs bn_1 bl_1 hot1 hot2 (hr_vl.extS hx1) (by omega) (by omega) hz5) (fun _ _ _ => trivial) ?_
    rintro v1 h3 ⟨_, rfl, ho3, hx2⟩
    have hx0_1 := hx1.trans2 hx2 hx1.size
    have hb1 := hot1.extS hx2
    have hb2 := hot2.extS hx2
    have ho4 := ho3.base hx1.size
    refine lx_assign (v1) rfl rfl <| lx_assign (.int .i64 0) rfl rfl <| lx_nil <| ?_
    -- R2
    refine wi_ret ⟨.tuple #[v1, .int .i64 0], (res_two rfl rfl rfl), ⟨v1, filtF (2 ^ n) (shB xs), ?_, ho4, ?_, hx0_1⟩⟩
    · rw [show chkS n xs = 0 from by omega]
    · exact .inr ⟨by omega, rfl⟩

end Go.Proofs.Ytdokijbdnajhgaa
