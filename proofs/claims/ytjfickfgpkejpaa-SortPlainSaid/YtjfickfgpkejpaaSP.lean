/-
  Walks: layers.
-/
import Derived.Test.YtjfickfgpkejpaaSN
import Derived.Test.YtjfickfgpkejpaaXTab
import Derived.Test.YtjfickfgpkejpaaXLay
set_option linter.unusedSimpArgs false
set_option linter.unusedVariables false
namespace Go.Proofs.Ytjfickfgpkejpaa
open Go Go.X

set_option maxRecDepth 10000 in
theorem layered_spec (h : Heap) (vl : Value) (ls : List (Int × Int)) (hr_vl : RdE encP h vl ls) : Fx Try.prog 58 [vl] h (fun v h' => ∃ (bx : Nat), v = .func (.func 66) #[] #[.pointer (some ⟨bx, 0, none⟩)] ∧ h.size ≤ bx ∧ Blk h' bx (#[vl]) 38 ∧ Ext h.size h h') := by
  refine fx_intro (n := 4) [(0, vl)] Try.func58 rfl rfl (by simp) ⟨rfl, trivial⟩ fun g0 => ?_
  refine wi_seq <| wi_reg rfl <| lx_box #[vl] rfl rfl (sl_cells hr_vl) (fun _ _ _ => trivial) fun bn1 h1 hbn1 hbk1 hx1 hsz1 => ?_
  have hbb1 : h.size ≤ bn1 := by have := (Nat.le_refl h.size); omega
  refine lx_assign (.nilFunc) rfl rfl <| lx_nil <| wi_seq <| wi_reg rfl <| lx_makeFunc [] [.pointer (some ⟨bn1, 0, none⟩)] rfl rfl rfl <| lx_assign (.func (.func 66) #[] #[.pointer (some ⟨bn1, 0, none⟩)]) rfl rfl <| lx_nil <| ?_
  -- R1
  refine wi_ret ⟨.func (.func 66) #[] #[.pointer (some ⟨bn1, 0, none⟩)], (res_one rfl rfl), ⟨bn1, rfl, ?_, hbk1, hx1⟩⟩
  · omega

set_option maxRecDepth 10000 in
theorem layered1_seq (m bx : Nat) (vl : Value) (ls : List (Int × Int)) (hp1 : NetLt m ls) (hp2 : m ≤ 10) (hp3 : ls.length ≤ 1000000) : SeqC Try.prog 66 [.pointer (some ⟨bx, 0, none⟩)] 102 (fun h => Blk h bx #[vl] 38 ∧ RdE encP h vl ls) ls.length (fun k => [.int .i64 ((atF ls k : Nat) : Int), .agg #[.int .i64 (gt ls k).1, .int .i64 (gt ls k).2]]) := by
  intro l h J hJS hCap hY h0
  obtain ⟨hcp1, hcp2⟩ := hCap _ _ h0
  refine fx_intro (n := 38) [(0, .func (.yield l) #[] #[]), (1, .pointer (some ⟨bx, 0, none⟩))] Try.func66 rfl rfl (by simp) ⟨rfl, rfl, trivial⟩ fun g0 => ?_
  refine wi_seq <| wi_reg rfl <| lx_alloc rfl rfl Try.zeroValue102 (fun _ _ _ => trivial) fun bn1 h1 hbn1 hbk1 hx1 hsz1 => ?_
  have hbb1 : h.size ≤ bn1 := by have := (Nat.le_refl h.size); omega
  have hne1 : bn1 ≠ bx := by have := hcp1.lt; omega
  have hch1 := (Qk.of_ext hx1 : Qk 102 (h).size _ _)
  have hsz_hch1 := hch1.1
  have hx0_1 := hx1.mono (Nat.le_refl h.size)
  have hb1 := hcp1.extS hx1
  have hbk1 : Blk h1 bn1 (ic (List.replicate 10 0)) 102 := hbk1
  refine lx_nil <| wi_seq <| wi_reg rfl <| lx_ldB (vl) rfl rfl fl38 hb1 rfl rfl <| lx_len rfl Try.underlying38 hcp2 rfl <| lx_move (.int .i64 0) rfl rfl <| lx_nil <| wi_block <| ?_
  refine wi_loop (σ := Nat × (List Int)) (rngB 9 38 [5, 6]) (fun (ss : Nat × (List Int)) => [(9, .int .i64 ((ss.1 : Nat) : Int))]) (fun (ss : Nat × (List Int)) (hh : Heap) => h.size ≤ hh.size ∧ J ss.1 hh ∧ Blk hh bn1 (ic ss.2) 102 ∧ (ss.1 ≤ ls.length) ∧ (ss.2.length = 10) ∧ (∀ i, i < 10 → gt ss.2 i = ((laF ls ss.1 i : Nat) : Int))) (fun (ss : Nat × (List Int)) => ls.length - ss.1) (0, List.replicate 10 0) ⟨rfl, trivial⟩ ⟨(Nat.le_trans (Nat.le_refl h.size) hx0_1.size), (hJS _ _ _ h0 ⟨hx0_1, hch1⟩), ?_, ?_, ?_, ?_⟩ ?_
  · exact hbk1
  · try dsimp only
    omega
  · try dsimp only
    simp
  · try dsimp only
    intro i hi; rw [gt_replicate hi]; rfl
  rintro g1 ⟨k, us⟩ hh1 ⟨hle1, hJ1, hbk2, hk, hul, hus⟩ IH1
  dsimp only at *
  obtain ⟨hcp3, hcp4⟩ := hCap _ _ hJ1
  refine wi_seq <| wi_reg rfl <| lx_lssS rfl rfl rfl (fun c1 => ?_) (fun c1 => ?_)
  · refine lx_nil <| wi_seq <| wi_true rfl <| wi_skip <| wi_seq <| wi_block <| wi_seq <| wi_reg rfl <| ?_
    obtain ⟨a, b, hgc, hab, hb⟩ := netLt_at hp1 (show k < ls.length by omega)
    have hla := laF_le ls k a
    have hlb := laF_le ls k b
    have hat := atF_ab hgc
    have hmx : max (laF ls k a) (laF ls k b) ≤ k := by omega
    refine lx_ix (i := k) rfl eT38 hcp4 rfl rfl (by first | omega | (simp only [List.length_set, List.length_append, List.length_cons, List.length_nil, List.length_replicate, List.length_take, swp_length, exch_length]; omega)) <| lx_ldA (i := k) [.int .i64 ((a : Nat) : Int), .int .i64 ((b : Nat) : Int)] rfl rfl wd60 hcp4 (by first | omega | (simp only [List.length_set, List.length_append, List.length_cons, List.length_nil, List.length_replicate, List.length_take, swp_length, exch_length]; omega)) (by rw [hgc]; rfl) rfl <| lx_alloc rfl rfl Try.zeroValue60 (fun _ _ _ => trivial) fun bn2 h2 hbn2 hbk3 hx2 hsz2 => ?_
    have hbb2 : h.size ≤ bn2 := by have := hle1; omega
    have hne2 : bn2 ≠ bx := by have := hcp3.lt; omega
    have hne3 : bn2 ≠ bn1 := by have := hbk2.lt; omega
    have hch2 := (Qk.of_ext hx2 : Qk 102 (hh1).size _ _)
    have hsz_hch2 := hch2.1
    have hx0_2 := hx2.mono hle1
    have hb2 := hcp3.extS hx2
    have hb3 := hbk2.extS hx2
    have hxr1 := (Ext.refl hh1.size hh1).trans2 hx2 (Ext.refl hh1.size hh1).size
    have hbk3 : Blk h2 bn2 #[.int .i64 0, .int .i64 0] 60 := hbk3
    refine lx_stBA (#[.int .i64 ((a : Nat) : Int), .int .i64 ((b : Nat) : Int)]) rfl rfl Try.sizeOf60 hbk3 rfl rfl rfl rfl (by simp [Value.oneCell']) (fun _ _ _ _ => trivial) fun h3 hbk4 hc1 => ?_
    have hch3 := hch2.trans ((Qk.of_new hc1 (by omega) : Qk 102 (hh1).size _ _))
    have hsz_hch3 := hch3.1
    have hx0_3 := hx0_2.trans (hc1.ext hbb2)
    have hb4 := hc1.blk hb2 (Ne.symm hne2)
    have hb5 := hc1.blk hb3 (Ne.symm hne3)
    refine lx_nil <| wi_seq <| wi_draw mo rfl (by decide +kernel) <| lx_ixB (i := 0) (0) rfl Try.underlying60 Try.sizeOf3 rfl rfl (by omega) rfl <| lx_ldB (.int .i64 ((a : Nat) : Int)) rfl rfl fl3 hbk4 rfl rfl <| lx_ixB (i := a) (a) rfl Try.underlying102 Try.sizeOf3 rfl rfl (by omega) (by omega) <| lx_ldB (.int .i64 ((laF ls k a : Nat) : Int)) rfl rfl fl3 hb5 (by rw [ic_get (by omega)]; exact congrArg (fun x => some (Value.int .i64 x)) (hus _ (by omega))) rfl <| lx_ixB (i := 1) (1) rfl Try.underlying60 Try.sizeOf3 rfl rfl (by omega) rfl <| lx_ldB (.int .i64 ((b : Nat) : Int)) rfl rfl fl3 hbk4 rfl rfl <| lx_ixB (i := b) (b) rfl Try.underlying102 Try.sizeOf3 rfl rfl (by omega) (by omega) <| lx_ldB (.int .i64 ((laF ls k b : Nat) : Int)) rfl rfl fl3 hb5 (by rw [ic_get (by omega)]; exact congrArg (fun x => some (Value.int .i64 x)) (hus _ (by omega))) rfl <| lx_max (((atF ls k : Nat) : Int)) rfl rfl rfl (by omega) <| lx_assign (.int .i64 ((atF ls k : Nat) : Int)) rfl rfl <| lx_nil <| wi_seq <| wi_drawS (fun h9 => Blk h9 bn2 #[.int .i64 ((a : Nat) : Int), .int .i64 ((b : Nat) : Int)] 60) (fun o => match o.dst with | some 23 | some 25 => .free | _ => kindOf o) mo rfl (by decide +kernel) hbk4 <| lx_ixB (i := 0) (0) rfl Try.underlying60 Try.sizeOf3 rfl rfl (by omega) rfl <| lx_ldBF (.int .i64 ((a : Nat) : Int)) rfl fl3 (fun _ hs => hs) rfl rfl <| lx_ixB (i := 1) (1) rfl Try.underlying60 Try.sizeOf3 rfl rfl (by omega) rfl <| lx_ldBF (.int .i64 ((b : Nat) : Int)) rfl fl3 (fun _ hs => hs) rfl rfl <| lx_move (.int .i64 ((atF ls k : Nat) : Int)) rfl rfl <| lx_add (((atF ls k + 1 : Nat) : Int)) rfl rfl rfl (by omega) (by omega) (by omega) <| lx_move (.int .i64 ((atF ls k : Nat) : Int)) rfl rfl <| lx_add (((atF ls k + 1 : Nat) : Int)) rfl rfl rfl (by omega) (by omega) (by omega) <| lx_ixB (i := a) (a) rfl Try.underlying102 Try.sizeOf3 rfl rfl (by omega) (by omega) <| lx_stB (.int .i64 ((atF ls k + 1 : Nat) : Int)) rfl rfl Try.sizeOf3 hb5 (by rw [ic_size]; first | omega | (simp only [List.length_set, List.length_append, List.length_cons, List.length_nil, List.length_replicate, List.length_take, swp_length, exch_length]; omega)) rfl rfl rfl rfl (fun hs _ _ hc => ChgB.blk hc hs (by omega)) fun h4 hbk5 hc2 => ?_
    have hch4 := hch3.trans ((Qk.of_chgT hc2 hb5 : Qk 102 (hh1).size _ _))
    have hsz_hch4 := hch4.1
    have hx0_4 := hx0_3.trans (hc2.ext hbb1)
    have hb6 := hc2.blk hb4 (by omega)
    have hb7 := hc2.blk hbk4 hne3
    rw [ic_set] at hbk5
    refine lx_ixB (i := b) (b) rfl Try.underlying102 Try.sizeOf3 rfl rfl (by omega) (by omega) <| lx_stB (.int .i64 ((atF ls k + 1 : Nat) : Int)) rfl rfl Try.sizeOf3 hbk5 (by rw [ic_size]; first | omega | (simp only [List.length_set, List.length_append, List.length_cons, List.length_nil, List.length_replicate, List.length_take, swp_length, exch_length]; omega)) rfl rfl rfl rfl (fun hs _ _ hc => ChgB.blk hc hs (by omega)) fun h5 hbk6 hc3 => ?_
    have hch5 := hch4.trans ((Qk.of_chgT hc3 hbk5 : Qk 102 (hh1).size _ _))
    have hsz_hch5 := hch5.1
    have hx0_5 := hx0_4.trans (hc3.ext hbb1)
    have hb8 := hc3.blk hb6 (by omega)
    have hb9 := hc3.blk hb7 hne3
    rw [ic_set] at hbk6
    have hJk1 := (hJS _ _ _ hJ1 ⟨hx0_5, hch5⟩)
    have hy2 := hY _ _ (by omega) hJk1
    dsimp only at hy2
    rw [hgc] at hy2
    refine lx_nil <| wi_seq <| wi_reg rfl <| lx_move (.func (.yield l) #[] #[]) rfl rfl <| lx_move (.int .i64 ((atF ls k : Nat) : Int)) rfl rfl <| lx_ldBA rfl rfl wd60 hb9 rfl rfl <| lx_yield [.int .i64 ((atF ls k : Nat) : Int), .agg #[.int .i64 ((a : Nat) : Int), .int .i64 ((b : Nat) : Int)]] rfl rfl rfl rfl hy2 (fun _ _ => trivial) fun h6 ⟨hty1, hJ2⟩ => ?_
    have hle2 : h.size ≤ h6.size := Nat.le_trans (Nat.le_trans hle1 hx0_5.size) hty1.1
    have hb10 := hty1.blk hbk6
    obtain ⟨hcp5, hcp6⟩ := hCap _ _ hJ2
    refine lx_notB false rfl rfl rfl <| lx_nil <| wi_false rfl <| wi_skip <| wi_inBlock <| wi_reg rfl <| lx_add (((k + 1 : Nat) : Int)) rfl rfl rfl (by omega) (by omega) (by omega) <| lx_move (.int .i64 ((k + 1 : Nat) : Int)) rfl rfl <| lx_nil <| ?_
    -- L0.1
    refine IH1 _ _ (k + 1, (us.set a (((atF ls k + 1 : Nat) : Int))).set b (((atF ls k + 1 : Nat) : Int))) (agree_ups rfl agree_self) ⟨rfl, trivial⟩ ⟨hle2, hJ2, ?_, ?_, ?_, ?_⟩ ?_
    · exact hb10
    · try dsimp only
      omega
    · try dsimp only
      simpa using hul
    · try dsimp only
      exact la_step hul hgc (by omega) (by omega) hus
    · first | omega | (dsimp only; omega)
  · refine lx_nil <| wi_seq <| wi_false rfl <| wi_exit rfl <| ?_
    -- R1
    refine wi_end ⟨.tuple #[], (res_none rfl), hle1, ?_⟩
    have hJk := hJ1
    rw [show ls.length = k from by omega]; exact hJk

set_option maxRecDepth 10000 in
theorem layers_spec (h : Heap) (n : Int) (vl : Value) (ls : List (Int × Int)) (hr_vl : RdE encP h vl ls) (hp1 : ls.length ≤ 4611686018427387904) : Fx Try.prog 38 [.int .i64 n, vl] h (fun v h' => ∃ (s : Value) (hs : List Hdr) (ys : List (List (Int × Int))), v = .tuple #[s, .int .i64 (chkNet validC n ls)] ∧ OwE encHd h' h.size 38 s hs ∧ OT encP h' h.size 60 hs ys ∧ ((chkNet validC n ls ≠ 0 ∧ ys = []) ∨ (chkNet validC n ls = 0 ∧ ys = outY ls ls.length)) ∧ Ext h.size h h') := by
  refine fx_intro (n := 38) [(0, .int .i64 n), (1, vl)] Try.func38 rfl rfl (by simp) ⟨rfl, rfl, trivial⟩ fun g0 => ?_
  refine wi_seq <| wi_reg rfl <| lx_assign (.slice none 0 0) rfl rfl <| lx_assign (.int .i64 0) rfl rfl <| lx_nil <| wi_seq <| wi_seq <| wi_reg rfl <| lx_move (.int .i64 n) rfl rfl <| lx_move (vl) rfl rfl <| lx_call [.int .i64 n, vl] rfl rfl Try.call45 rfl (check_spec h n vl ls hr_vl (by omega)) (fun _ _ _ => trivial) ?_
  rintro _ h1 ⟨rfl, hx1⟩
  refine lx_assign (.int .i64 (chkNet validC n ls)) rfl rfl <| lx_nil <| wi_seq <| wi_reg rfl <| lx_move (.int .i64 (chkNet validC n ls)) rfl rfl <| lx_neqS rfl rfl rfl (fun c1 => ?_) (fun c1 => ?_)
  · refine lx_nil <| wi_true rfl <| wi_seq <| wi_reg rfl <| lx_move (.int .i64 (chkNet validC n ls)) rfl rfl <| lx_assign (.slice none 0 0) rfl rfl <| lx_assign (.int .i64 (chkNet validC n ls)) rfl rfl <| lx_nil <| ?_
    -- R1
    refine wi_ret ⟨.tuple #[.slice none 0 0, .int .i64 (chkNet validC n ls)], (res_two rfl rfl rfl), ⟨.slice none 0 0, [], [], rfl, (owE_nil encHd _ h.size 38), (OT.nil encP _ h.size 60), ?_, hx1⟩⟩
    · exact .inl ⟨by omega, rfl⟩
  · refine lx_nil <| wi_false rfl <| wi_skip <| wi_seq <| wi_reg rfl <| ?_
    have hk : chkNet validC n ls = 0 := by omega
    obtain ⟨hn1, hn2, hn3, hn4⟩ := chkNet_ok hk
    obtain ⟨m, rfl⟩ : ∃ m : Nat, n = ((m : Nat) : Int) := ⟨n.toNat, by omega⟩
    have hpw := pow10 (show m ≤ 10 by omega)
    refine lx_alloc rfl rfl Try.zeroValue65 (fun _ _ _ => trivial) fun bn1 h2 hbn1 hbk1 hx2 hsz1 => ?_
    have hbb1 : h.size ≤ bn1 := by have := hx1.size; omega
    have hx0_1 := hx1.trans2 hx2 hx1.size
    have hbk1 : Blk h2 bn1 #[.slice none 0 0] 65 := hbk1
    refine lx_nil <| wi_seq <| wi_seq <| wi_reg rfl <| ?_
    have hnl := chk_netLt hk
    have hll : ls.length ≤ 200 := by omega
    refine lx_move (vl) rfl rfl <| lx_call [vl] rfl rfl Try.call58 rfl (layered_spec h2 vl ls (hr_vl.extS hx0_1)) (fun _ _ _ => trivial) ?_
    rintro _ h3 ⟨bx_1, rfl, ho1, hot1, hx3⟩
    have hx0_2 := hx0_1.trans2 hx3 hx0_1.size
    have hb1 := hbk1.extS hx3
    have hbx1 : h.size ≤ bx_1 := Nat.le_trans hx0_1.size ho1
    refine lx_nil <| wi_block <| ?_
    refine wi_range (Ds := []) (gf := 66) (lb := [.pointer (some ⟨bx_1, 0, none⟩)]) Try.call66 rfl (fun l1 D1 h4 rc1 hlD1 hll1 hDl1 hx4 hlr1 hDr1 hLo1 => ?_)
    have hbl1 : h.size ≤ l1 := Nat.le_trans hx0_2.size hll1
    have hbD1 : h.size ≤ D1 := Nat.le_trans hx0_2.size hlD1
    have hx0_3 := hx0_2.trans2 hx4 hx0_2.size
    have hb2 := hb1.extS hx4
    have hb3 := hot1.extS hx4
    refine Fx.mono (layered1_seq m bx_1 vl ls hnl (by omega) (by omega) l1 h4 (fun k hh => hh[l1]? = some (.loop rc1) ∧ DsOk (D1 :: []) hh ∧ ∃ (v : Value), ∃ (hs : List Hdr), Blk hh bn1 #[v] 65 ∧ OwE encHd hh h.size 38 v hs ∧ OT encP hh h.size 60 hs (outY ls k) ∧ Ext h.size h hh ∧ Blk hh bx_1 #[vl] 38 ∧ Value.ownBlock v ≠ some bx_1) ?_ ?_ ?_ ?_) ?_
    · rintro k ha hb9 ⟨hr9, hd9, v, hs, hbk2, ho2, hot2, hx0_4, hbk3, hdj1⟩ hq1
      exact ⟨hq1.obj hr9 (by intro c t f e; cases e), hq1.dso hd9, v, hs, hq1.blk hbk2 (by decide), hq1.owE ho2 (by decide), hq1.ot hot2 (by decide), hq1.ext hx0_4 hx0_3.size, hq1.blk hbk3 (by decide), hdj1⟩
    · rintro k ha ⟨hr9, hd9, v, hs, hbk4, ho3, hot3, hx0_5, hbk5, hdj2⟩
      exact ⟨hbk5, hr_vl.extS hx0_5⟩
    · rintro k ha1 hk1 ⟨hr1, hd1, v, hs, hbk6, ho4, hot4, hx0_6, hbk7, hdj3⟩
      have hl_hot4 := hot4.1
      refine yield_ok hLo1 hr1 rfl (by decide) ?_
      refine wi_forget [(7, .pointer (some ⟨bn1, 0, none⟩)), (18, .int .i64 ((atF ls k : Nat) : Int)), (19, .agg #[.int .i64 ((gt ls k).1), .int .i64 ((gt ls k).2)])] ⟨rfl, rfl, rfl, trivial⟩ fun g1 => ?_
      refine wi_seq <| wi_reg rfl <| lx_assign (.int .i64 ((atF ls k : Nat) : Int)) rfl rfl <| lx_nil <| wi_reg rfl <| lx_alloc rfl rfl Try.zeroValue60 (fun _ _ _ => trivial) fun bn2 h5 hbn2 hbk8 hx5 hsz2 => ?_
      have hbb2 : h.size ≤ bn2 := by have := hx0_6.size; omega
      have hne1 : bn2 ≠ bn1 := by have := hbk6.lt; omega
      have hne2 : bn2 ≠ bx_1 := by have := hbk7.lt; omega
      have hdj4 : Value.ownBlock v ≠ some bn2 := by intro e; have := (ho4.lt e).2; omega
      have hnb1 : Nbt hs bn2 := nbt_new hot4 (by omega)
      have hch1 := (Tk.of_ext hx5 : Tk 102 _ _)
      have hsz_hch1 := hch1.1
      have hch2 := Nc.of_ext hx5
      have hsz_hch2 := hch2.1
      have hx0_7 := hx0_6.trans2 hx5 hx0_6.size
      have ho5 := ho4.extS hx5
      have hot5 := hot4.extS hx5
      have hb4 := hbk6.extS hx5
      have hb5 := hbk7.extS hx5
      have hbk8 : Blk h5 bn2 #[.int .i64 0, .int .i64 0] 60 := hbk8
      refine lx_stBA (#[.int .i64 ((gt ls k).1), .int .i64 ((gt ls k).2)]) rfl rfl Try.sizeOf60 hbk8 rfl rfl rfl rfl (by simp [Value.oneCell']) (fun _ _ _ _ => trivial) fun h6 hbk9 hc1 => ?_
      have hch3 := hch1.trans ((Tk.of_chgB hc1 hbk8 (by decide) : Tk 102 _ _))
      have hsz_hch3 := hch3.1
      have hch4 := hch2.trans (Nc.of_chgB hc1 hbk8)
      have hsz_hch4 := hch4.1
      have hx0_8 := hx0_7.trans (hc1.ext hbb2)
      have ho6 := hc1.owE ho5 hdj4
      have hot6 := hot5.chgB hc1 hnb1
      have hb6 := hc1.blk hb4 (Ne.symm hne1)
      have hb7 := hc1.blk hb5 (Ne.symm hne2)
      refine lx_nil <| ?_
      have hr2 := nc_loop hch4 hr1
      refine wi_begin hr2 hLo1.st (fun h7 hc2 hbu1 => ?_)
      have hcel1 := cel_loop hc2 hr2
      have hx0_9 := hx0_8.trans (hc2.ext hbl1)
      have ho7 := hcel1.owE ho6
      have hot7 := hot6.cel hcel1
      have hb8 := hcel1.blk hb6
      have hb9 := hcel1.blk hb7
      have hb10 := hcel1.blk hbk9
      have hch5 := hch3.trans (Tk.of_cel hcel1 : Tk 102 _ _)
      have hd2 := (hd1.nc hch4).chgL hr2 hc2
      refine wi_block <| wi_seq <| wi_seq <| wi_reg rfl <| ?_
      have hal := atF_le ls k
      have hol := outY_le ls k
      have hrl := rowY_len ls k (atF ls k)
      have hrl2 := padY_row ls k (atF ls k)
      refine lx_move (.int .i64 ((atF ls k : Nat) : Int)) rfl rfl <| lx_ldB (v) rfl rfl fl65 hb8 rfl rfl <| lx_len rfl Try.underlying65 ho7.rd rfl <| lx_eqlS rfl rfl rfl (fun c2 => ?_) (fun c2 => ?_)
      · have hot8 : OT encP h7 h.size 60 (hs ++ [default]) ((outY ls k) ++ [[]]) := OT.snoc hot7 (owE_nil encP _ h.size 60) (djt_nil _)
        refine lx_nil <| wi_true rfl <| wi_reg rfl <| lx_ldB (v) rfl rfl fl65 hb8 rfl rfl <| lx_appendL (E := encHd) (B := h.size) [default] [.slice none 0 0] rfl rfl (fun _ => rfl) rfl eT65 rfl rfl rfl rfl ho7 (fun _ => rfl) (by show hs.length + 1 ≤ _; omega) (by show (hs.length + 1) * 24 ≤ _; omega) hx0_9.size (fun _ _ => trivial) fun u1 v1 h8 ho8 hc3 hg1 => ?_
        have hch6 := hch5.trans ((Tk.of_chg hc3 ho7 (by decide) : Tk 102 _ _))
        have hsz_hch6 := hch6.1
        have hch7 := Nc.of_chg hc3 ho7
        have hsz_hch7 := hch7.1
        have hx0_10 := hx0_9.trans (ho7.ext hc3 hx0_9.size)
        have hb11 := hb8.chg hc3 (nb_ty ho7 hb8 (by decide))
        have hb12 := hb9.chg hc3 hdj3
        have hb13 := hb10.chg hc3 hdj4
        have hot9 : OT encP h8 h.size 60 (hs ++ [default]) ((outY ls k) ++ [[]]) := hot8.chg hc3 (djt_ty hot8 ho7 (by decide))
        have hl_hot9 := hot9.1
        refine lx_stB (v1) rfl rfl Try.sizeOf65 hb11 (by simp) rfl rfl (sl_cells ho8.rd) (sl_one ho8.rd) (fun _ _ _ _ => trivial) fun h9 hbk10 hc4 => ?_
        have hch8 := hch6.trans ((Tk.of_chgB hc4 hb11 (by decide) : Tk 102 _ _))
        have hsz_hch8 := hch8.1
        have hch9 := hch7.trans (Nc.of_chgB hc4 hb11)
        have hsz_hch9 := hch9.1
        have hx0_11 := hx0_10.trans (hc4.ext hbb1)
        have ho9 := hc4.owE ho8 (nb_ty ho8 hb11 (by decide))
        have hot10 := hot9.chgB hc4 (nbt_ty hot9 hb11 (by decide))
        have hb14 := hc4.blk hb12 (by omega)
        have hb15 := hc4.blk hb13 hne1
        have hbk10 : Blk h9 bn1 #[v1] 65 := hbk10
        refine lx_nil <| wi_drawS (fun h9 => Blk h9 bn1 #[v1] 65) (fun o => match o.dst with | some 27 => .free | _ => kindOf o) mo rfl (by decide +kernel) hbk10 <| lx_ldBF (v1) rfl fl65 (fun _ hs => hs) rfl rfl <| lx_move (.int .i64 ((atF ls k : Nat) : Int)) rfl rfl <| lx_ldB (v1) rfl rfl fl65 hbk10 rfl rfl <| lx_move (.int .i64 ((atF ls k : Nat) : Int)) rfl rfl <| lx_ix (i := atF ls k) rfl eT65 ho9.rd rfl rfl (by first | omega | (simp only [List.length_set, List.length_append, List.length_cons, List.length_nil, List.length_replicate, List.length_take, swp_length, exch_length]; omega)) <| lx_ld (i := atF ls k) (j := 0) ((gt (hs ++ [default]) (atF ls k)).v) rfl rfl fl38 ho9.rd (by first | omega | (simp only [List.length_set, List.length_append, List.length_cons, List.length_nil, List.length_replicate, List.length_take, swp_length, exch_length]; omega)) rfl rfl <| lx_ldBA rfl rfl wd60 hb15 rfl rfl <| lx_appendL (E := encP) (B := h.size) [((gt ls k).1, (gt ls k).2)] [.agg #[.int .i64 ((gt ls k).1), .int .i64 ((gt ls k).2)]] rfl rfl (fun _ => rfl) rfl eT38 rfl rfl rfl rfl (hot10.2.1 (atF ls k) (by first | omega | (simp only [List.length_set, List.length_append, List.length_cons, List.length_nil, List.length_replicate, List.length_take, swp_length, exch_length]; omega))) (fun _ => rfl) (by show (gt ((outY ls k) ++ [[]]) (atF ls k)).length + 1 ≤ _; omega) (by show ((gt ((outY ls k) ++ [[]]) (atF ls k)).length + 1) * 16 ≤ _; omega) hx0_11.size (fun _ hc => Blk.chg hbk10 hc ((nbt_ty hot10 hbk10 (by decide)) (atF ls k) (by rw [hot10.1]; exact (by first | omega | (simp only [List.length_set, List.length_append, List.length_cons, List.length_nil, List.length_replicate, List.length_take, swp_length, exch_length]; omega))))) fun u2 v2 h10 ho10 hc5 hg2 => ?_
        have hch10 := hch8.trans ((Tk.of_chg hc5 (hot10.2.1 (atF ls k) (by first | omega | (simp only [List.length_set, List.length_append, List.length_cons, List.length_nil, List.length_replicate, List.length_take, swp_length, exch_length]; omega))) (by decide) : Tk 102 _ _))
        have hsz_hch10 := hch10.1
        have hch11 := hch9.trans (Nc.of_chg hc5 (hot10.2.1 (atF ls k) (by first | omega | (simp only [List.length_set, List.length_append, List.length_cons, List.length_nil, List.length_replicate, List.length_take, swp_length, exch_length]; omega))))
        have hsz_hch11 := hch11.1
        have hx0_12 := hx0_11.trans ((hot10.2.1 (atF ls k) (by first | omega | (simp only [List.length_set, List.length_append, List.length_cons, List.length_nil, List.length_replicate, List.length_take, swp_length, exch_length]; omega))).ext hc5 hx0_11.size)
        have ho11 := ho9.chg hc5 (Dj.symm ((djt_ty hot10 ho9 (by decide)) (atF ls k) (by rw [hot10.1]; exact (by first | omega | (simp only [List.length_set, List.length_append, List.length_cons, List.length_nil, List.length_replicate, List.length_take, swp_length, exch_length]; omega)))))
        have hb16 := hbk10.chg hc5 ((nbt_ty hot10 hbk10 (by decide)) (atF ls k) (by rw [hot10.1]; exact (by first | omega | (simp only [List.length_set, List.length_append, List.length_cons, List.length_nil, List.length_replicate, List.length_take, swp_length, exch_length]; omega))))
        have hb17 := hb14.chg hc5 ((nbt_ty hot10 hb14 (by decide)) (atF ls k) (by rw [hot10.1]; exact (by first | omega | (simp only [List.length_set, List.length_append, List.length_cons, List.length_nil, List.length_replicate, List.length_take, swp_length, exch_length]; omega))))
        have hot11 := OT.app hot10 (by first | omega | (simp only [List.length_set, List.length_append, List.length_cons, List.length_nil, List.length_replicate, List.length_take, swp_length, exch_length]; omega)) hc5 ho10 hg2
        refine lx_ix (i := atF ls k) rfl eT65 ho11.rd rfl rfl (by first | omega | (simp only [List.length_set, List.length_append, List.length_cons, List.length_nil, List.length_replicate, List.length_take, swp_length, exch_length]; omega)) <| lx_st (i := atF ls k) (hdrOf v2) rfl rfl Try.sizeOf38 ho11 (by first | omega | (simp only [List.length_set, List.length_append, List.length_cons, List.length_nil, List.length_replicate, List.length_take, swp_length, exch_length]; omega)) rfl (hdr_cells ho10.rd) (fun hs _ _ hc _ => Blk.chg hs hc (nb_ty ho11 hs (by decide))) fun h11 ho12 hc6 hsz3 => ?_
        have hch12 := hch10.trans ((Tk.of_chg hc6 ho11 (by decide) : Tk 102 _ _))
        have hsz_hch12 := hch12.1
        have hch13 := hch11.trans (Nc.of_chg hc6 ho11)
        have hsz_hch13 := hch13.1
        have hx0_13 := hx0_12.trans (ho11.ext hc6 hx0_12.size)
        have hb18 := hb16.chg hc6 (nb_ty ho11 hb16 (by decide))
        have hb19 := hb17.chg hc6 (nb_app hdj3 hb9 hg1)
        have hot12 : OT encP h11 h.size 60 ((hs ++ [default]).set (atF ls k) (hdrOf v2)) (((outY ls k) ++ [[]]).set (atF ls k) ((gt ((outY ls k) ++ [[]]) (atF ls k)) ++ [((gt ls k).1, (gt ls k).2)])) := hot11.chg hc6 (djt_ty hot11 ho11 (by decide))
        have hl_hot12 := hot12.1
        have ho12 : OwE encHd h11 h.size 38 v1 ((hs ++ [default]).set (atF ls k) (hdrOf v2)) := ho12
        refine lx_nil <| wi_inBlock <| ?_
        have hbu2 := (nc_loop hch13 hbu1)
        have hd3 := (hd2.nc hch13)
        -- Q0.1
        refine wi_end ⟨rfl, hbu2, fun h12 hc7 hlr2 => ?_⟩
        have hcel2 := cel_loop hc7 hbu2
        have hx0_14 := hx0_13.trans (hc7.ext hbl1)
        have ho13 := hcel2.owE ho12
        have hot13 := hot12.cel hcel2
        have hb20 := hcel2.blk hb18
        have hb21 := hcel2.blk hb19
        refine ⟨hch12.trans (Tk.of_cel hcel2), hlr2, hd3.chgL hbu2 hc7, v1, (hs ++ [default]).set (atF ls k) (hdrOf v2), ?_, ?_, ?_, hx0_14, ?_, (nb_app hdj3 hb9 hg1)⟩
        · exact hb20
        · first | exact ho13 | (simpa using ho13)
        · rw [outY_yes (by omega)]; exact hot13
        · exact hb21
      · refine lx_nil <| wi_false rfl <| wi_skip <| wi_drawS (fun h9 => Blk h9 bn1 #[v] 65) (fun o => match o.dst with | some 27 => .free | _ => kindOf o) mo rfl (by decide +kernel) hb8 <| lx_ldBF (v) rfl fl65 (fun _ hs => hs) rfl rfl <| lx_move (.int .i64 ((atF ls k : Nat) : Int)) rfl rfl <| lx_ldB (v) rfl rfl fl65 hb8 rfl rfl <| lx_move (.int .i64 ((atF ls k : Nat) : Int)) rfl rfl <| lx_ix (i := atF ls k) rfl eT65 ho7.rd rfl rfl (by first | omega | (simp only [List.length_set, List.length_append, List.length_cons, List.length_nil, List.length_replicate, List.length_take, swp_length, exch_length]; omega)) <| lx_ld (i := atF ls k) (j := 0) ((gt hs (atF ls k)).v) rfl rfl fl38 ho7.rd (by first | omega | (simp only [List.length_set, List.length_append, List.length_cons, List.length_nil, List.length_replicate, List.length_take, swp_length, exch_length]; omega)) rfl rfl <| lx_ldBA rfl rfl wd60 hb10 rfl rfl <| lx_appendL (E := encP) (B := h.size) [((gt ls k).1, (gt ls k).2)] [.agg #[.int .i64 ((gt ls k).1), .int .i64 ((gt ls k).2)]] rfl rfl (fun _ => rfl) rfl eT38 rfl rfl rfl rfl (hot7.2.1 (atF ls k) (by first | omega | (simp only [List.length_set, List.length_append, List.length_cons, List.length_nil, List.length_replicate, List.length_take, swp_length, exch_length]; omega))) (fun _ => rfl) (by show (gt (outY ls k) (atF ls k)).length + 1 ≤ _; omega) (by show ((gt (outY ls k) (atF ls k)).length + 1) * 16 ≤ _; omega) hx0_9.size (fun _ hc => Blk.chg hb8 hc ((nbt_ty hot7 hb8 (by decide)) (atF ls k) (by rw [hot7.1]; exact (by first | omega | (simp only [List.length_set, List.length_append, List.length_cons, List.length_nil, List.length_replicate, List.length_take, swp_length, exch_length]; omega))))) fun u3 v3 h13 ho14 hc8 hg3 => ?_
        have hch14 := hch5.trans ((Tk.of_chg hc8 (hot7.2.1 (atF ls k) (by first | omega | (simp only [List.length_set, List.length_append, List.length_cons, List.length_nil, List.length_replicate, List.length_take, swp_length, exch_length]; omega))) (by decide) : Tk 102 _ _))
        have hsz_hch14 := hch14.1
        have hch15 := Nc.of_chg hc8 (hot7.2.1 (atF ls k) (by first | omega | (simp only [List.length_set, List.length_append, List.length_cons, List.length_nil, List.length_replicate, List.length_take, swp_length, exch_length]; omega)))
        have hsz_hch15 := hch15.1
        have hx0_15 := hx0_9.trans ((hot7.2.1 (atF ls k) (by first | omega | (simp only [List.length_set, List.length_append, List.length_cons, List.length_nil, List.length_replicate, List.length_take, swp_length, exch_length]; omega))).ext hc8 hx0_9.size)
        have ho15 := ho7.chg hc8 (Dj.symm ((djt_ty hot7 ho7 (by decide)) (atF ls k) (by rw [hot7.1]; exact (by first | omega | (simp only [List.length_set, List.length_append, List.length_cons, List.length_nil, List.length_replicate, List.length_take, swp_length, exch_length]; omega)))))
        have hb22 := hb8.chg hc8 ((nbt_ty hot7 hb8 (by decide)) (atF ls k) (by rw [hot7.1]; exact (by first | omega | (simp only [List.length_set, List.length_append, List.length_cons, List.length_nil, List.length_replicate, List.length_take, swp_length, exch_length]; omega))))
        have hb23 := hb9.chg hc8 ((nbt_ty hot7 hb9 (by decide)) (atF ls k) (by rw [hot7.1]; exact (by first | omega | (simp only [List.length_set, List.length_append, List.length_cons, List.length_nil, List.length_replicate, List.length_take, swp_length, exch_length]; omega))))
        have hb24 := hb10.chg hc8 (hnb1 (atF ls k) (by rw [hot7.1]; exact (by first | omega | (simp only [List.length_set, List.length_append, List.length_cons, List.length_nil, List.length_replicate, List.length_take, swp_length, exch_length]; omega))))
        have hot14 := OT.app hot7 (by first | omega | (simp only [List.length_set, List.length_append, List.length_cons, List.length_nil, List.length_replicate, List.length_take, swp_length, exch_length]; omega)) hc8 ho14 hg3
        refine lx_ix (i := atF ls k) rfl eT65 ho15.rd rfl rfl (by first | omega | (simp only [List.length_set, List.length_append, List.length_cons, List.length_nil, List.length_replicate, List.length_take, swp_length, exch_length]; omega)) <| lx_st (i := atF ls k) (hdrOf v3) rfl rfl Try.sizeOf38 ho15 (by first | omega | (simp only [List.length_set, List.length_append, List.length_cons, List.length_nil, List.length_replicate, List.length_take, swp_length, exch_length]; omega)) rfl (hdr_cells ho14.rd) (fun hs _ _ hc _ => Blk.chg hs hc (nb_ty ho15 hs (by decide))) fun h14 ho16 hc9 hsz4 => ?_
        have hch16 := hch14.trans ((Tk.of_chg hc9 ho15 (by decide) : Tk 102 _ _))
        have hsz_hch16 := hch16.1
        have hch17 := hch15.trans (Nc.of_chg hc9 ho15)
        have hsz_hch17 := hch17.1
        have hx0_16 := hx0_15.trans (ho15.ext hc9 hx0_15.size)
        have hb25 := hb22.chg hc9 (nb_ty ho15 hb22 (by decide))
        have hb26 := hb23.chg hc9 hdj3
        have hb27 := hb24.chg hc9 hdj4
        have hot15 : OT encP h14 h.size 60 (hs.set (atF ls k) (hdrOf v3)) ((outY ls k).set (atF ls k) ((gt (outY ls k) (atF ls k)) ++ [((gt ls k).1, (gt ls k).2)])) := hot14.chg hc9 (djt_ty hot14 ho15 (by decide))
        have hl_hot15 := hot15.1
        have ho16 : OwE encHd h14 h.size 38 v (hs.set (atF ls k) (hdrOf v3)) := ho16
        refine lx_nil <| wi_inBlock <| ?_
        have hbu3 := (nc_loop hch17 hbu1)
        have hd4 := (hd2.nc hch17)
        -- Q0.2
        refine wi_end ⟨rfl, hbu3, fun h15 hc10 hlr3 => ?_⟩
        have hcel3 := cel_loop hc10 hbu3
        have hx0_17 := hx0_16.trans (hc10.ext hbl1)
        have ho17 := hcel3.owE ho16
        have hot16 := hot15.cel hcel3
        have hb28 := hcel3.blk hb25
        have hb29 := hcel3.blk hb26
        have hb30 := hcel3.blk hb27
        refine ⟨hch16.trans (Tk.of_cel hcel3), hlr3, hd4.chgL hbu3 hc10, v, hs.set (atF ls k) (hdrOf v3), ?_, ?_, ?_, hx0_17, ?_, hdj3⟩
        · exact hb28
        · first | exact ho17 | (simpa using ho17)
        · rw [outY_no (by omega)]; exact hot16
        · exact hb29
    · refine ⟨hlr1, DsOk.cons hDr1 (DsOk.nil _), .slice none 0 0, [], ?_, ?_, ?_, hx0_3, ?_, (nb_nil _)⟩
      · exact hb2
      · first | exact (owE_nil encHd _ h.size 38) | (simpa using (owE_nil encHd _ h.size 38))
      · first | exact (OT.nil encP _ h.size 60) | (simpa using (OT.nil encP _ h.size 60))
      · exact hb3
    rintro _ h16 ⟨_, hr3, hd5, v, hs, hbk11, ho18, hot17, hx0_18, hbk12, hdj5⟩
    have hl_hot17 := hot17.1
    refine ⟨hr3, fun h17 hc11 => ?_⟩
    have hcel4 := cel_loop hc11 hr3
    have hx0_19 := hx0_18.trans (hc11.ext hbl1)
    have ho19 := hcel4.owE ho18
    have hot18 := hot17.cel hcel4
    have hb31 := hcel4.blk hbk11
    have hb32 := hcel4.blk hbk12
    have hd6 := hd5.chgL hr3 hc11
    have hbDs1 : ∀ d ∈ D1 :: [], h.size ≤ d := fun d hd9 => by
      rw [List.mem_cons] at hd9
      rcases hd9 with rfl | hd9
      · exact hbD1
      · exact (fun d hd9 => by cases hd9) d hd9
    have hnd1 : (D1 :: []).Nodup := List.nodup_cons.2 ⟨fun hd9 => (by cases hd9), List.nodup_nil⟩
    have hlt1 : ∀ d ∈ D1 :: [], d < h17.size := fun d hd9 => (Array.getElem?_eq_some_iff.1 (hd6 d hd9)).1
    refine wi_inBlock <| wi_seq <| wi_reg rfl <| lx_ldB (v) rfl rfl fl65 hb31 rfl rfl <| lx_assign (v) rfl rfl <| lx_assign (.int .i64 0) rfl rfl <| lx_nil <| ?_
    -- R2
    have hd7 := hd6
    refine wi_retD (Ds := D1 :: []) hnd1 hd7 (fun h18 hcel5 hsz5 hbb3 => ?_)
    have hx0_20 := ext_marks2 hx0_19 hd7 hbDs1 hsz5 hbb3
    have ho20 := hcel5.owE ho19
    have hot19 := hot18.cel hcel5
    have hb33 := hcel5.blk hb31
    have hb34 := hcel5.blk hb32
    refine ⟨.tuple #[v, .int .i64 0], (res_two rfl rfl rfl), ⟨v, hs, outY ls ls.length, ?_, ho20, hot19, ?_, hx0_20⟩⟩
    · rw [hk]
    · exact .inr ⟨hk, rfl⟩

set_option maxRecDepth 10000 in
theorem rlayers_spec (h : Heap) (n : Nat) (vl : Value) (ls : List (Int × Int)) (hr_vl : RdE encP h vl ls) (hp1 : n ≤ 10) (hp2 : ls.length ≤ 1000000) (hp3 : NetLt n ls) : Fx Try.prog 43 [.int .i64 ((n : Nat) : Int), vl] h (fun v h' => ∃ (s : Value) (hs : List Hdr), v = s ∧ OwE encHd h' h.size 38 s hs ∧ OT encP h' h.size 60 hs (outY ls ls.length) ∧ Ext h.size h h') := by
  refine fx_intro (n := 71) [(0, .int .i64 ((n : Nat) : Int)), (1, vl)] Try.func43 rfl rfl (by simp) ⟨rfl, rfl, trivial⟩ fun g0 => ?_
  refine wi_seq <| wi_reg rfl <| lx_assign (.slice none 0 0) rfl rfl <| lx_nil <| wi_seq <| wi_reg rfl <| lx_assign (.slice none 0 0) rfl rfl <| lx_nil <| wi_seq <| wi_reg rfl <| lx_move (.int .i64 ((n : Nat) : Int)) rfl rfl <| lx_make (E := encI) (n := n) (B := h.size) (0 : Int) rfl rfl Try.underlying35 (eZ35) rfl rfl (by omega) (by omega) (Nat.le_refl _) (fun _ _ => trivial) fun v1 h1 ho1 hx1 hvb1 => ?_
  have ho2 := ho1.base (Nat.le_refl h.size)
  refine lx_assign (v1) rfl rfl <| lx_nil <| wi_seq <| wi_seq <| wi_reg rfl <| lx_assign (.int .i64 0) rfl rfl <| lx_nil <| wi_block <| ?_
  refine wi_loop (σ := Nat × (List Int) × Value × (List Hdr)) (rngB 14 70 [5, 7, 8, 9, 10, 11]) (fun (ss : Nat × (List Int) × Value × (List Hdr)) => [(7, .int .i64 ((ss.1 : Nat) : Int)), (5, ss.2.2.1)]) (fun (ss : Nat × (List Int) × Value × (List Hdr)) (hh : Heap) => OwE encI hh h.size 3 v1 ss.2.1 ∧ OwE encHd hh h.size 38 ss.2.2.1 ss.2.2.2 ∧ OT encP hh h.size 60 ss.2.2.2 (outY ls ss.1) ∧ Ext h.size h hh ∧ (ss.1 ≤ ls.length) ∧ (ss.2.1.length = n) ∧ (∀ i, i < n → gt ss.2.1 i = ((laF ls ss.1 i : Nat) : Int))) (fun (ss : Nat × (List Int) × Value × (List Hdr)) => ls.length - ss.1) (0, List.replicate n 0, .slice none 0 0, []) ⟨rfl, rfl, trivial⟩ ⟨?_, ?_, ?_, hx1, ?_, ?_, ?_⟩ ?_
  · first | exact ho2 | (simpa using ho2)
  · first | exact (owE_nil encHd _ h.size 38) | (simpa using (owE_nil encHd _ h.size 38))
  · first | exact (OT.nil encP _ h.size 60) | (simpa using (OT.nil encP _ h.size 60))
  · try dsimp only
    omega
  · try dsimp only
    simp
  · try dsimp only
    intro i hi; rw [gt_replicate hi]; rfl
  rintro g1 ⟨k, us, v, hs⟩ hh1 ⟨ho3, ho4, hot1, hx0_1, hk, hul, hus⟩ IH1
  dsimp only at *
  have hl_hot1 := hot1.1
  refine wi_seq <| wi_seq <| wi_reg rfl <| lx_move (.int .i64 ((k : Nat) : Int)) rfl rfl <| lx_move (vl) rfl rfl <| lx_len rfl Try.underlying38 hr_vl rfl <| lx_lssS rfl rfl rfl (fun c1 => ?_) (fun c1 => ?_)
  · refine lx_nil <| wi_true rfl <| wi_skip <| wi_seq <| wi_block <| wi_seq <| wi_draw mo rfl (by decide +kernel) <| ?_
    obtain ⟨a, b, hgc, hab, hb⟩ := netLt_at hp3 (show k < ls.length by omega)
    have hla := laF_le ls k a
    have hlb := laF_le ls k b
    have hat := atF_ab hgc
    have hmx : max (laF ls k a) (laF ls k b) ≤ k := by omega
    have hal := atF_le ls k
    have hol := outY_le ls k
    have hrl := rowY_len ls k (atF ls k)
    have hrl2 := padY_row ls k (atF ls k)
    refine lx_move (vl) rfl rfl <| lx_move (.int .i64 ((k : Nat) : Int)) rfl rfl <| lx_ix (i := k) rfl eT38 hr_vl rfl rfl (by first | omega | (simp only [List.length_set, List.length_append, List.length_cons, List.length_nil, List.length_replicate, List.length_take, swp_length, exch_length]; omega)) <| lx_ixP (i := k) (c := 0) rfl Try.underlying60 Try.sizeOf3 hr_vl (by first | omega | (simp only [List.length_set, List.length_append, List.length_cons, List.length_nil, List.length_replicate, List.length_take, swp_length, exch_length]; omega)) rfl rfl (by decide) <| lx_ld (i := k) (j := 0) (.int .i64 ((a : Nat) : Int)) rfl rfl fl3 (hr_vl.extS hx0_1) (by first | omega | (simp only [List.length_set, List.length_append, List.length_cons, List.length_nil, List.length_replicate, List.length_take, swp_length, exch_length]; omega)) (by rw [hgc]; rfl) rfl <| lx_move (vl) rfl rfl <| lx_move (.int .i64 ((k : Nat) : Int)) rfl rfl <| lx_ix (i := k) rfl eT38 hr_vl rfl rfl (by first | omega | (simp only [List.length_set, List.length_append, List.length_cons, List.length_nil, List.length_replicate, List.length_take, swp_length, exch_length]; omega)) <| lx_ixP (i := k) (c := 1) rfl Try.underlying60 Try.sizeOf3 hr_vl (by first | omega | (simp only [List.length_set, List.length_append, List.length_cons, List.length_nil, List.length_replicate, List.length_take, swp_length, exch_length]; omega)) rfl rfl (by decide) <| lx_ld (i := k) (j := 1) (.int .i64 ((b : Nat) : Int)) rfl rfl fl3 (hr_vl.extS hx0_1) (by first | omega | (simp only [List.length_set, List.length_append, List.length_cons, List.length_nil, List.length_replicate, List.length_take, swp_length, exch_length]; omega)) (by rw [hgc]; rfl) rfl <| lx_assign (.int .i64 ((a : Nat) : Int)) rfl rfl <| lx_assign (.int .i64 ((b : Nat) : Int)) rfl rfl <| lx_nil <| wi_seq <| wi_draw mo rfl (by decide +kernel) <| lx_move (v1) rfl rfl <| lx_move (.int .i64 ((a : Nat) : Int)) rfl rfl <| lx_ix (i := a) rfl eT35 ho3.rd rfl rfl (by first | omega | (simp only [List.length_set, List.length_append, List.length_cons, List.length_nil, List.length_replicate, List.length_take, swp_length, exch_length]; omega)) <| lx_ld (i := a) (j := 0) (.int .i64 ((laF ls k a : Nat) : Int)) rfl rfl fl3 ho3.rd (by first | omega | (simp only [List.length_set, List.length_append, List.length_cons, List.length_nil, List.length_replicate, List.length_take, swp_length, exch_length]; omega)) (by show some (Value.int .i64 (gt us a)) = _; rw [hus _ (by omega)]) rfl <| lx_move (v1) rfl rfl <| lx_move (.int .i64 ((b : Nat) : Int)) rfl rfl <| lx_ix (i := b) rfl eT35 ho3.rd rfl rfl (by first | omega | (simp only [List.length_set, List.length_append, List.length_cons, List.length_nil, List.length_replicate, List.length_take, swp_length, exch_length]; omega)) <| lx_ld (i := b) (j := 0) (.int .i64 ((laF ls k b : Nat) : Int)) rfl rfl fl3 ho3.rd (by first | omega | (simp only [List.length_set, List.length_append, List.length_cons, List.length_nil, List.length_replicate, List.length_take, swp_length, exch_length]; omega)) (by show some (Value.int .i64 (gt us b)) = _; rw [hus _ (by omega)]) rfl <| lx_max (((atF ls k : Nat) : Int)) rfl rfl rfl (by omega) <| lx_assign (.int .i64 ((atF ls k : Nat) : Int)) rfl rfl <| lx_nil <| wi_seq <| wi_seq <| wi_reg rfl <| lx_move (.int .i64 ((atF ls k : Nat) : Int)) rfl rfl <| lx_move (v) rfl rfl <| lx_len rfl Try.underlying65 ho4.rd rfl <| lx_eqlS rfl rfl rfl (fun c2 => ?_) (fun c2 => ?_)
    · have hot2 : OT encP hh1 h.size 60 (hs ++ [default]) ((outY ls k) ++ [[]]) := OT.snoc hot1 (owE_nil encP _ h.size 60) (djt_nil _)
      refine lx_nil <| wi_true rfl <| wi_reg rfl <| lx_move (v) rfl rfl <| lx_appendL (E := encHd) (B := h.size) [default] [.slice none 0 0] rfl rfl (fun _ => rfl) rfl eT65 rfl rfl rfl rfl ho4 (fun _ => rfl) (by show hs.length + 1 ≤ _; omega) (by show (hs.length + 1) * 24 ≤ _; omega) hx0_1.size (fun _ _ => trivial) fun u1 v2 h2 ho5 hc1 hg1 => ?_
      have hx0_2 := hx0_1.trans (ho4.ext hc1 hx0_1.size)
      have ho6 := ho3.chg hc1 (dj_ty ho3 ho4 (by decide))
      have hot3 : OT encP h2 h.size 60 (hs ++ [default]) ((outY ls k) ++ [[]]) := hot2.chg hc1 (djt_ty hot2 ho4 (by decide))
      have hl_hot3 := hot3.1
      refine lx_assign (v2) rfl rfl <| lx_nil <| wi_seq <| wi_reg rfl <| lx_move (v2) rfl rfl <| lx_move (.int .i64 ((atF ls k : Nat) : Int)) rfl rfl <| lx_ix (i := atF ls k) rfl eT65 ho5.rd rfl rfl (by first | omega | (simp only [List.length_set, List.length_append, List.length_cons, List.length_nil, List.length_replicate, List.length_take, swp_length, exch_length]; omega)) <| lx_ld (i := atF ls k) (j := 0) ((gt (hs ++ [default]) (atF ls k)).v) rfl rfl fl38 ho5.rd (by first | omega | (simp only [List.length_set, List.length_append, List.length_cons, List.length_nil, List.length_replicate, List.length_take, swp_length, exch_length]; omega)) rfl rfl <| lx_assign ((gt (hs ++ [default]) (atF ls k)).v) rfl rfl <| lx_nil <| wi_seq <| wi_reg rfl <| lx_move (v2) rfl rfl <| lx_move (.int .i64 ((atF ls k : Nat) : Int)) rfl rfl <| lx_move ((gt (hs ++ [default]) (atF ls k)).v) rfl rfl <| lx_move (vl) rfl rfl <| lx_move (.int .i64 ((k : Nat) : Int)) rfl rfl <| lx_ix (i := k) rfl eT38 hr_vl rfl rfl (by first | omega | (simp only [List.length_set, List.length_append, List.length_cons, List.length_nil, List.length_replicate, List.length_take, swp_length, exch_length]; omega)) <| lx_ldA (i := k) [.int .i64 ((gt ls k).1), .int .i64 ((gt ls k).2)] rfl rfl wd60 (hr_vl.extS hx0_2) (by first | omega | (simp only [List.length_set, List.length_append, List.length_cons, List.length_nil, List.length_replicate, List.length_take, swp_length, exch_length]; omega)) rfl rfl <| lx_appendL (E := encP) (B := h.size) [((gt ls k).1, (gt ls k).2)] [.agg #[.int .i64 ((gt ls k).1), .int .i64 ((gt ls k).2)]] rfl rfl (fun _ => rfl) rfl eT38 rfl rfl rfl rfl (hot3.2.1 (atF ls k) (by first | omega | (simp only [List.length_set, List.length_append, List.length_cons, List.length_nil, List.length_replicate, List.length_take, swp_length, exch_length]; omega))) (fun _ => rfl) (by show (gt ((outY ls k) ++ [[]]) (atF ls k)).length + 1 ≤ _; omega) (by show ((gt ((outY ls k) ++ [[]]) (atF ls k)).length + 1) * 16 ≤ _; omega) hx0_2.size (fun _ _ => trivial) fun u2 v3 h3 ho7 hc2 hg2 => ?_
      have hx0_3 := hx0_2.trans ((hot3.2.1 (atF ls k) (by first | omega | (simp only [List.length_set, List.length_append, List.length_cons, List.length_nil, List.length_replicate, List.length_take, swp_length, exch_length]; omega))).ext hc2 hx0_2.size)
      have ho8 := ho6.chg hc2 (Dj.symm ((djt_ty hot3 ho6 (by decide)) (atF ls k) (by rw [hot3.1]; exact (by first | omega | (simp only [List.length_set, List.length_append, List.length_cons, List.length_nil, List.length_replicate, List.length_take, swp_length, exch_length]; omega)))))
      have ho9 := ho5.chg hc2 (Dj.symm ((djt_ty hot3 ho5 (by decide)) (atF ls k) (by rw [hot3.1]; exact (by first | omega | (simp only [List.length_set, List.length_append, List.length_cons, List.length_nil, List.length_replicate, List.length_take, swp_length, exch_length]; omega)))))
      have hot4 := OT.app hot3 (by first | omega | (simp only [List.length_set, List.length_append, List.length_cons, List.length_nil, List.length_replicate, List.length_take, swp_length, exch_length]; omega)) hc2 ho7 hg2
      refine lx_ix (i := atF ls k) rfl eT65 ho9.rd rfl rfl (by first | omega | (simp only [List.length_set, List.length_append, List.length_cons, List.length_nil, List.length_replicate, List.length_take, swp_length, exch_length]; omega)) <| lx_st (i := atF ls k) (hdrOf v3) rfl rfl Try.sizeOf38 ho9 (by first | omega | (simp only [List.length_set, List.length_append, List.length_cons, List.length_nil, List.length_replicate, List.length_take, swp_length, exch_length]; omega)) rfl (hdr_cells ho7.rd) (fun _ _ _ _ _ => trivial) fun h4 ho10 hc3 hsz1 => ?_
      have hx0_4 := hx0_3.trans (ho9.ext hc3 hx0_3.size)
      have ho11 := ho8.chg hc3 (dj_ty ho8 ho9 (by decide))
      have hot5 : OT encP h4 h.size 60 ((hs ++ [default]).set (atF ls k) (hdrOf v3)) (((outY ls k) ++ [[]]).set (atF ls k) ((gt ((outY ls k) ++ [[]]) (atF ls k)) ++ [((gt ls k).1, (gt ls k).2)])) := hot4.chg hc3 (djt_ty hot4 ho9 (by decide))
      have hl_hot5 := hot5.1
      have ho10 : OwE encHd h4 h.size 38 v2 ((hs ++ [default]).set (atF ls k) (hdrOf v3)) := ho10
      refine lx_nil <| wi_seq <| wi_reg rfl <| lx_move (v1) rfl rfl <| lx_move (.int .i64 ((a : Nat) : Int)) rfl rfl <| lx_move (.int .i64 ((atF ls k : Nat) : Int)) rfl rfl <| lx_add (((atF ls k + 1 : Nat) : Int)) rfl rfl rfl (by omega) (by omega) (by omega) <| lx_ix (i := a) rfl eT35 ho11.rd rfl rfl (by first | omega | (simp only [List.length_set, List.length_append, List.length_cons, List.length_nil, List.length_replicate, List.length_take, swp_length, exch_length]; omega)) <| lx_st (i := a) (((atF ls k + 1 : Nat) : Int)) rfl rfl Try.sizeOf3 ho11 (by first | omega | (simp only [List.length_set, List.length_append, List.length_cons, List.length_nil, List.length_replicate, List.length_take, swp_length, exch_length]; omega)) rfl rfl (fun _ _ _ _ _ => trivial) fun h5 ho12 hc4 hsz2 => ?_
      have hx0_5 := hx0_4.trans (ho11.ext hc4 hx0_4.size)
      have ho13 := ho10.chg hc4 (dj_ty ho10 ho11 (by decide))
      have hot6 := hot5.chg hc4 (djt_ty hot5 ho11 (by decide))
      refine lx_nil <| wi_reg rfl <| lx_move (v1) rfl rfl <| lx_move (.int .i64 ((b : Nat) : Int)) rfl rfl <| lx_move (.int .i64 ((atF ls k : Nat) : Int)) rfl rfl <| lx_add (((atF ls k + 1 : Nat) : Int)) rfl rfl rfl (by omega) (by omega) (by omega) <| lx_ix (i := b) rfl eT35 ho12.rd rfl rfl (by first | omega | (simp only [List.length_set, List.length_append, List.length_cons, List.length_nil, List.length_replicate, List.length_take, swp_length, exch_length]; omega)) <| lx_st (i := b) (((atF ls k + 1 : Nat) : Int)) rfl rfl Try.sizeOf3 ho12 (by first | omega | (simp only [List.length_set, List.length_append, List.length_cons, List.length_nil, List.length_replicate, List.length_take, swp_length, exch_length]; omega)) rfl rfl (fun _ _ _ _ _ => trivial) fun h6 ho14 hc5 hsz3 => ?_
      have hx0_6 := hx0_5.trans (ho12.ext hc5 hx0_5.size)
      have ho15 := ho13.chg hc5 (dj_ty ho13 ho12 (by decide))
      have hot7 := hot6.chg hc5 (djt_ty hot6 ho12 (by decide))
      refine lx_nil <| wi_inBlock <| wi_reg rfl <| lx_move (.int .i64 ((k : Nat) : Int)) rfl rfl <| lx_add (((k + 1 : Nat) : Int)) rfl rfl rfl (by omega) (by omega) (by omega) <| lx_assign (.int .i64 ((k + 1 : Nat) : Int)) rfl rfl <| lx_nil <| ?_
      -- L0.1
      refine IH1 _ _ (k + 1, (us.set a (((atF ls k + 1 : Nat) : Int))).set b (((atF ls k + 1 : Nat) : Int)), v2, (hs ++ [default]).set (atF ls k) (hdrOf v3)) (agree_ups rfl agree_self) ⟨rfl, rfl, trivial⟩ ⟨?_, ?_, ?_, hx0_6, ?_, ?_, ?_⟩ ?_
      · first | exact ho14 | (simpa using ho14)
      · first | exact ho15 | (simpa using ho15)
      · rw [outY_yes (by omega)]; exact hot7
      · try dsimp only
        omega
      · try dsimp only
        simpa using hul
      · try dsimp only
        exact la_step hul hgc (by omega) (by omega) hus
      · first | omega | (dsimp only; omega)
    · refine lx_nil <| wi_false rfl <| wi_skip <| wi_seq <| wi_reg rfl <| lx_move (v) rfl rfl <| lx_move (.int .i64 ((atF ls k : Nat) : Int)) rfl rfl <| lx_ix (i := atF ls k) rfl eT65 ho4.rd rfl rfl (by first | omega | (simp only [List.length_set, List.length_append, List.length_cons, List.length_nil, List.length_replicate, List.length_take, swp_length, exch_length]; omega)) <| lx_ld (i := atF ls k) (j := 0) ((gt hs (atF ls k)).v) rfl rfl fl38 ho4.rd (by first | omega | (simp only [List.length_set, List.length_append, List.length_cons, List.length_nil, List.length_replicate, List.length_take, swp_length, exch_length]; omega)) rfl rfl <| lx_assign ((gt hs (atF ls k)).v) rfl rfl <| lx_nil <| wi_seq <| wi_reg rfl <| lx_move (v) rfl rfl <| lx_move (.int .i64 ((atF ls k : Nat) : Int)) rfl rfl <| lx_move ((gt hs (atF ls k)).v) rfl rfl <| lx_move (vl) rfl rfl <| lx_move (.int .i64 ((k : Nat) : Int)) rfl rfl <| lx_ix (i := k) rfl eT38 hr_vl rfl rfl (by first | omega | (simp only [List.length_set, List.length_append, List.length_cons, List.length_nil, List.length_replicate, List.length_take, swp_length, exch_length]; omega)) <| lx_ldA (i := k) [.int .i64 ((gt ls k).1), .int .i64 ((gt ls k).2)] rfl rfl wd60 (hr_vl.extS hx0_1) (by first | omega | (simp only [List.length_set, List.length_append, List.length_cons, List.length_nil, List.length_replicate, List.length_take, swp_length, exch_length]; omega)) rfl rfl <| lx_appendL (E := encP) (B := h.size) [((gt ls k).1, (gt ls k).2)] [.agg #[.int .i64 ((gt ls k).1), .int .i64 ((gt ls k).2)]] rfl rfl (fun _ => rfl) rfl eT38 rfl rfl rfl rfl (hot1.2.1 (atF ls k) (by first | omega | (simp only [List.length_set, List.length_append, List.length_cons, List.length_nil, List.length_replicate, List.length_take, swp_length, exch_length]; omega))) (fun _ => rfl) (by show (gt (outY ls k) (atF ls k)).length + 1 ≤ _; omega) (by show ((gt (outY ls k) (atF ls k)).length + 1) * 16 ≤ _; omega) hx0_1.size (fun _ _ => trivial) fun u3 v4 h7 ho16 hc6 hg3 => ?_
      have hx0_7 := hx0_1.trans ((hot1.2.1 (atF ls k) (by first | omega | (simp only [List.length_set, List.length_append, List.length_cons, List.length_nil, List.length_replicate, List.length_take, swp_length, exch_length]; omega))).ext hc6 hx0_1.size)
      have ho17 := ho3.chg hc6 (Dj.symm ((djt_ty hot1 ho3 (by decide)) (atF ls k) (by rw [hot1.1]; exact (by first | omega | (simp only [List.length_set, List.length_append, List.length_cons, List.length_nil, List.length_replicate, List.length_take, swp_length, exch_length]; omega)))))
      have ho18 := ho4.chg hc6 (Dj.symm ((djt_ty hot1 ho4 (by decide)) (atF ls k) (by rw [hot1.1]; exact (by first | omega | (simp only [List.length_set, List.length_append, List.length_cons, List.length_nil, List.length_replicate, List.length_take, swp_length, exch_length]; omega)))))
      have hot8 := OT.app hot1 (by first | omega | (simp only [List.length_set, List.length_append, List.length_cons, List.length_nil, List.length_replicate, List.length_take, swp_length, exch_length]; omega)) hc6 ho16 hg3
      refine lx_ix (i := atF ls k) rfl eT65 ho18.rd rfl rfl (by first | omega | (simp only [List.length_set, List.length_append, List.length_cons, List.length_nil, List.length_replicate, List.length_take, swp_length, exch_length]; omega)) <| lx_st (i := atF ls k) (hdrOf v4) rfl rfl Try.sizeOf38 ho18 (by first | omega | (simp only [List.length_set, List.length_append, List.length_cons, List.length_nil, List.length_replicate, List.length_take, swp_length, exch_length]; omega)) rfl (hdr_cells ho16.rd) (fun _ _ _ _ _ => trivial) fun h8 ho19 hc7 hsz4 => ?_
      have hx0_8 := hx0_7.trans (ho18.ext hc7 hx0_7.size)
      have ho20 := ho17.chg hc7 (dj_ty ho17 ho18 (by decide))
      have hot9 : OT encP h8 h.size 60 (hs.set (atF ls k) (hdrOf v4)) ((outY ls k).set (atF ls k) ((gt (outY ls k) (atF ls k)) ++ [((gt ls k).1, (gt ls k).2)])) := hot8.chg hc7 (djt_ty hot8 ho18 (by decide))
      have hl_hot9 := hot9.1
      have ho19 : OwE encHd h8 h.size 38 v (hs.set (atF ls k) (hdrOf v4)) := ho19
      refine lx_nil <| wi_seq <| wi_reg rfl <| lx_move (v1) rfl rfl <| lx_move (.int .i64 ((a : Nat) : Int)) rfl rfl <| lx_move (.int .i64 ((atF ls k : Nat) : Int)) rfl rfl <| lx_add (((atF ls k + 1 : Nat) : Int)) rfl rfl rfl (by omega) (by omega) (by omega) <| lx_ix (i := a) rfl eT35 ho20.rd rfl rfl (by first | omega | (simp only [List.length_set, List.length_append, List.length_cons, List.length_nil, List.length_replicate, List.length_take, swp_length, exch_length]; omega)) <| lx_st (i := a) (((atF ls k + 1 : Nat) : Int)) rfl rfl Try.sizeOf3 ho20 (by first | omega | (simp only [List.length_set, List.length_append, List.length_cons, List.length_nil, List.length_replicate, List.length_take, swp_length, exch_length]; omega)) rfl rfl (fun _ _ _ _ _ => trivial) fun h9 ho21 hc8 hsz5 => ?_
      have hx0_9 := hx0_8.trans (ho20.ext hc8 hx0_8.size)
      have ho22 := ho19.chg hc8 (dj_ty ho19 ho20 (by decide))
      have hot10 := hot9.chg hc8 (djt_ty hot9 ho20 (by decide))
      refine lx_nil <| wi_reg rfl <| lx_move (v1) rfl rfl <| lx_move (.int .i64 ((b : Nat) : Int)) rfl rfl <| lx_move (.int .i64 ((atF ls k : Nat) : Int)) rfl rfl <| lx_add (((atF ls k + 1 : Nat) : Int)) rfl rfl rfl (by omega) (by omega) (by omega) <| lx_ix (i := b) rfl eT35 ho21.rd rfl rfl (by first | omega | (simp only [List.length_set, List.length_append, List.length_cons, List.length_nil, List.length_replicate, List.length_take, swp_length, exch_length]; omega)) <| lx_st (i := b) (((atF ls k + 1 : Nat) : Int)) rfl rfl Try.sizeOf3 ho21 (by first | omega | (simp only [List.length_set, List.length_append, List.length_cons, List.length_nil, List.length_replicate, List.length_take, swp_length, exch_length]; omega)) rfl rfl (fun _ _ _ _ _ => trivial) fun h10 ho23 hc9 hsz6 => ?_
      have hx0_10 := hx0_9.trans (ho21.ext hc9 hx0_9.size)
      have ho24 := ho22.chg hc9 (dj_ty ho22 ho21 (by decide))
      have hot11 := hot10.chg hc9 (djt_ty hot10 ho21 (by decide))
      refine lx_nil <| wi_inBlock <| wi_reg rfl <| lx_move (.int .i64 ((k : Nat) : Int)) rfl rfl <| lx_add (((k + 1 : Nat) : Int)) rfl rfl rfl (by omega) (by omega) (by omega) <| lx_assign (.int .i64 ((k + 1 : Nat) : Int)) rfl rfl <| lx_nil <| ?_
      -- L0.2
      refine IH1 _ _ (k + 1, (us.set a (((atF ls k + 1 : Nat) : Int))).set b (((atF ls k + 1 : Nat) : Int)), v, hs.set (atF ls k) (hdrOf v4)) (agree_ups rfl agree_self) ⟨rfl, rfl, trivial⟩ ⟨?_, ?_, ?_, hx0_10, ?_, ?_, ?_⟩ ?_
      · first | exact ho23 | (simpa using ho23)
      · first | exact ho24 | (simpa using ho24)
      · rw [outY_no (by omega)]; exact hot11
      · try dsimp only
        omega
      · try dsimp only
        simpa using hul
      · try dsimp only
        exact la_step hul hgc (by omega) (by omega) hus
      · first | omega | (dsimp only; omega)
  · refine lx_nil <| wi_false rfl <| wi_exit rfl <| wi_seq <| wi_reg rfl <| lx_move (v) rfl rfl <| lx_assign (v) rfl rfl <| lx_nil <| ?_
    -- R1
    refine wi_ret ⟨v, (res_one rfl rfl), ⟨v, hs, rfl, ?_, ?_, hx0_1⟩⟩
    · exact ho4
    · rw [show ls.length = k from by omega]; exact hot1

end Go.Proofs.Ytjfickfgpkejpaa
