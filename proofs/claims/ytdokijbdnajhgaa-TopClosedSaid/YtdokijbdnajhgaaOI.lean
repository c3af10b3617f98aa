/-
  Walks: families of sets.
-/
import Derived.Test.YtdokijbdnajhgaaOF
import Derived.Test.YtdokijbdnajhgaaXWith
import Derived.Test.YtdokijbdnajhgaaXRange
set_option linter.unusedSimpArgs false
set_option linter.unusedVariables false
namespace Go.Proofs.Ytdokijbdnajhgaa
open Go Go.X

set_option maxRecDepth 10000 in
theorem within_spec (h : Heap) (w : Nat) : Fx Try.prog 150 [.int .i64 ((w : Nat) : Int)] h (fun v h' => ∃ (bm : Nat), v = .func (.func 172) #[] #[.pointer (some ⟨bm, 0, none⟩)] ∧ h.size ≤ bm ∧ Blk h' bm (#[.int .i64 ((w : Nat) : Int)]) 3 ∧ Ext h.size h h') := by
  refine fx_intro (n := 4) [(0, .int .i64 ((w : Nat) : Int))] Try.func150 rfl rfl (by simp) ⟨rfl, trivial⟩ fun g0 => ?_
  refine wi_seq <| wi_reg rfl <| lx_box #[.int .i64 ((w : Nat) : Int)] rfl rfl rfl (fun _ _ _ => trivial) fun bn1 h1 hbn1 hbk1 hx1 hsz1 => ?_
  have hbb1 : h.size ≤ bn1 := by have := (Nat.le_refl h.size); omega
  refine lx_assign (.nilFunc) rfl rfl <| lx_nil <| wi_seq <| wi_reg rfl <| lx_makeFunc [] [.pointer (some ⟨bn1, 0, none⟩)] rfl rfl rfl <| lx_assign (.func (.func 172) #[] #[.pointer (some ⟨bn1, 0, none⟩)]) rfl rfl <| lx_nil <| ?_
  -- R1
  refine wi_ret ⟨.func (.func 172) #[] #[.pointer (some ⟨bn1, 0, none⟩)], (res_one rfl rfl), ⟨bn1, rfl, ?_, hbk1, hx1⟩⟩
  · omega

set_option maxRecDepth 10000 in
theorem within1_seq (bm w : Nat) (hp1 : w < 128) : SeqC Try.prog 172 [.pointer (some ⟨bm, 0, none⟩)] 26 (fun h => Blk h bm #[.int .i64 ((w : Nat) : Int)] 3) ((subs w).length) (fun k => [.int .i64 ((gt (subs w) k : Nat) : Int)]) := by
  intro l h J hJS hCap hY h0
  obtain ⟨hv1, hv2, hv3, hv4⟩ := subs_ok hp1
  obtain hcp1 := hCap _ _ h0
  refine fx_intro (n := 17) [(0, .func (.yield l) #[] #[]), (1, .pointer (some ⟨bm, 0, none⟩))] Try.func172 rfl rfl (by simp) ⟨rfl, rfl, trivial⟩ fun g0 => ?_
  refine wi_seq <| wi_reg rfl <| lx_assign (.int .i64 0) rfl rfl <| lx_nil <| wi_block <| ?_
  refine wi_loop (σ := Nat × Nat) (rngB 3 17 []) (fun (ss : Nat × Nat) => [(3, .int .i64 ((ss.2 : Nat) : Int))]) (fun (ss : Nat × Nat) (hh : Heap) => h.size ≤ hh.size ∧ J ss.1 hh ∧ (ss.1 < (subs w).length) ∧ (ss.2 = gt (subs w) ss.1)) (fun (ss : Nat × Nat) => (subs w).length - ss.1) (0, 0) ⟨rfl, trivial⟩ ⟨(Nat.le_refl h.size), h0, ?_, ?_⟩ ?_
  · try dsimp only
    exact hv1
  · try dsimp only
    exact hv2.symm
  rintro g1 ⟨k, s⟩ hh1 ⟨hle1, hJ1, hk, hsj⟩ IH1
  dsimp only at *
  obtain hcp2 := hCap _ _ hJ1
  refine wi_seq <| wi_seq <| wi_reg rfl <| ?_
  have hle := subs_le hk
  rw [← hsj] at hle
  have hJk1 := hJ1
  have hy2 := hY _ _ (by omega) hJk1
  dsimp only at hy2
  rw [← hsj] at hy2
  refine lx_move (.func (.yield l) #[] #[]) rfl rfl <| lx_move (.int .i64 ((s : Nat) : Int)) rfl rfl <| lx_yield [.int .i64 ((s : Nat) : Int)] rfl rfl rfl rfl hy2 (fun _ _ => trivial) fun h1 ⟨hty1, hJ2⟩ => ?_
  have hle2 : h.size ≤ h1.size := Nat.le_trans hle1 hty1.1
  obtain hcp3 := hCap _ _ hJ2
  refine lx_move (.bool true) rfl rfl <| lx_move (.int .i64 ((s : Nat) : Int)) rfl rfl <| lx_ldB (.int .i64 ((w : Nat) : Int)) rfl rfl fl3 hcp3 rfl rfl <| lx_neqS rfl rfl rfl (fun c1 => ?_) (fun c1 => ?_)
  · refine lx_pick true (.bool true) rfl rfl rfl <| lx_nil <| wi_true rfl <| wi_skip <| wi_seq <| wi_block <| wi_skip <| wi_inBlock <| wi_reg rfl <| lx_move (.int .i64 ((s : Nat) : Int)) rfl rfl <| lx_ldB (.int .i64 ((w : Nat) : Int)) rfl rfl fl3 hcp3 rfl rfl <| lx_sub ((((s : Nat) : Int)) - (((w : Nat) : Int))) rfl rfl rfl (by omega) (by omega) (by omega) <| lx_ldB (.int .i64 ((w : Nat) : Int)) rfl rfl fl3 hcp3 rfl rfl <| lx_andZ (n := w) rfl rfl rfl (by show _ < 2 ^ 63; omega) <| ?_
    generalize hsn : ur ((((s : Nat) : Int)) - (((w : Nat) : Int))) &&& w = sn
    have hk1 : k + 1 < (subs w).length := by
      rcases Nat.lt_or_ge (k + 1) (subs w).length with h9 | h9
      · exact h9
      · exact absurd (hsj.trans (show gt (subs w) k = w from by rw [show k = (subs w).length - 1 from by omega]; exact hv3)) (by omega)
    have hs2n := hv4 k hk1
    have hs2e : sn = gt (subs w) (k + 1) := by rw [← hs2n.1, ← hsj, ← hsn]; rfl
    refine lx_assign (.int .i64 ((sn : Nat) : Int)) rfl rfl <| lx_nil <| ?_
    -- L0.1
    refine IH1 _ _ (k + 1, sn) (agree_ups rfl agree_self) ⟨rfl, trivial⟩ ⟨hle2, hJ2, ?_, ?_⟩ ?_
    · try dsimp only
      exact hk1
    · try dsimp only
      exact hs2e
    · first | omega | (dsimp only; omega)
  · refine lx_pick true (.bool false) rfl rfl rfl <| lx_nil <| wi_false rfl <| wi_exit rfl <| ?_
    -- R1
    refine wi_end ⟨.tuple #[], (res_none rfl), hle2, ?_⟩
    have hJk := hJ2
    rw [show (subs w).length = k + 1 from by
      rcases Nat.lt_or_ge (k + 1) (subs w).length with h9 | h9
      · exact absurd (show gt (subs w) k = w from by rw [← hsj]; omega) (hv4 k h9).2
      · omega]
    exact hJk

set_option maxRecDepth 10000 in
theorem trace_spec (h : Heap) (vl : Value) (xs : List Int) (w : Nat) (hr_vl : RdE encI h vl xs) (hp1 : xs.length ≤ 4096) (hp2 : ∀ i, i < xs.length → 0 ≤ gt xs i ∧ gt xs i < 1024) (hp3 : w < 1024) : Fx Try.prog 149 [vl, .int .i64 ((w : Nat) : Int)] h (fun v h' => ∃ (bs : List Bool), v = .agg (bc bs) ∧ (bs.length = 1024) ∧ (∀ s, s < 1024 → gt bs s = trB xs w s) ∧ Ext h.size h h') := by
  refine fx_intro (n := 20) [(0, vl), (1, .int .i64 ((w : Nat) : Int))] Try.func149 rfl rfl (by simp) ⟨rfl, rfl, trivial⟩ fun g0 => ?_
  refine wi_seq <| wi_reg rfl <| lx_alloc rfl rfl Try.zeroValue156 (fun _ _ _ => trivial) fun bn1 h1 hbn1 hbk1 hx1 hsz1 => ?_
  have hbb1 : h.size ≤ bn1 := by have := (Nat.le_refl h.size); omega
  have hbk1 : Blk h1 bn1 (bc (List.replicate 1024 false)) 156 := by rw [← zc156]; exact hbk1
  refine lx_nil <| wi_seq <| wi_reg rfl <| lx_alloc rfl rfl Try.zeroValue156 (fun _ _ _ => trivial) fun bn2 h2 hbn2 hbk2 hx2 hsz2 => ?_
  have hbb2 : h.size ≤ bn2 := by have := hx1.size; omega
  have hne1 : bn2 ≠ bn1 := by have := hbk1.lt; omega
  have hx0_1 := hx1.trans2 hx2 hx1.size
  have hb1 := hbk1.extS hx2
  have hbk2 : Blk h2 bn2 (bc (List.replicate 1024 false)) 156 := by rw [← zc156]; exact hbk2
  refine lx_nil <| wi_seq <| wi_seq <| wi_reg rfl <| lx_move (vl) rfl rfl <| lx_len rfl Try.underlying25 hr_vl rfl <| lx_move (.int .i64 0) rfl rfl <| lx_nil <| wi_block <| ?_
  refine wi_loop (σ := Nat × (List Bool)) (rngB 10 19 [7]) (fun (ss : Nat × (List Bool)) => [(10, .int .i64 ((ss.1 : Nat) : Int))]) (fun (ss : Nat × (List Bool)) (hh : Heap) => Blk hh bn2 (bc ss.2) 156 ∧ Blk hh bn1 (bc (List.replicate 1024 false)) 156 ∧ Ext h.size h hh ∧ (ss.1 ≤ xs.length) ∧ (ss.2.length = 1024) ∧ (∀ s, s < 1024 → gt ss.2 s = trBk xs w ss.1 s)) (fun (ss : Nat × (List Bool)) => xs.length - ss.1) (0, List.replicate 1024 false) ⟨rfl, trivial⟩ ⟨?_, ?_, hx0_1, ?_, ?_, ?_⟩ ?_
  · exact hbk2
  · exact hb1
  · try dsimp only
    omega
  · try dsimp only
    simp
  · try dsimp only
    intro s hs; rw [gt_replicate hs]; rfl
  rintro g1 ⟨k, bs⟩ hh1 ⟨hbk3, hbk4, hx0_2, hk, hbl, hbs⟩ IH1
  dsimp only at *
  refine wi_seq <| wi_reg rfl <| lx_lssS rfl rfl rfl (fun c1 => ?_) (fun c1 => ?_)
  · refine lx_nil <| wi_seq <| wi_true rfl <| wi_skip <| wi_seq <| wi_block <| wi_seq <| wi_reg rfl <| ?_
    obtain ⟨a, hga, ha4⟩ : ∃ a : Nat, gt xs k = (a : Int) ∧ a < 1024 := ⟨(gt xs k).toNat, by have := hp2 k (by omega); omega, by have := hp2 k (by omega); omega⟩
    have haw : a &&& w ≤ w := Nat.and_le_right
    refine lx_ix (i := k) rfl eT25 hr_vl rfl rfl (by first | omega | (simp only [List.length_set, List.length_append, List.length_cons, List.length_nil, List.length_replicate, List.length_take, swp_length, exch_length]; omega)) <| lx_ld (i := k) (j := 0) (.int .i64 ((a : Nat) : Int)) rfl rfl fl3 (hr_vl.extS hx0_2) (by first | omega | (simp only [List.length_set, List.length_append, List.length_cons, List.length_nil, List.length_replicate, List.length_take, swp_length, exch_length]; omega)) (by show some (Value.int .i64 (gt xs k)) = _; rw [hga]) rfl <| lx_assign (.int .i64 ((a : Nat) : Int)) rfl rfl <| lx_nil <| wi_reg rfl <| lx_move (.int .i64 ((a : Nat) : Int)) rfl rfl <| lx_move (.int .i64 ((w : Nat) : Int)) rfl rfl <| lx_and (m := a) (n := w) rfl rfl rfl (by show _ < 2 ^ 64; omega) (by show _ < 2 ^ 64; omega) (wrap_i64 (by omega) (by omega)) <| lx_ixB (i := a &&& w) ((a &&& w)) rfl Try.underlying156 Try.sizeOf4 rfl rfl (by omega) (by omega) <| lx_stB (.bool true) rfl rfl Try.sizeOf4 hbk3 (by rw [bc_size]; first | omega | (simp only [List.length_set, List.length_append, List.length_cons, List.length_nil, List.length_replicate, List.length_take, swp_length, exch_length]; omega)) rfl rfl rfl rfl (fun _ _ _ _ => trivial) fun h3 hbk5 hc1 => ?_
    have hx0_3 := hx0_2.trans (hc1.ext hbb2)
    have hb2 := hc1.blk hbk4 (Ne.symm hne1)
    rw [bc_set] at hbk5
    refine lx_nil <| wi_inBlock <| wi_reg rfl <| lx_add (((k + 1 : Nat) : Int)) rfl rfl rfl (by omega) (by omega) (by omega) <| lx_move (.int .i64 ((k + 1 : Nat) : Int)) rfl rfl <| lx_nil <| ?_
    -- L0.1
    refine IH1 _ _ (k + 1, bs.set ((a &&& w)) true) (agree_ups rfl agree_self) ⟨rfl, trivial⟩ ⟨?_, ?_, hx0_3, ?_, ?_, ?_⟩ ?_
    · exact hbk5
    · exact hb2
    · try dsimp only
      omega
    · try dsimp only
      simpa using hbl
    · try dsimp only
      intro s hs
      rw [trBk_succ (by omega), gt_set (by omega), hbs s hs, hga, Int.toNat_natCast]
      by_cases e : s = a &&& w
      · rw [if_pos e, e]; simp
      · rw [if_neg e, beq_eq_false_iff_ne.2 (Ne.symm e), Bool.or_false]
    · first | omega | (dsimp only; omega)
  · refine lx_nil <| wi_seq <| wi_false rfl <| wi_exit rfl <| wi_seq <| wi_reg rfl <| lx_ldBA rfl rfl wd156 hbk3 (by rw [bc_size]; first | omega | (simp; done) | (simp; omega)) rfl <| lx_stBA (bc bs) rfl rfl Try.sizeOf156 hbk4 (by rw [bc_size]; first | omega | (simp; done) | (simp; omega)) (by rw [bc_size]; first | omega | (simp; done) | (simp; omega)) rfl rfl (bc_one _) (fun _ _ _ _ => trivial) fun h4 hbk6 hc2 => ?_
    have hx0_4 := hx0_2.trans (hc2.ext hbb1)
    have hb3 := hc2.blk hbk3 hne1
    refine lx_nil <| ?_
    -- R1
    refine wi_ret ⟨.agg (bc bs), (res_cell rfl rfl hbk6 wd156 (by rw [bc_size]; first | omega | (simp; done) | (simp; omega))), ⟨bs, rfl, ?_, ?_, hx0_4⟩⟩
    · exact hbl
    · intro s hs; rw [hbs s hs, trBk_all (by omega)]

set_option maxRecDepth 10000 in
theorem shattered_spec (h : Heap) (n : Nat) (vl : Value) (xs : List Int) (hr_vl : RdE encI h vl xs) : Fx Try.prog 118 [.int .i64 ((n : Nat) : Int), vl] h (fun v h' => ∃ (bn : Nat) (bl : Nat), v = .func (.func 148) #[] #[.pointer (some ⟨bn, 0, none⟩), .pointer (some ⟨bl, 0, none⟩)] ∧ h.size ≤ bn ∧ Blk h' bn (#[.int .i64 ((n : Nat) : Int)]) 3 ∧ h.size ≤ bl ∧ Blk h' bl (#[vl]) 25 ∧ Ext h.size h h') := by
  refine fx_intro (n := 6) [(0, .int .i64 ((n : Nat) : Int)), (1, vl)] Try.func118 rfl rfl (by simp) ⟨rfl, rfl, trivial⟩ fun g0 => ?_
  refine wi_seq <| wi_reg rfl <| lx_box #[.int .i64 ((n : Nat) : Int)] rfl rfl rfl (fun _ _ _ => trivial) fun bn1 h1 hbn1 hbk1 hx1 hsz1 => ?_
  have hbb1 : h.size ≤ bn1 := by have := (Nat.le_refl h.size); omega
  refine lx_box #[vl] rfl rfl (sl_cells hr_vl) (fun _ _ _ => trivial) fun bn2 h2 hbn2 hbk2 hx2 hsz2 => ?_
  have hbb2 : h.size ≤ bn2 := by have := hx1.size; omega
  have hne1 : bn2 ≠ bn1 := by have := hbk1.lt; omega
  have hx0_1 := hx1.trans2 hx2 hx1.size
  have hb1 := hbk1.extS hx2
  refine lx_assign (.nilFunc) rfl rfl <| lx_nil <| wi_seq <| wi_reg rfl <| lx_makeFunc [] [.pointer (some ⟨bn1, 0, none⟩), .pointer (some ⟨bn2, 0, none⟩)] rfl rfl rfl <| lx_assign (.func (.func 148) #[] #[.pointer (some ⟨bn1, 0, none⟩), .pointer (some ⟨bn2, 0, none⟩)]) rfl rfl <| lx_nil <| ?_
  -- R1
  refine wi_ret ⟨.func (.func 148) #[] #[.pointer (some ⟨bn1, 0, none⟩), .pointer (some ⟨bn2, 0, none⟩)], (res_one rfl rfl), ⟨bn1, bn2, rfl, ?_, hb1, ?_, hbk2, hx0_1⟩⟩
  · omega
  · omega

end Go.Proofs.Ytdokijbdnajhgaa
