/-
  Texts in one: OK, OC, OD, OE, XCross, OM, XDeg, XEul, XTarski, XIso.
-/
import Derived.Test.YtdokijbdnajhgaaMBir4
import Derived.Lib.BitFns
set_option linter.unusedSimpArgs false
set_option linter.unusedVariables false
namespace Go.Proofs.Ytdokijbdnajhgaa
open Go Go.X

set_option maxRecDepth 10000 in
theorem ones64_spec (h : Heap) (x : Nat) (hp1 : x < 4096) : Fx Try.prog 135 [.int .u64 ((x : Nat) : Int)] h (fun v h' => v = .int .i64 ((popN x : Nat) : Int) ∧ h = h') := by
  refine fx_intro (n := 35) [(0, .int .u64 ((x : Nat) : Int))] Try.func135 rfl rfl (by simp) ⟨rfl, trivial⟩ fun g0 => ?_
  refine wi_seq <| wi_reg rfl <| lx_assign (.int .i64 0) rfl rfl <| lx_nil <| wi_seq <| wi_reg rfl <| ?_
  obtain ⟨b1, b2, b3, b4, b5, b6, b7⟩ := on_ok hp1
  have := Nat.div_le_self x (2 ^ 1)
  have : x / 2 ^ 1 &&& 6148914691236517205 ≤ x / 2 ^ 1 := Nat.and_le_left
  have : x &&& 6148914691236517205 ≤ x := Nat.and_le_left
  refine lx_move (.int .u64 ((x : Nat) : Int)) rfl rfl <| lx_shr (m := x) (n := 1) rfl rfl rfl (by show _ ≤ 64; omega) <| lx_and (m := x / 2 ^ 1) (n := 6148914691236517205) rfl rfl rfl (by show _ < 2 ^ 64; omega) (by show _ < 2 ^ 64; omega) (wrap_u64 (by omega) (by omega)) <| lx_move (.int .u64 ((x : Nat) : Int)) rfl rfl <| lx_and (m := x) (n := 6148914691236517205) rfl rfl rfl (by show _ < 2 ^ 64; omega) (by show _ < 2 ^ 64; omega) (wrap_u64 (by omega) (by omega)) <| lx_addU (((((x / 2 ^ 1) &&& 6148914691236517205) + (x &&& 6148914691236517205) : Nat) : Nat) : Int) rfl rfl rfl (by omega) (by omega) (by omega) <| ?_
  generalize hy1 : ((x / 2 ^ 1) &&& 6148914691236517205) + (x &&& 6148914691236517205) = y1
  replace hy1 : on1 x = y1 := hy1
  rw [hy1] at b1 b2 b3 b4 b5 b6 b7
  refine lx_assign (.int .u64 ((y1 : Nat) : Int)) rfl rfl <| lx_nil <| wi_seq <| wi_reg rfl <| ?_
  have := Nat.div_le_self y1 (2 ^ 2)
  have : y1 / 2 ^ 2 &&& 3689348814741910323 ≤ y1 / 2 ^ 2 := Nat.and_le_left
  have : y1 &&& 3689348814741910323 ≤ y1 := Nat.and_le_left
  refine lx_move (.int .u64 ((y1 : Nat) : Int)) rfl rfl <| lx_shr (m := y1) (n := 2) rfl rfl rfl (by show _ ≤ 64; omega) <| lx_and (m := y1 / 2 ^ 2) (n := 3689348814741910323) rfl rfl rfl (by show _ < 2 ^ 64; omega) (by show _ < 2 ^ 64; omega) (wrap_u64 (by omega) (by omega)) <| lx_move (.int .u64 ((y1 : Nat) : Int)) rfl rfl <| lx_and (m := y1) (n := 3689348814741910323) rfl rfl rfl (by show _ < 2 ^ 64; omega) (by show _ < 2 ^ 64; omega) (wrap_u64 (by omega) (by omega)) <| lx_addU (((((y1 / 2 ^ 2) &&& 3689348814741910323) + (y1 &&& 3689348814741910323) : Nat) : Nat) : Int) rfl rfl rfl (by omega) (by omega) (by omega) <| ?_
  generalize hy2 : ((y1 / 2 ^ 2) &&& 3689348814741910323) + (y1 &&& 3689348814741910323) = y2
  replace hy2 : on2 y1 = y2 := hy2
  rw [hy2] at b2 b3 b4 b5 b6 b7
  refine lx_assign (.int .u64 ((y2 : Nat) : Int)) rfl rfl <| lx_nil <| wi_seq <| wi_reg rfl <| ?_
  have := Nat.div_le_self y2 (2 ^ 4)
  have : (y2 / 2 ^ 4 + y2) &&& 1085102592571150095 ≤ (y2 / 2 ^ 4 + y2) := Nat.and_le_left
  refine lx_move (.int .u64 ((y2 : Nat) : Int)) rfl rfl <| lx_shr (m := y2) (n := 4) rfl rfl rfl (by show _ ≤ 64; omega) <| lx_move (.int .u64 ((y2 : Nat) : Int)) rfl rfl <| lx_addU ((((y2 / 2 ^ 4) + y2 : Nat) : Nat) : Int) rfl rfl rfl (by omega) (by omega) (by omega) <| lx_and (m := (y2 / 2 ^ 4) + y2) (n := 1085102592571150095) rfl rfl rfl (by show _ < 2 ^ 64; omega) (by show _ < 2 ^ 64; omega) (wrap_u64 (by omega) (by omega)) <| ?_
  generalize hy3 : ((y2 / 2 ^ 4) + y2) &&& 1085102592571150095 = y3
  replace hy3 : on3 y2 = y3 := hy3
  rw [hy3] at b3 b4 b5 b6 b7
  refine lx_assign (.int .u64 ((y3 : Nat) : Int)) rfl rfl <| lx_nil <| wi_seq <| wi_reg rfl <| ?_
  have := Nat.div_le_self y3 (2 ^ 8)
  refine lx_move (.int .u64 ((y3 : Nat) : Int)) rfl rfl <| lx_move (.int .u64 ((y3 : Nat) : Int)) rfl rfl <| lx_shr (m := y3) (n := 8) rfl rfl rfl (by show _ ≤ 64; omega) <| lx_addU (((y3 + (y3 / 2 ^ 8) : Nat) : Nat) : Int) rfl rfl rfl (by omega) (by omega) (by omega) <| ?_
  generalize hy4 : y3 + (y3 / 2 ^ 8) = y4
  replace hy4 : on4 y3 = y4 := hy4
  rw [hy4] at b4 b5 b6 b7
  refine lx_assign (.int .u64 ((y4 : Nat) : Int)) rfl rfl <| lx_nil <| wi_seq <| wi_reg rfl <| ?_
  have := Nat.div_le_self y4 (2 ^ 16)
  refine lx_move (.int .u64 ((y4 : Nat) : Int)) rfl rfl <| lx_move (.int .u64 ((y4 : Nat) : Int)) rfl rfl <| lx_shr (m := y4) (n := 16) rfl rfl rfl (by show _ ≤ 64; omega) <| lx_addU (((y4 + (y4 / 2 ^ 16) : Nat) : Nat) : Int) rfl rfl rfl (by omega) (by omega) (by omega) <| ?_
  generalize hy5 : y4 + (y4 / 2 ^ 16) = y5
  replace hy5 : on5 y4 = y5 := hy5
  rw [hy5] at b5 b6 b7
  refine lx_assign (.int .u64 ((y5 : Nat) : Int)) rfl rfl <| lx_nil <| wi_seq <| wi_reg rfl <| ?_
  have := Nat.div_le_self y5 (2 ^ 32)
  refine lx_move (.int .u64 ((y5 : Nat) : Int)) rfl rfl <| lx_move (.int .u64 ((y5 : Nat) : Int)) rfl rfl <| lx_shr (m := y5) (n := 32) rfl rfl rfl (by show _ ≤ 64; omega) <| lx_addU (((y5 + (y5 / 2 ^ 32) : Nat) : Nat) : Int) rfl rfl rfl (by omega) (by omega) (by omega) <| ?_
  generalize hy6 : y5 + (y5 / 2 ^ 32) = y6
  replace hy6 : on6 y5 = y6 := hy6
  rw [hy6] at b6 b7
  refine lx_assign (.int .u64 ((y6 : Nat) : Int)) rfl rfl <| lx_nil <| wi_seq <| wi_reg rfl <| ?_
  have : y6 &&& 127 ≤ y6 := Nat.and_le_left
  refine lx_move (.int .u64 ((y6 : Nat) : Int)) rfl rfl <| lx_conv ((y6 : Nat) : Int) rfl Try.underlying149 Try.underlying3 rfl (wrap_i64 (by omega) (by omega)) <| lx_and (m := y6) (n := 127) rfl rfl rfl (by show _ < 2 ^ 64; omega) (by show _ < 2 ^ 64; omega) (wrap_i64 (by omega) (by omega)) <| lx_assign (.int .i64 ((y6 &&& 127 : Nat) : Int)) rfl rfl <| lx_nil <| ?_
  -- R1
  refine wi_ret ⟨.int .i64 ((y6 &&& 127 : Nat) : Int), (res_one rfl rfl), ⟨?_, rfl⟩⟩
  · rw [b7]

set_option maxRecDepth 10000 in
theorem ones_spec (h : Heap) (x : Nat) (hp1 : x < 4096) : Fx Try.prog 104 [.int .u64 ((x : Nat) : Int)] h (fun v h' => v = .int .i64 ((popN x : Nat) : Int) ∧ h = h') := by
  refine fx_intro (n := 8) [(0, .int .u64 ((x : Nat) : Int))] Try.func104 rfl rfl (by simp) ⟨rfl, trivial⟩ fun g0 => ?_
  refine wi_seq <| wi_reg rfl <| lx_assign (.int .i64 0) rfl rfl <| lx_nil <| wi_seq <| wi_false rfl <| wi_skip <| wi_seq <| wi_reg rfl <| lx_move (.int .u64 ((x : Nat) : Int)) rfl rfl <| lx_call [.int .u64 ((x : Nat) : Int)] rfl rfl Try.call135 rfl (ones64_spec h x (by omega)) (fun _ _ _ => trivial) ?_
  rintro _ h1 ⟨rfl, rfl⟩
  refine lx_assign (.int .i64 ((popN x : Nat) : Int)) rfl rfl <| lx_nil <| ?_
  -- R1
  refine wi_ret ⟨.int .i64 ((popN x : Nat) : Int), (res_one rfl rfl), ⟨rfl, rfl⟩⟩

end Go.Proofs.Ytdokijbdnajhgaa
namespace Go.Proofs.Ytdokijbdnajhgaa
open Go Go.X

set_option maxRecDepth 10000 in
theorem oclosure_spec (h : Heap) (n : Int) (vl : Value) (ls : List (Int × Int)) (hr_vl : RdE encP h vl ls) (hp1 : ls.length ≤ 4611686018427387904) : Fx Try.prog 63 [.int .i64 n, vl] h (fun v h' => ∃ (s : Value) (hs : List Hdr) (p : List (List Bool)), v = .tuple #[s, .int .i64 (closE n ls)] ∧ OwE encHd h' h.size 70 s hs ∧ OT encB h' h.size 4 hs p ∧ ((closE n ls ≠ 0 ∧ p = []) ∨ (closE n ls = 0 ∧ p = tabF n.toNat (closW n.toNat ls))) ∧ Ext h.size h h') := by
  refine fx_intro (n := 53) [(0, .int .i64 n), (1, vl)] Try.func63 rfl rfl (by simp) ⟨rfl, rfl, trivial⟩ fun g0 => ?_
  refine wi_seq <| wi_reg rfl <| lx_assign (.slice none 0 0) rfl rfl <| lx_assign (.int .i64 0) rfl rfl <| lx_nil <| wi_seq <| wi_seq <| wi_reg rfl <| lx_move (.int .i64 n) rfl rfl <| lx_lssS rfl rfl rfl (fun c1 => ?_) (fun c1 => ?_)
  · refine lx_move (.bool true) rfl rfl <| lx_skip rfl <| lx_skip rfl <| lx_pick true (.bool true) rfl rfl rfl <| lx_nil <| wi_true rfl <| wi_seq <| wi_reg rfl <| lx_assign (.slice none 0 0) rfl rfl <| lx_assign (.int .i64 1) rfl rfl <| lx_nil <| ?_
    -- R1
    refine wi_ret ⟨.tuple #[.slice none 0 0, .int .i64 1], (res_two rfl rfl rfl), ⟨.slice none 0 0, [], [], ?_, (owE_nil encHd _ h.size 70), (OT.nil encB _ h.size 4), ?_, (Ext.refl _ _)⟩⟩
    · first
      | (rw [closE_size (by omega)]; done)
      | (rw [closE_out (i := i) (by omega) (by omega)]; done)
      | (rw [hce]; have hcc := chkT_cases r_1; first | (rw [hcc.resolve_left (by omega)]; done) | (rw [hcc.resolve_right (by omega)]; done))
    · first
      | exact .inl ⟨by rw [closE_size (by omega)]; decide, rfl⟩
      | exact .inl ⟨by rw [closE_out (i := i) (by omega) (by omega)]; decide, rfl⟩
      | exact .inl ⟨by omega, rfl⟩
      | exact .inr ⟨by omega, by rw [Int.toNat_natCast]; exact hrt⟩
  · refine lx_move (.bool false) rfl rfl <| lx_move (.int .i64 n) rfl rfl <| lx_gtrS rfl rfl rfl (fun c2 => ?_) (fun c2 => ?_)
    · refine lx_pick false (.bool true) rfl rfl rfl <| lx_nil <| wi_true rfl <| wi_seq <| wi_reg rfl <| lx_assign (.slice none 0 0) rfl rfl <| lx_assign (.int .i64 1) rfl rfl <| lx_nil <| ?_
      -- R2
      refine wi_ret ⟨.tuple #[.slice none 0 0, .int .i64 1], (res_two rfl rfl rfl), ⟨.slice none 0 0, [], [], ?_, (owE_nil encHd _ h.size 70), (OT.nil encB _ h.size 4), ?_, (Ext.refl _ _)⟩⟩
      · first
        | (rw [closE_size (by omega)]; done)
        | (rw [closE_out (i := i) (by omega) (by omega)]; done)
        | (rw [hce]; have hcc := chkT_cases r_1; first | (rw [hcc.resolve_left (by omega)]; done) | (rw [hcc.resolve_right (by omega)]; done))
      · first
        | exact .inl ⟨by rw [closE_size (by omega)]; decide, rfl⟩
        | exact .inl ⟨by rw [closE_out (i := i) (by omega) (by omega)]; decide, rfl⟩
        | exact .inl ⟨by omega, rfl⟩
        | exact .inr ⟨by omega, by rw [Int.toNat_natCast]; exact hrt⟩
    · refine lx_pick false (.bool false) rfl rfl rfl <| lx_nil <| wi_false rfl <| wi_skip <| wi_seq <| wi_reg rfl <| ?_
      have hn1 : ¬ (n < 1 ∨ 12 < n) := by omega
      obtain ⟨m, rfl⟩ : ∃ m : Nat, n = ((m : Nat) : Int) := ⟨n.toNat, by omega⟩
      refine lx_move (.int .i64 ((m : Nat) : Int)) rfl rfl <| lx_call [.int .i64 ((m : Nat) : Int)] rfl rfl Try.call115 rfl (obare_spec h m (by omega)) (fun _ _ _ => trivial) ?_
      rintro vp h1 ⟨_, hs, rfl, ho1, hot1, hx1⟩
      have ho2 := ho1.base (Nat.le_refl h.size)
      have hot2 := hot1.base (Nat.le_refl h.size)
      have hl_hot2 := hot2.1
      refine lx_assign (vp) rfl rfl <| lx_nil <| wi_seq <| wi_seq <| wi_reg rfl <| lx_move (vl) rfl rfl <| lx_len rfl Try.underlying22 hr_vl rfl <| lx_move (.int .i64 0) rfl rfl <| lx_nil <| wi_block <| ?_
      refine wi_loop (σ := Nat × (List Hdr) × (List (List Bool))) (rngB 19 47 [4, 5, 8]) (fun (ss : Nat × (List Hdr) × (List (List Bool))) => [(19, .int .i64 ((ss.1 : Nat) : Int))]) (fun (ss : Nat × (List Hdr) × (List (List Bool))) (hh : Heap) => OwE encHd hh h.size 70 vp ss.2.1 ∧ OT encB hh h.size 4 ss.2.1 ss.2.2 ∧ Ext h.size h hh ∧ (ss.1 ≤ ls.length) ∧ (Sq ss.2.2 m) ∧ (∀ j, j < ss.1 → inR m (gt ls j) = true) ∧ (∀ x y, x < m → y < m → pb ss.2.2 x y = pairW ls ss.1 x y)) (fun (ss : Nat × (List Hdr) × (List (List Bool))) => ls.length - ss.1) (0, hs, tabF m (fun x y => decide (x = y))) ⟨rfl, trivial⟩ ⟨?_, ?_, hx1, ?_, ?_, ?_, ?_⟩ ?_
      · first | exact ho2 | (simpa using ho2)
      · first | exact hot2 | (simpa using hot2)
      · try dsimp only
        omega
      · try dsimp only
        exact tabF_sq _ _
      · try dsimp only
        intro j hj; omega
      · try dsimp only
        intro x y hx hy; rw [pb_tabF hx hy, pairW_zero]
      rintro g1 ⟨i, hs, p⟩ hh1 ⟨ho3, hot3, hx0_1, hi, hq, hr, hp⟩ IH1
      dsimp only at *
      have hq1 := hq.1
      have hl_hot3 := hot3.1
      refine wi_seq <| wi_reg rfl <| lx_lssS rfl rfl rfl (fun c3 => ?_) (fun c3 => ?_)
      · refine lx_nil <| wi_seq <| wi_true rfl <| wi_skip <| wi_seq <| wi_block <| wi_seq <| wi_reg rfl <| lx_ix (i := i) rfl eT22 hr_vl rfl rfl (by omega) <| lx_ldA (i := i) [.int .i64 ((gt ls i).1), .int .i64 ((gt ls i).2)] rfl rfl wd85 (hr_vl.extS hx0_1) (by omega) rfl rfl <| lx_alloc rfl rfl Try.zeroValue85 (fun _ _ _ => trivial) fun bn1 h2 hbn1 hbk1 hx2 hsz1 => ?_
        have hbb1 : h.size ≤ bn1 := by have := hx0_1.size; omega
        have hdj1 : Value.ownBlock vp ≠ some bn1 := by intro e; have := (ho3.lt e).2; omega
        have hnb1 : Nbt hs bn1 := nbt_new hot3 (by omega)
        have hx0_2 := hx0_1.trans2 hx2 hx0_1.size
        have ho4 := ho3.extS hx2
        have hot4 := hot3.extS hx2
        have hbk1 : Blk h2 bn1 #[.int .i64 0, .int .i64 0] 85 := hbk1
        refine lx_stBA (#[.int .i64 ((gt ls i).1), .int .i64 ((gt ls i).2)]) rfl rfl Try.sizeOf85 hbk1 rfl rfl rfl rfl (by simp [Value.oneCell']) (fun _ _ _ _ => trivial) fun h3 hbk2 hc1 => ?_
        have hx0_3 := hx0_2.trans (hc1.ext hbb1)
        have ho5 := hc1.owE ho4 hdj1
        have hot5 := hot4.chgB hc1 hnb1
        refine lx_nil <| wi_seq <| wi_seq <| wi_reg rfl <| lx_ixB (i := 0) (0) rfl Try.underlying85 Try.sizeOf3 rfl rfl (by omega) rfl <| lx_ldB (.int .i64 ((gt ls i).1)) rfl rfl fl3 hbk2 rfl rfl <| lx_ixB (i := 1) (1) rfl Try.underlying85 Try.sizeOf3 rfl rfl (by omega) rfl <| lx_ldB (.int .i64 ((gt ls i).2)) rfl rfl fl3 hbk2 rfl rfl <| lx_min (min ((gt ls i).1) ((gt ls i).2)) rfl rfl rfl (by omega) <| lx_lssS rfl rfl rfl (fun c4 => ?_) (fun c4 => ?_)
        · refine lx_move (.bool true) rfl rfl <| lx_skip rfl <| lx_skip rfl <| lx_skip rfl <| lx_skip rfl <| lx_skip rfl <| lx_skip rfl <| lx_skip rfl <| lx_pick true (.bool true) rfl rfl rfl <| lx_nil <| wi_true rfl <| wi_seq <| wi_reg rfl <| lx_assign (.slice none 0 0) rfl rfl <| lx_assign (.int .i64 1) rfl rfl <| lx_nil <| ?_
          -- R3
          refine wi_ret ⟨.tuple #[.slice none 0 0, .int .i64 1], (res_two rfl rfl rfl), ⟨.slice none 0 0, [], [], ?_, (owE_nil encHd _ h.size 70), (OT.nil encB _ h.size 4), ?_, hx0_3⟩⟩
          · first
            | (rw [closE_size (by omega)]; done)
            | (rw [closE_out (i := i) (by omega) (by omega)]; done)
            | (rw [hce]; have hcc := chkT_cases r_1; first | (rw [hcc.resolve_left (by omega)]; done) | (rw [hcc.resolve_right (by omega)]; done))
          · first
            | exact .inl ⟨by rw [closE_size (by omega)]; decide, rfl⟩
            | exact .inl ⟨by rw [closE_out (i := i) (by omega) (by omega)]; decide, rfl⟩
            | exact .inl ⟨by omega, rfl⟩
            | exact .inr ⟨by omega, by rw [Int.toNat_natCast]; exact hrt⟩
        · refine lx_move (.bool false) rfl rfl <| lx_ixB (i := 0) (0) rfl Try.underlying85 Try.sizeOf3 rfl rfl (by omega) rfl <| lx_ldB (.int .i64 ((gt ls i).1)) rfl rfl fl3 hbk2 rfl rfl <| lx_ixB (i := 1) (1) rfl Try.underlying85 Try.sizeOf3 rfl rfl (by omega) rfl <| lx_ldB (.int .i64 ((gt ls i).2)) rfl rfl fl3 hbk2 rfl rfl <| lx_max (max ((gt ls i).1) ((gt ls i).2)) rfl rfl rfl (by omega) <| lx_move (.int .i64 ((m : Nat) : Int)) rfl rfl <| lx_geqS rfl rfl rfl (fun c5 => ?_) (fun c5 => ?_)
          · refine lx_pick false (.bool true) rfl rfl rfl <| lx_nil <| wi_true rfl <| wi_seq <| wi_reg rfl <| lx_assign (.slice none 0 0) rfl rfl <| lx_assign (.int .i64 1) rfl rfl <| lx_nil <| ?_
            -- R4
            refine wi_ret ⟨.tuple #[.slice none 0 0, .int .i64 1], (res_two rfl rfl rfl), ⟨.slice none 0 0, [], [], ?_, (owE_nil encHd _ h.size 70), (OT.nil encB _ h.size 4), ?_, hx0_3⟩⟩
            · first
              | (rw [closE_size (by omega)]; done)
              | (rw [closE_out (i := i) (by omega) (by omega)]; done)
              | (rw [hce]; have hcc := chkT_cases r_1; first | (rw [hcc.resolve_left (by omega)]; done) | (rw [hcc.resolve_right (by omega)]; done))
            · first
              | exact .inl ⟨by rw [closE_size (by omega)]; decide, rfl⟩
              | exact .inl ⟨by rw [closE_out (i := i) (by omega) (by omega)]; decide, rfl⟩
              | exact .inl ⟨by omega, rfl⟩
              | exact .inr ⟨by omega, by rw [Int.toNat_natCast]; exact hrt⟩
          · refine lx_pick false (.bool false) rfl rfl rfl <| lx_nil <| wi_false rfl <| wi_skip <| wi_draw mo rfl (by decide +kernel) <| ?_
            obtain ⟨a, b, hgc, ha, hb⟩ : ∃ a b : Nat, gt ls i = ((a : Int), (b : Int)) ∧ a < m ∧ b < m := ⟨(gt ls i).1.toNat, (gt ls i).2.toNat, Prod.ext (by show _ = ((_ : Nat) : Int); omega) (by show _ = ((_ : Nat) : Int); omega), by omega, by omega⟩
            refine lx_move (vp) rfl rfl <| lx_ixB (i := 0) (0) rfl Try.underlying85 Try.sizeOf3 rfl rfl (by omega) rfl <| lx_ldB (.int .i64 ((a : Nat) : Int)) rfl rfl fl3 hbk2 (by rw [hgc]; rfl) rfl <| lx_ix (i := a) rfl eT29 ho5.rd rfl rfl (by omega) <| lx_ld (i := a) (j := 0) ((gt hs a).v) rfl rfl fl70 ho5.rd (by omega) rfl rfl <| lx_ixB (i := 1) (1) rfl Try.underlying85 Try.sizeOf3 rfl rfl (by omega) rfl <| lx_ldB (.int .i64 ((b : Nat) : Int)) rfl rfl fl3 hbk2 (by rw [hgc]; rfl) rfl <| lx_ix (i := b) rfl eT70 (hot5.2.1 a (by omega)).rd rfl rfl (by rw [hq.2 a (by omega)]; omega) <| lx_st (i := b) true rfl rfl Try.sizeOf4 (hot5.2.1 a (by omega)) (by rw [hq.2 a (by omega)]; omega) rfl rfl (fun _ _ _ _ _ => trivial) fun h4 ho6 hc2 hsz2 => ?_
            have hx0_4 := hx0_3.trans ((hot5.2.1 a (by omega)).ext hc2 hx0_3.size)
            have ho7 := ho5.chg hc2 (Dj.symm ((djt_ty hot5 ho5 (by decide)) a (by rw [hot5.1]; exact (by omega))))
            have hb1 := hbk2.chg hc2 (hnb1 a (by rw [hot5.1]; exact (by omega)))
            have hot6 := OT.cell hot5 (by omega) hc2 ho6
            have hl_hot6 := hot6.1
            refine lx_nil <| wi_inBlock <| wi_reg rfl <| lx_add (((i + 1 : Nat) : Int)) rfl rfl rfl (by omega) (by omega) (by omega) <| lx_move (.int .i64 ((i + 1 : Nat) : Int)) rfl rfl <| lx_nil <| ?_
            -- L0.1
            refine IH1 _ _ (i + 1, hs, p.set a ((gt p a).set b true)) (agree_ups rfl agree_self) ⟨rfl, trivial⟩ ⟨?_, ?_, hx0_4, ?_, ?_, ?_, ?_⟩ ?_
            · first | exact ho7 | (simpa using ho7)
            · first | exact hot6 | (simpa using hot6)
            · try dsimp only
              omega
            · try dsimp only
              exact sq_set hq (by omega)
            · try dsimp only
              intro j hj; by_cases e : j = i
              · subst e; rw [hgc]; exact inR_iff.2 ⟨by show (0 : Int) ≤ (a : Int); omega, by show (0 : Int) ≤ (b : Int); omega, by show (a : Int) < m; omega, by show (b : Int) < m; omega⟩
              · exact hr j (by omega)
            · try dsimp only
              exact pairW_step (by omega) hq ha hb hgc hp
            · first | omega | (dsimp only; omega)
      · refine lx_nil <| wi_seq <| wi_false rfl <| wi_exit rfl <| wi_seq <| wi_seq <| wi_reg rfl <| ?_
        have hpl : p.length = m := hq.1
        refine lx_move (vp) rfl rfl <| lx_call [vp] rfl rfl Try.call116 rfl (oclosed_spec hh1 h.size vp hs p ho3 hot3 hx0_1.size (by omega) (by rw [hpl]; exact hq)) (fun _ _ _ => trivial) ?_
        rintro vp h5 ⟨r_1, rfl, ho8, hot7, hr_1, hx3⟩
        have hx0_5 := hx0_1.trans hx3
        have hl_hot7 := hot7.1
        refine lx_assign (vp) rfl rfl <| lx_nil <| wi_seq <| wi_reg rfl <| ?_
        have hrt : r_1 = tabF m (closW m ls) := by rw [hr_1]; exact clos_tab hq (by omega) hp
        have hce := closE_ok (by omega) (by omega) (fun j hj => hr j (by omega))
        rw [← chkT_tabF (by omega) (by omega), ← hrt] at hce
        have hqr : Sq r_1 m := by rw [hrt]; exact tabF_sq _ _
        refine lx_move (vp) rfl rfl <| lx_call [vp] rfl rfl Try.call62 rfl (ocheck_spec h5 vp hs r_1 ho8.rd hot7.rt (by rw [hqr.1]; omega) (fun i hi => by rw [hqr.2 i (by rw [← hqr.1]; exact hi)]; omega)) (fun _ _ _ => trivial) ?_
        rintro _ h6 ⟨rfl, hx4⟩
        have hx0_6 := hx0_5.trans2 hx4 hx0_5.size
        have ho9 := ho8.extS hx4
        have hot8 := hot7.extS hx4
        refine lx_neqS rfl rfl rfl (fun c6 => ?_) (fun c6 => ?_)
        · refine lx_nil <| wi_true rfl <| wi_seq <| wi_reg rfl <| lx_assign (.slice none 0 0) rfl rfl <| lx_assign (.int .i64 90) rfl rfl <| lx_nil <| ?_
          -- R5
          refine wi_ret ⟨.tuple #[.slice none 0 0, .int .i64 90], (res_two rfl rfl rfl), ⟨.slice none 0 0, [], [], ?_, (owE_nil encHd _ h.size 70), (OT.nil encB _ h.size 4), ?_, hx0_6⟩⟩
          · first
            | (rw [closE_size (by omega)]; done)
            | (rw [closE_out (i := i) (by omega) (by omega)]; done)
            | (rw [hce]; have hcc := chkT_cases r_1; first | (rw [hcc.resolve_left (by omega)]; done) | (rw [hcc.resolve_right (by omega)]; done))
          · first
            | exact .inl ⟨by rw [closE_size (by omega)]; decide, rfl⟩
            | exact .inl ⟨by rw [closE_out (i := i) (by omega) (by omega)]; decide, rfl⟩
            | exact .inl ⟨by omega, rfl⟩
            | exact .inr ⟨by omega, by rw [Int.toNat_natCast]; exact hrt⟩
        · refine lx_nil <| wi_false rfl <| wi_skip <| wi_seq <| wi_reg rfl <| lx_move (vp) rfl rfl <| lx_assign (vp) rfl rfl <| lx_assign (.int .i64 0) rfl rfl <| lx_nil <| ?_
          -- R6
          refine wi_ret ⟨.tuple #[vp, .int .i64 0], (res_two rfl rfl rfl), ⟨vp, hs, r_1, ?_, ho9, hot8, ?_, hx0_6⟩⟩
          · first
            | (rw [closE_size (by omega)]; done)
            | (rw [closE_out (i := i) (by omega) (by omega)]; done)
            | (rw [hce]; have hcc := chkT_cases r_1; first | (rw [hcc.resolve_left (by omega)]; done) | (rw [hcc.resolve_right (by omega)]; done))
          · first
            | exact .inl ⟨by rw [closE_size (by omega)]; decide, rfl⟩
            | exact .inl ⟨by rw [closE_out (i := i) (by omega) (by omega)]; decide, rfl⟩
            | exact .inl ⟨by omega, rfl⟩
            | exact .inr ⟨by omega, by rw [Int.toNat_natCast]; exact hrt⟩

end Go.Proofs.Ytdokijbdnajhgaa
namespace Go.Proofs.Ytdokijbdnajhgaa
open Go Go.X

set_option maxRecDepth 10000 in
theorem risorder_spec (h : Heap) (vp : Value) (hs : List Hdr) (p : List (List Bool)) (hr_vp : RdE encHd h vp hs) (ht_vp : RT encB h hs p) (hp1 : p.length ≤ 1000000) (hp2 : ∀ i, i < p.length → (gt p i).length ≤ 1000000) : Fx Try.prog 112 [vp] h (fun v h' => v = .bool (isT p) ∧ h = h') := by
  have hl_vp := ht_vp.1
  refine fx_intro (n := 92) [(0, vp)] Try.func112 rfl rfl (by simp) ⟨rfl, trivial⟩ fun g0 => ?_
  refine wi_seq <| wi_reg rfl <| lx_assign (.bool false) rfl rfl <| lx_nil <| wi_seq <| wi_reg rfl <| lx_move (vp) rfl rfl <| lx_len rfl Try.underlying23 hr_vp rfl <| lx_assign (.int .i64 ((hs.length : Nat) : Int)) rfl rfl <| lx_nil <| wi_seq <| wi_seq <| wi_reg rfl <| lx_assign (.int .i64 0) rfl rfl <| lx_nil <| wi_block <| ?_
  refine wi_loop (σ := Nat) (rngB 10 22 [2, 4]) (fun (w : Nat) => [(4, .int .i64 ((w : Nat) : Int))]) (fun (w : Nat) (hh : Heap) => h = hh ∧ (w ≤ p.length) ∧ (∀ j, j < w → (gt p j).length = p.length)) (fun (w : Nat) => p.length - w) 0 ⟨rfl, trivial⟩ ⟨rfl, ?_, ?_⟩ ?_
  · try dsimp only
    omega
  · try dsimp only
    intro j hj; omega
  rintro g1 w hh1 ⟨rfl, hw, he⟩ IH1
  refine wi_seq <| wi_seq <| wi_reg rfl <| lx_move (.int .i64 ((w : Nat) : Int)) rfl rfl <| lx_move (.int .i64 ((hs.length : Nat) : Int)) rfl rfl <| lx_lssS rfl rfl rfl (fun c1 => ?_) (fun c1 => ?_)
  · refine lx_nil <| wi_true rfl <| wi_skip <| wi_seq <| wi_block <| wi_seq <| wi_reg rfl <| lx_move (vp) rfl rfl <| lx_move (.int .i64 ((w : Nat) : Int)) rfl rfl <| lx_ix (i := w) rfl eT23 hr_vp rfl rfl (by omega) <| lx_ld (i := w) (j := 0) ((gt hs w).v) rfl rfl fl70 hr_vp (by omega) rfl rfl <| lx_len rfl Try.underlying70 (ht_vp.2 w (by omega)) rfl <| lx_move (.int .i64 ((hs.length : Nat) : Int)) rfl rfl <| lx_neqS rfl rfl rfl (fun c2 => ?_) (fun c2 => ?_)
    · refine lx_nil <| wi_true rfl <| wi_seq <| wi_reg rfl <| lx_assign (.bool false) rfl rfl <| lx_nil <| ?_
      -- R1
      refine wi_ret ⟨.bool false, (res_one rfl rfl), ⟨?_, rfl⟩⟩
      · congr 1
        first
        | exact (isT_iff.2 ⟨hsQ, fun a b ha hb => hA a (by omega) b hb⟩).symm
        | exact (bad_sq (i := w) (by omega) (by omega)).symm
        | exact (bad_ok (x := x) (y := x) (by omega) (by omega) (bad_refl rfl (by first | assumption | exact nbf (by assumption) | exact nbt (by assumption)))).symm
        | exact (bad_ok (x := x) (y := y) (by omega) (by omega) (bad_tri (z := z) (by omega) (by first | assumption | exact nbf (by assumption) | exact nbt (by assumption)) (by first | assumption | exact nbf (by assumption) | exact nbt (by assumption)) (by first | assumption | exact nbf (by assumption) | exact nbt (by assumption)))).symm
        | exact (bad_ok (x := x) (y := y) (by omega) (by omega) (bad_anti (by omega) (by first | assumption | exact nbf (by assumption) | exact nbt (by assumption)) (by first | assumption | exact nbf (by assumption) | exact nbt (by assumption)))).symm
    · refine lx_nil <| wi_false rfl <| wi_skip <| wi_inBlock <| wi_reg rfl <| lx_move (.int .i64 ((w : Nat) : Int)) rfl rfl <| lx_add (((w + 1 : Nat) : Int)) rfl rfl rfl (by omega) (by omega) (by omega) <| lx_assign (.int .i64 ((w + 1 : Nat) : Int)) rfl rfl <| lx_nil <| ?_
      -- L0.1
      refine IH1 _ _ (w + 1) (agree_ups rfl agree_self) ⟨rfl, trivial⟩ ⟨rfl, ?_, ?_⟩ ?_
      · try dsimp only
        omega
      · try dsimp only
        intro j hj; by_cases e : j = w
        · subst e; omega
        · exact he j (by omega)
      · first | omega | (dsimp only; omega)
  · refine lx_nil <| wi_false rfl <| wi_exit rfl <| wi_seq <| wi_seq <| wi_reg rfl <| ?_
    have hsQ : Sq p p.length := ⟨rfl, fun j hj => he j (by omega)⟩
    refine lx_assign (.int .i64 0) rfl rfl <| lx_nil <| wi_block <| ?_
    refine wi_loop (σ := Nat) (rngB 22 92 [2, 5, 6, 7]) (fun (x : Nat) => [(5, .int .i64 ((x : Nat) : Int))]) (fun (x : Nat) (hh : Heap) => h = hh ∧ (x ≤ p.length) ∧ (∀ a, a < x → ∀ b, b < p.length → okP p.length (pb p) a b)) (fun (x : Nat) => p.length - x) 0 ⟨rfl, trivial⟩ ⟨rfl, ?_, ?_⟩ ?_
    · try dsimp only
      omega
    · try dsimp only
      intro a ha; omega
    rintro g2 x hh2 ⟨rfl, hx, hA⟩ IH2
    refine wi_seq <| wi_seq <| wi_reg rfl <| lx_move (.int .i64 ((x : Nat) : Int)) rfl rfl <| lx_move (.int .i64 ((hs.length : Nat) : Int)) rfl rfl <| lx_lssS rfl rfl rfl (fun c3 => ?_) (fun c3 => ?_)
    · refine lx_nil <| wi_true rfl <| wi_skip <| wi_seq <| wi_block <| wi_seq <| wi_seq <| wi_reg rfl <| lx_move (vp) rfl rfl <| lx_move (.int .i64 ((x : Nat) : Int)) rfl rfl <| lx_ix (i := x) rfl eT23 hr_vp rfl rfl (by omega) <| lx_ld (i := x) (j := 0) ((gt hs x).v) rfl rfl fl70 hr_vp (by omega) rfl rfl <| lx_move (.int .i64 ((x : Nat) : Int)) rfl rfl <| lx_ix (i := x) rfl eT70 (ht_vp.2 x (by omega)) rfl rfl (by rw [hsQ.2 x (by omega)]; omega) <| lx_ld (i := x) (j := 0) (.bool (gt (gt p x) x)) rfl rfl fl4 (ht_vp.2 x (by omega)) (by rw [hsQ.2 x (by omega)]; omega) rfl rfl <| lx_not rfl rfl <| lx_nil <| wi_condS (t := !(gt (gt p x) x)) rfl (fun c4 => ?_) (fun c4 => ?_)
      · refine wi_seq <| wi_reg rfl <| lx_assign (.bool false) rfl rfl <| lx_nil <| ?_
        -- R2
        refine wi_ret ⟨.bool false, (res_one rfl rfl), ⟨?_, rfl⟩⟩
        · congr 1
          first
          | exact (isT_iff.2 ⟨hsQ, fun a b ha hb => hA a (by omega) b hb⟩).symm
          | exact (bad_sq (i := w) (by omega) (by omega)).symm
          | exact (bad_ok (x := x) (y := x) (by omega) (by omega) (bad_refl rfl (by first | assumption | exact nbf (by assumption) | exact nbt (by assumption)))).symm
          | exact (bad_ok (x := x) (y := y) (by omega) (by omega) (bad_tri (z := z) (by omega) (by first | assumption | exact nbf (by assumption) | exact nbt (by assumption)) (by first | assumption | exact nbf (by assumption) | exact nbt (by assumption)) (by first | assumption | exact nbf (by assumption) | exact nbt (by assumption)))).symm
          | exact (bad_ok (x := x) (y := y) (by omega) (by omega) (bad_anti (by omega) (by first | assumption | exact nbf (by assumption) | exact nbt (by assumption)) (by first | assumption | exact nbf (by assumption) | exact nbt (by assumption)))).symm
      · refine wi_skip <| wi_seq <| wi_reg rfl <| ?_
        have hre : pb p x x = true := nbf (by assumption)
        refine lx_assign (.int .i64 0) rfl rfl <| lx_nil <| wi_block <| ?_
        refine wi_loop (σ := Nat) (rngB 35 92 [2, 6, 7]) (fun (y : Nat) => [(6, .int .i64 ((y : Nat) : Int))]) (fun (y : Nat) (hh : Heap) => h = hh ∧ (y ≤ p.length) ∧ (∀ b, b < y → okP p.length (pb p) x b)) (fun (y : Nat) => p.length - y) 0 ⟨rfl, trivial⟩ ⟨rfl, ?_, ?_⟩ ?_
        · try dsimp only
          omega
        · try dsimp only
          intro b hb; omega
        rintro g3 y hh3 ⟨rfl, hy, hB⟩ IH3
        refine wi_seq <| wi_seq <| wi_reg rfl <| lx_move (.int .i64 ((y : Nat) : Int)) rfl rfl <| lx_move (.int .i64 ((hs.length : Nat) : Int)) rfl rfl <| lx_lssS rfl rfl rfl (fun c5 => ?_) (fun c5 => ?_)
        · refine lx_nil <| wi_true rfl <| wi_skip <| wi_seq <| wi_block <| wi_seq <| wi_seq <| wi_reg rfl <| lx_move (.int .i64 ((x : Nat) : Int)) rfl rfl <| lx_move (.int .i64 ((y : Nat) : Int)) rfl rfl <| lx_neqS rfl rfl rfl (fun c6 => ?_) (fun c6 => ?_)
          · refine lx_move (.bool true) rfl rfl <| lx_move (vp) rfl rfl <| lx_move (.int .i64 ((x : Nat) : Int)) rfl rfl <| lx_ix (i := x) rfl eT23 hr_vp rfl rfl (by omega) <| lx_ld (i := x) (j := 0) ((gt hs x).v) rfl rfl fl70 hr_vp (by omega) rfl rfl <| lx_move (.int .i64 ((y : Nat) : Int)) rfl rfl <| lx_ix (i := y) rfl eT70 (ht_vp.2 x (by omega)) rfl rfl (by rw [hsQ.2 x (by omega)]; omega) <| lx_ld (i := y) (j := 0) (.bool (gt (gt p x) y)) rfl rfl fl4 (ht_vp.2 x (by omega)) (by rw [hsQ.2 x (by omega)]; omega) rfl rfl <| lx_pick true (.bool (gt (gt p x) y)) rfl rfl rfl <| lx_move (.bool (gt (gt p x) y)) rfl rfl <| ?_
            cases c7 : (gt (gt p x) y)
            · refine lx_skip rfl <| lx_skip rfl <| lx_skip rfl <| lx_skip rfl <| lx_skip rfl <| lx_skip rfl <| lx_skip rfl <| lx_pick false (.bool false) rfl rfl rfl <| lx_nil <| wi_false rfl <| wi_skip <| wi_seq <| wi_reg rfl <| lx_assign (.int .i64 0) rfl rfl <| lx_nil <| wi_block <| ?_
              refine wi_loop (σ := Nat) (rngB 61 92 [2, 7]) (fun (z : Nat) => [(7, .int .i64 ((z : Nat) : Int))]) (fun (z : Nat) (hh : Heap) => h = hh ∧ (z ≤ p.length) ∧ (∀ c, c < z → pb p x y = true → pb p y c = true → pb p x c = true)) (fun (z : Nat) => p.length - z) 0 ⟨rfl, trivial⟩ ⟨rfl, ?_, ?_⟩ ?_
              · try dsimp only
                omega
              · try dsimp only
                intro c hc; omega
              rintro g4 z hh4 ⟨rfl, hz, hC⟩ IH4
              refine wi_seq <| wi_seq <| wi_reg rfl <| lx_move (.int .i64 ((z : Nat) : Int)) rfl rfl <| lx_move (.int .i64 ((hs.length : Nat) : Int)) rfl rfl <| lx_lssS rfl rfl rfl (fun c8 => ?_) (fun c8 => ?_)
              · refine lx_nil <| wi_true rfl <| wi_skip <| wi_seq <| wi_block <| wi_seq <| wi_reg rfl <| lx_move (vp) rfl rfl <| lx_move (.int .i64 ((x : Nat) : Int)) rfl rfl <| lx_ix (i := x) rfl eT23 hr_vp rfl rfl (by omega) <| lx_ld (i := x) (j := 0) ((gt hs x).v) rfl rfl fl70 hr_vp (by omega) rfl rfl <| lx_move (.int .i64 ((y : Nat) : Int)) rfl rfl <| lx_ix (i := y) rfl eT70 (ht_vp.2 x (by omega)) rfl rfl (by rw [hsQ.2 x (by omega)]; omega) <| lx_ld (i := y) (j := 0) (.bool false) rfl rfl fl4 (ht_vp.2 x (by omega)) (by rw [hsQ.2 x (by omega)]; omega) (by show some (Value.bool (gt (gt p x) y)) = _; rw [c7]) rfl <| lx_move (.bool false) rfl rfl <| lx_skip rfl <| lx_skip rfl <| lx_skip rfl <| lx_skip rfl <| lx_skip rfl <| lx_skip rfl <| lx_skip rfl <| lx_pick false (.bool false) rfl rfl rfl <| lx_move (.bool false) rfl rfl <| lx_skip rfl <| lx_skip rfl <| lx_skip rfl <| lx_skip rfl <| lx_skip rfl <| lx_skip rfl <| lx_skip rfl <| lx_skip rfl <| lx_pick false (.bool false) rfl rfl rfl <| lx_nil <| wi_false rfl <| wi_skip <| wi_inBlock <| wi_reg rfl <| lx_move (.int .i64 ((z : Nat) : Int)) rfl rfl <| lx_add (((z + 1 : Nat) : Int)) rfl rfl rfl (by omega) (by omega) (by omega) <| lx_assign (.int .i64 ((z + 1 : Nat) : Int)) rfl rfl <| lx_nil <| ?_
                -- L6.1
                refine IH4 _ _ (z + 1) (agree_ups rfl agree_self) ⟨rfl, trivial⟩ ⟨rfl, ?_, ?_⟩ ?_
                · try dsimp only
                  omega
                · try dsimp only
                  intro c hc h1 h2
                  by_cases e : c = z
                  · subst e; first | assumption | exact nbf (by assumption) | exact absurd h1 (ntb (by first | assumption | exact nbt (by assumption))) | exact absurd h2 (ntb (by first | assumption | exact nbt (by assumption)))
                  · exact hC c (by omega) h1 h2
                · first | omega | (dsimp only; omega)
              · refine lx_nil <| wi_false rfl <| wi_exit rfl <| wi_inBlock <| wi_reg rfl <| lx_move (.int .i64 ((y : Nat) : Int)) rfl rfl <| lx_add (((y + 1 : Nat) : Int)) rfl rfl rfl (by omega) (by omega) (by omega) <| lx_assign (.int .i64 ((y + 1 : Nat) : Int)) rfl rfl <| lx_nil <| ?_
                -- L4.1
                refine IH3 _ _ (y + 1) (agree_ups rfl (agree_mix (rngB_sub (by decide) (by decide) rfl) (agree_ups rfl agree_self))) ⟨rfl, trivial⟩ ⟨rfl, ?_, ?_⟩ ?_
                · try dsimp only
                  omega
                · try dsimp only
                  intro b hb
                  by_cases e : b = y
                  · subst e; exact ⟨fun e => (by first | assumption | exact nbf (by assumption) | (subst e; assumption) | (exfalso; omega)), fun h1 h2 => (by first | (exfalso; omega) | assumption | exact nbt (by assumption) | exact absurd h2 (ntb (by assumption))), fun c hc h1 h2 => hC c (by omega) h1 h2⟩
                  · exact hB b (by omega)
                · first | omega | (dsimp only; omega)
            · refine lx_move (vp) rfl rfl <| lx_move (.int .i64 ((y : Nat) : Int)) rfl rfl <| lx_ix (i := y) rfl eT23 hr_vp rfl rfl (by omega) <| lx_ld (i := y) (j := 0) ((gt hs y).v) rfl rfl fl70 hr_vp (by omega) rfl rfl <| lx_move (.int .i64 ((x : Nat) : Int)) rfl rfl <| lx_ix (i := x) rfl eT70 (ht_vp.2 y (by omega)) rfl rfl (by rw [hsQ.2 y (by omega)]; omega) <| lx_ld (i := x) (j := 0) (.bool (gt (gt p y) x)) rfl rfl fl4 (ht_vp.2 y (by omega)) (by rw [hsQ.2 y (by omega)]; omega) rfl rfl <| lx_pick true (.bool (gt (gt p y) x)) rfl rfl rfl <| lx_nil <| wi_condS (t := gt (gt p y) x) rfl (fun c9 => ?_) (fun c9 => ?_)
              · refine wi_seq <| wi_reg rfl <| lx_assign (.bool false) rfl rfl <| lx_nil <| ?_
                -- R3
                refine wi_ret ⟨.bool false, (res_one rfl rfl), ⟨?_, rfl⟩⟩
                · congr 1
                  first
                  | exact (isT_iff.2 ⟨hsQ, fun a b ha hb => hA a (by omega) b hb⟩).symm
                  | exact (bad_sq (i := w) (by omega) (by omega)).symm
                  | exact (bad_ok (x := x) (y := x) (by omega) (by omega) (bad_refl rfl (by first | assumption | exact nbf (by assumption) | exact nbt (by assumption)))).symm
                  | exact (bad_ok (x := x) (y := y) (by omega) (by omega) (bad_tri (z := z) (by omega) (by first | assumption | exact nbf (by assumption) | exact nbt (by assumption)) (by first | assumption | exact nbf (by assumption) | exact nbt (by assumption)) (by first | assumption | exact nbf (by assumption) | exact nbt (by assumption)))).symm
                  | exact (bad_ok (x := x) (y := y) (by omega) (by omega) (bad_anti (by omega) (by first | assumption | exact nbf (by assumption) | exact nbt (by assumption)) (by first | assumption | exact nbf (by assumption) | exact nbt (by assumption)))).symm
              · refine wi_skip <| wi_seq <| wi_reg rfl <| lx_assign (.int .i64 0) rfl rfl <| lx_nil <| wi_block <| ?_
                refine wi_loop (σ := Nat) (rngB 61 92 [2, 7]) (fun (z : Nat) => [(7, .int .i64 ((z : Nat) : Int))]) (fun (z : Nat) (hh : Heap) => h = hh ∧ (z ≤ p.length) ∧ (∀ c, c < z → pb p x y = true → pb p y c = true → pb p x c = true)) (fun (z : Nat) => p.length - z) 0 ⟨rfl, trivial⟩ ⟨rfl, ?_, ?_⟩ ?_
                · try dsimp only
                  omega
                · try dsimp only
                  intro c hc; omega
                rintro g5 z hh5 ⟨rfl, hz, hC⟩ IH5
                refine wi_seq <| wi_seq <| wi_reg rfl <| lx_move (.int .i64 ((z : Nat) : Int)) rfl rfl <| lx_move (.int .i64 ((hs.length : Nat) : Int)) rfl rfl <| lx_lssS rfl rfl rfl (fun c10 => ?_) (fun c10 => ?_)
                · refine lx_nil <| wi_true rfl <| wi_skip <| wi_seq <| wi_block <| wi_seq <| wi_reg rfl <| lx_move (vp) rfl rfl <| lx_move (.int .i64 ((x : Nat) : Int)) rfl rfl <| lx_ix (i := x) rfl eT23 hr_vp rfl rfl (by omega) <| lx_ld (i := x) (j := 0) ((gt hs x).v) rfl rfl fl70 hr_vp (by omega) rfl rfl <| lx_move (.int .i64 ((y : Nat) : Int)) rfl rfl <| lx_ix (i := y) rfl eT70 (ht_vp.2 x (by omega)) rfl rfl (by rw [hsQ.2 x (by omega)]; omega) <| lx_ld (i := y) (j := 0) (.bool true) rfl rfl fl4 (ht_vp.2 x (by omega)) (by rw [hsQ.2 x (by omega)]; omega) (by show some (Value.bool (gt (gt p x) y)) = _; rw [c7]) rfl <| lx_move (.bool true) rfl rfl <| lx_move (vp) rfl rfl <| lx_move (.int .i64 ((y : Nat) : Int)) rfl rfl <| lx_ix (i := y) rfl eT23 hr_vp rfl rfl (by omega) <| lx_ld (i := y) (j := 0) ((gt hs y).v) rfl rfl fl70 hr_vp (by omega) rfl rfl <| lx_move (.int .i64 ((z : Nat) : Int)) rfl rfl <| lx_ix (i := z) rfl eT70 (ht_vp.2 y (by omega)) rfl rfl (by rw [hsQ.2 y (by omega)]; omega) <| lx_ld (i := z) (j := 0) (.bool (gt (gt p y) z)) rfl rfl fl4 (ht_vp.2 y (by omega)) (by rw [hsQ.2 y (by omega)]; omega) rfl rfl <| lx_pick true (.bool (gt (gt p y) z)) rfl rfl rfl <| lx_move (.bool (gt (gt p y) z)) rfl rfl <| ?_
                  cases c11 : (gt (gt p y) z)
                  · refine lx_skip rfl <| lx_skip rfl <| lx_skip rfl <| lx_skip rfl <| lx_skip rfl <| lx_skip rfl <| lx_skip rfl <| lx_skip rfl <| lx_pick false (.bool false) rfl rfl rfl <| lx_nil <| wi_false rfl <| wi_skip <| wi_inBlock <| wi_reg rfl <| lx_move (.int .i64 ((z : Nat) : Int)) rfl rfl <| lx_add (((z + 1 : Nat) : Int)) rfl rfl rfl (by omega) (by omega) (by omega) <| lx_assign (.int .i64 ((z + 1 : Nat) : Int)) rfl rfl <| lx_nil <| ?_
                    -- L6.1
                    refine IH5 _ _ (z + 1) (agree_ups rfl agree_self) ⟨rfl, trivial⟩ ⟨rfl, ?_, ?_⟩ ?_
                    · try dsimp only
                      omega
                    · try dsimp only
                      intro c hc h1 h2
                      by_cases e : c = z
                      · subst e; first | assumption | exact nbf (by assumption) | exact absurd h1 (ntb (by first | assumption | exact nbt (by assumption))) | exact absurd h2 (ntb (by first | assumption | exact nbt (by assumption)))
                      · exact hC c (by omega) h1 h2
                    · first | omega | (dsimp only; omega)
                  · refine lx_move (vp) rfl rfl <| lx_move (.int .i64 ((x : Nat) : Int)) rfl rfl <| lx_ix (i := x) rfl eT23 hr_vp rfl rfl (by omega) <| lx_ld (i := x) (j := 0) ((gt hs x).v) rfl rfl fl70 hr_vp (by omega) rfl rfl <| lx_move (.int .i64 ((z : Nat) : Int)) rfl rfl <| lx_ix (i := z) rfl eT70 (ht_vp.2 x (by omega)) rfl rfl (by rw [hsQ.2 x (by omega)]; omega) <| lx_ld (i := z) (j := 0) (.bool (gt (gt p x) z)) rfl rfl fl4 (ht_vp.2 x (by omega)) (by rw [hsQ.2 x (by omega)]; omega) rfl rfl <| lx_not rfl rfl <| lx_pick true (.bool (!(gt (gt p x) z))) rfl rfl rfl <| lx_nil <| wi_condS (t := !(gt (gt p x) z)) rfl (fun c12 => ?_) (fun c12 => ?_)
                    · refine wi_seq <| wi_reg rfl <| lx_assign (.bool false) rfl rfl <| lx_nil <| ?_
                      -- R4
                      refine wi_ret ⟨.bool false, (res_one rfl rfl), ⟨?_, rfl⟩⟩
                      · congr 1
                        first
                        | exact (isT_iff.2 ⟨hsQ, fun a b ha hb => hA a (by omega) b hb⟩).symm
                        | exact (bad_sq (i := w) (by omega) (by omega)).symm
                        | exact (bad_ok (x := x) (y := x) (by omega) (by omega) (bad_refl rfl (by first | assumption | exact nbf (by assumption) | exact nbt (by assumption)))).symm
                        | exact (bad_ok (x := x) (y := y) (by omega) (by omega) (bad_tri (z := z) (by omega) (by first | assumption | exact nbf (by assumption) | exact nbt (by assumption)) (by first | assumption | exact nbf (by assumption) | exact nbt (by assumption)) (by first | assumption | exact nbf (by assumption) | exact nbt (by assumption)))).symm
                        | exact (bad_ok (x := x) (y := y) (by omega) (by omega) (bad_anti (by omega) (by first | assumption | exact nbf (by assumption) | exact nbt (by assumption)) (by first | assumption | exact nbf (by assumption) | exact nbt (by assumption)))).symm
                    · refine wi_skip <| wi_inBlock <| wi_reg rfl <| lx_move (.int .i64 ((z : Nat) : Int)) rfl rfl <| lx_add (((z + 1 : Nat) : Int)) rfl rfl rfl (by omega) (by omega) (by omega) <| lx_assign (.int .i64 ((z + 1 : Nat) : Int)) rfl rfl <| lx_nil <| ?_
                      -- L6.2
                      refine IH5 _ _ (z + 1) (agree_ups rfl agree_self) ⟨rfl, trivial⟩ ⟨rfl, ?_, ?_⟩ ?_
                      · try dsimp only
                        omega
                      · try dsimp only
                        intro c hc h1 h2
                        by_cases e : c = z
                        · subst e; first | assumption | exact nbf (by assumption) | exact absurd h1 (ntb (by first | assumption | exact nbt (by assumption))) | exact absurd h2 (ntb (by first | assumption | exact nbt (by assumption)))
                        · exact hC c (by omega) h1 h2
                      · first | omega | (dsimp only; omega)
                · refine lx_nil <| wi_false rfl <| wi_exit rfl <| wi_inBlock <| wi_reg rfl <| lx_move (.int .i64 ((y : Nat) : Int)) rfl rfl <| lx_add (((y + 1 : Nat) : Int)) rfl rfl rfl (by omega) (by omega) (by omega) <| lx_assign (.int .i64 ((y + 1 : Nat) : Int)) rfl rfl <| lx_nil <| ?_
                  -- L4.2
                  refine IH3 _ _ (y + 1) (agree_ups rfl (agree_mix (rngB_sub (by decide) (by decide) rfl) (agree_ups rfl agree_self))) ⟨rfl, trivial⟩ ⟨rfl, ?_, ?_⟩ ?_
                  · try dsimp only
                    omega
                  · try dsimp only
                    intro b hb
                    by_cases e : b = y
                    · subst e; exact ⟨fun e => (by first | assumption | exact nbf (by assumption) | (subst e; assumption) | (exfalso; omega)), fun h1 h2 => (by first | (exfalso; omega) | assumption | exact nbt (by assumption) | exact absurd h2 (ntb (by assumption))), fun c hc h1 h2 => hC c (by omega) h1 h2⟩
                    · exact hB b (by omega)
                  · first | omega | (dsimp only; omega)
          · refine lx_move (.bool false) rfl rfl <| lx_skip rfl <| lx_skip rfl <| lx_skip rfl <| lx_skip rfl <| lx_skip rfl <| lx_skip rfl <| lx_skip rfl <| lx_pick false (.bool false) rfl rfl rfl <| lx_move (.bool false) rfl rfl <| lx_skip rfl <| lx_skip rfl <| lx_skip rfl <| lx_skip rfl <| lx_skip rfl <| lx_skip rfl <| lx_skip rfl <| lx_pick false (.bool false) rfl rfl rfl <| lx_nil <| wi_false rfl <| wi_skip <| wi_seq <| wi_reg rfl <| lx_assign (.int .i64 0) rfl rfl <| lx_nil <| wi_block <| ?_
            refine wi_loop (σ := Nat) (rngB 61 92 [2, 7]) (fun (z : Nat) => [(7, .int .i64 ((z : Nat) : Int))]) (fun (z : Nat) (hh : Heap) => h = hh ∧ (z ≤ p.length) ∧ (∀ c, c < z → pb p x y = true → pb p y c = true → pb p x c = true)) (fun (z : Nat) => p.length - z) 0 ⟨rfl, trivial⟩ ⟨rfl, ?_, ?_⟩ ?_
            · try dsimp only
              omega
            · try dsimp only
              intro c hc; omega
            rintro g6 z hh6 ⟨rfl, hz, hC⟩ IH6
            refine wi_seq <| wi_seq <| wi_reg rfl <| lx_move (.int .i64 ((z : Nat) : Int)) rfl rfl <| lx_move (.int .i64 ((hs.length : Nat) : Int)) rfl rfl <| lx_lssS rfl rfl rfl (fun c13 => ?_) (fun c13 => ?_)
            · refine lx_nil <| wi_true rfl <| wi_skip <| wi_seq <| wi_block <| wi_seq <| wi_reg rfl <| lx_move (vp) rfl rfl <| lx_move (.int .i64 ((x : Nat) : Int)) rfl rfl <| lx_ix (i := x) rfl eT23 hr_vp rfl rfl (by omega) <| lx_ld (i := x) (j := 0) ((gt hs x).v) rfl rfl fl70 hr_vp (by omega) rfl rfl <| lx_move (.int .i64 ((y : Nat) : Int)) rfl rfl <| lx_ix (i := y) rfl eT70 (ht_vp.2 x (by omega)) rfl rfl (by rw [hsQ.2 x (by omega)]; omega) <| lx_ld (i := y) (j := 0) (.bool (gt (gt p x) y)) rfl rfl fl4 (ht_vp.2 x (by omega)) (by rw [hsQ.2 x (by omega)]; omega) rfl rfl <| lx_move (.bool (gt (gt p x) y)) rfl rfl <| ?_
              cases c14 : (gt (gt p x) y)
              · refine lx_skip rfl <| lx_skip rfl <| lx_skip rfl <| lx_skip rfl <| lx_skip rfl <| lx_skip rfl <| lx_skip rfl <| lx_pick false (.bool false) rfl rfl rfl <| lx_move (.bool false) rfl rfl <| lx_skip rfl <| lx_skip rfl <| lx_skip rfl <| lx_skip rfl <| lx_skip rfl <| lx_skip rfl <| lx_skip rfl <| lx_skip rfl <| lx_pick false (.bool false) rfl rfl rfl <| lx_nil <| wi_false rfl <| wi_skip <| wi_inBlock <| wi_reg rfl <| lx_move (.int .i64 ((z : Nat) : Int)) rfl rfl <| lx_add (((z + 1 : Nat) : Int)) rfl rfl rfl (by omega) (by omega) (by omega) <| lx_assign (.int .i64 ((z + 1 : Nat) : Int)) rfl rfl <| lx_nil <| ?_
                -- L6.1
                refine IH6 _ _ (z + 1) (agree_ups rfl agree_self) ⟨rfl, trivial⟩ ⟨rfl, ?_, ?_⟩ ?_
                · try dsimp only
                  omega
                · try dsimp only
                  intro c hc h1 h2
                  by_cases e : c = z
                  · subst e; first | assumption | exact nbf (by assumption) | exact absurd h1 (ntb (by first | assumption | exact nbt (by assumption))) | exact absurd h2 (ntb (by first | assumption | exact nbt (by assumption)))
                  · exact hC c (by omega) h1 h2
                · first | omega | (dsimp only; omega)
              · refine lx_move (vp) rfl rfl <| lx_move (.int .i64 ((y : Nat) : Int)) rfl rfl <| lx_ix (i := y) rfl eT23 hr_vp rfl rfl (by omega) <| lx_ld (i := y) (j := 0) ((gt hs y).v) rfl rfl fl70 hr_vp (by omega) rfl rfl <| lx_move (.int .i64 ((z : Nat) : Int)) rfl rfl <| lx_ix (i := z) rfl eT70 (ht_vp.2 y (by omega)) rfl rfl (by rw [hsQ.2 y (by omega)]; omega) <| lx_ld (i := z) (j := 0) (.bool (gt (gt p y) z)) rfl rfl fl4 (ht_vp.2 y (by omega)) (by rw [hsQ.2 y (by omega)]; omega) rfl rfl <| lx_pick true (.bool (gt (gt p y) z)) rfl rfl rfl <| lx_move (.bool (gt (gt p y) z)) rfl rfl <| ?_
                cases c15 : (gt (gt p y) z)
                · refine lx_skip rfl <| lx_skip rfl <| lx_skip rfl <| lx_skip rfl <| lx_skip rfl <| lx_skip rfl <| lx_skip rfl <| lx_skip rfl <| lx_pick false (.bool false) rfl rfl rfl <| lx_nil <| wi_false rfl <| wi_skip <| wi_inBlock <| wi_reg rfl <| lx_move (.int .i64 ((z : Nat) : Int)) rfl rfl <| lx_add (((z + 1 : Nat) : Int)) rfl rfl rfl (by omega) (by omega) (by omega) <| lx_assign (.int .i64 ((z + 1 : Nat) : Int)) rfl rfl <| lx_nil <| ?_
                  -- L6.2
                  refine IH6 _ _ (z + 1) (agree_ups rfl agree_self) ⟨rfl, trivial⟩ ⟨rfl, ?_, ?_⟩ ?_
                  · try dsimp only
                    omega
                  · try dsimp only
                    intro c hc h1 h2
                    by_cases e : c = z
                    · subst e; first | assumption | exact nbf (by assumption) | exact absurd h1 (ntb (by first | assumption | exact nbt (by assumption))) | exact absurd h2 (ntb (by first | assumption | exact nbt (by assumption)))
                    · exact hC c (by omega) h1 h2
                  · first | omega | (dsimp only; omega)
                · refine lx_move (vp) rfl rfl <| lx_move (.int .i64 ((x : Nat) : Int)) rfl rfl <| lx_ix (i := x) rfl eT23 hr_vp rfl rfl (by omega) <| lx_ld (i := x) (j := 0) ((gt hs x).v) rfl rfl fl70 hr_vp (by omega) rfl rfl <| lx_move (.int .i64 ((z : Nat) : Int)) rfl rfl <| lx_ix (i := z) rfl eT70 (ht_vp.2 x (by omega)) rfl rfl (by rw [hsQ.2 x (by omega)]; omega) <| lx_ld (i := z) (j := 0) (.bool (gt (gt p x) z)) rfl rfl fl4 (ht_vp.2 x (by omega)) (by rw [hsQ.2 x (by omega)]; omega) rfl rfl <| lx_not rfl rfl <| lx_pick true (.bool (!(gt (gt p x) z))) rfl rfl rfl <| lx_nil <| wi_condS (t := !(gt (gt p x) z)) rfl (fun c16 => ?_) (fun c16 => ?_)
                  · refine wi_seq <| wi_reg rfl <| lx_assign (.bool false) rfl rfl <| lx_nil <| ?_
                    -- R5
                    refine wi_ret ⟨.bool false, (res_one rfl rfl), ⟨?_, rfl⟩⟩
                    · congr 1
                      first
                      | exact (isT_iff.2 ⟨hsQ, fun a b ha hb => hA a (by omega) b hb⟩).symm
                      | exact (bad_sq (i := w) (by omega) (by omega)).symm
                      | exact (bad_ok (x := x) (y := x) (by omega) (by omega) (bad_refl rfl (by first | assumption | exact nbf (by assumption) | exact nbt (by assumption)))).symm
                      | exact (bad_ok (x := x) (y := y) (by omega) (by omega) (bad_tri (z := z) (by omega) (by first | assumption | exact nbf (by assumption) | exact nbt (by assumption)) (by first | assumption | exact nbf (by assumption) | exact nbt (by assumption)) (by first | assumption | exact nbf (by assumption) | exact nbt (by assumption)))).symm
                      | exact (bad_ok (x := x) (y := y) (by omega) (by omega) (bad_anti (by omega) (by first | assumption | exact nbf (by assumption) | exact nbt (by assumption)) (by first | assumption | exact nbf (by assumption) | exact nbt (by assumption)))).symm
                  · refine wi_skip <| wi_inBlock <| wi_reg rfl <| lx_move (.int .i64 ((z : Nat) : Int)) rfl rfl <| lx_add (((z + 1 : Nat) : Int)) rfl rfl rfl (by omega) (by omega) (by omega) <| lx_assign (.int .i64 ((z + 1 : Nat) : Int)) rfl rfl <| lx_nil <| ?_
                    -- L6.3
                    refine IH6 _ _ (z + 1) (agree_ups rfl agree_self) ⟨rfl, trivial⟩ ⟨rfl, ?_, ?_⟩ ?_
                    · try dsimp only
                      omega
                    · try dsimp only
                      intro c hc h1 h2
                      by_cases e : c = z
                      · subst e; first | assumption | exact nbf (by assumption) | exact absurd h1 (ntb (by first | assumption | exact nbt (by assumption))) | exact absurd h2 (ntb (by first | assumption | exact nbt (by assumption)))
                      · exact hC c (by omega) h1 h2
                    · first | omega | (dsimp only; omega)
            · refine lx_nil <| wi_false rfl <| wi_exit rfl <| wi_inBlock <| wi_reg rfl <| lx_move (.int .i64 ((y : Nat) : Int)) rfl rfl <| lx_add (((y + 1 : Nat) : Int)) rfl rfl rfl (by omega) (by omega) (by omega) <| lx_assign (.int .i64 ((y + 1 : Nat) : Int)) rfl rfl <| lx_nil <| ?_
              -- L4.3
              refine IH3 _ _ (y + 1) (agree_ups rfl (agree_mix (rngB_sub (by decide) (by decide) rfl) (agree_ups rfl agree_self))) ⟨rfl, trivial⟩ ⟨rfl, ?_, ?_⟩ ?_
              · try dsimp only
                omega
              · try dsimp only
                intro b hb
                by_cases e : b = y
                · subst e; exact ⟨fun e => (by first | assumption | exact nbf (by assumption) | (subst e; assumption) | (exfalso; omega)), fun h1 h2 => (by first | (exfalso; omega) | assumption | exact nbt (by assumption) | exact absurd h2 (ntb (by assumption))), fun c hc h1 h2 => hC c (by omega) h1 h2⟩
                · exact hB b (by omega)
              · first | omega | (dsimp only; omega)
        · refine lx_nil <| wi_false rfl <| wi_exit rfl <| wi_inBlock <| wi_reg rfl <| lx_move (.int .i64 ((x : Nat) : Int)) rfl rfl <| lx_add (((x + 1 : Nat) : Int)) rfl rfl rfl (by omega) (by omega) (by omega) <| lx_assign (.int .i64 ((x + 1 : Nat) : Int)) rfl rfl <| lx_nil <| ?_
          -- L2.1
          refine IH2 _ _ (x + 1) (agree_ups rfl (agree_mix (rngB_sub (by decide) (by decide) rfl) (agree_ups rfl agree_self))) ⟨rfl, trivial⟩ ⟨rfl, ?_, ?_⟩ ?_
          · try dsimp only
            omega
          · try dsimp only
            intro a ha b hb
            by_cases e : a = x
            · subst e; exact hB b (by omega)
            · exact hA a (by omega) b hb
          · first | omega | (dsimp only; omega)
    · refine lx_nil <| wi_false rfl <| wi_exit rfl <| wi_seq <| wi_reg rfl <| lx_assign (.bool true) rfl rfl <| lx_nil <| ?_
      -- R6
      refine wi_ret ⟨.bool true, (res_one rfl rfl), ⟨?_, rfl⟩⟩
      · congr 1
        first
        | exact (isT_iff.2 ⟨hsQ, fun a b ha hb => hA a (by omega) b hb⟩).symm
        | exact (bad_sq (i := w) (by omega) (by omega)).symm
        | exact (bad_ok (x := x) (y := x) (by omega) (by omega) (bad_refl rfl (by first | assumption | exact nbf (by assumption) | exact nbt (by assumption)))).symm
        | exact (bad_ok (x := x) (y := y) (by omega) (by omega) (bad_tri (z := z) (by omega) (by first | assumption | exact nbf (by assumption) | exact nbt (by assumption)) (by first | assumption | exact nbf (by assumption) | exact nbt (by assumption)) (by first | assumption | exact nbf (by assumption) | exact nbt (by assumption)))).symm
        | exact (bad_ok (x := x) (y := y) (by omega) (by omega) (bad_anti (by omega) (by first | assumption | exact nbf (by assumption) | exact nbt (by assumption)) (by first | assumption | exact nbf (by assumption) | exact nbt (by assumption)))).symm

end Go.Proofs.Ytdokijbdnajhgaa
namespace Go.Proofs.Ytdokijbdnajhgaa
open Go Go.X

set_option maxRecDepth 10000 in
theorem rclosure_spec (h : Heap) (n : Nat) (vl : Value) (ls : List (Int × Int)) (hr_vl : RdE encP h vl ls) (hp1 : n ≤ 12) (hp2 : ls.length ≤ 4611686018427387904) (hp3 : ∀ j, j < ls.length → inR n (gt ls j) = true) : Fx Try.prog 64 [.int .i64 ((n : Nat) : Int), vl] h (fun v h' => ∃ (s : Value) (hs : List Hdr), v = .tuple #[s, .bool (ordB n (closW n ls))] ∧ OwE encHd h' h.size 70 s hs ∧ OT encB h' h.size 4 hs (tabF n (closW n ls)) ∧ Ext h.size h h') := by
  refine fx_intro (n := 96) [(0, .int .i64 ((n : Nat) : Int)), (1, vl)] Try.func64 rfl rfl (by simp) ⟨rfl, rfl, trivial⟩ fun g0 => ?_
  refine wi_seq <| wi_reg rfl <| lx_assign (.slice none 0 0) rfl rfl <| lx_assign (.bool false) rfl rfl <| lx_nil <| wi_seq <| wi_reg rfl <| lx_assign (.slice none 0 0) rfl rfl <| lx_nil <| wi_seq <| wi_seq <| wi_reg rfl <| lx_assign (.int .i64 0) rfl rfl <| lx_nil <| wi_block <| ?_
  refine wi_loop (σ := Nat × Value × (List Hdr) × (List (List Bool))) (rngB 13 27 [6, 7, 8]) (fun (ss : Nat × Value × (List Hdr) × (List (List Bool))) => [(7, .int .i64 ((ss.1 : Nat) : Int)), (6, ss.2.1)]) (fun (ss : Nat × Value × (List Hdr) × (List (List Bool))) (hh : Heap) => OwE encHd hh h.size 70 ss.2.1 ss.2.2.1 ∧ OT encB hh h.size 4 ss.2.2.1 ss.2.2.2 ∧ Ext h.size h hh ∧ (ss.1 ≤ n) ∧ (ss.2.2.2.length = ss.1) ∧ (∀ i, i < ss.1 → gt ss.2.2.2 i = rowF n fun j => decide (i = j))) (fun (ss : Nat × Value × (List Hdr) × (List (List Bool))) => n - ss.1) (0, .slice none 0 0, [], []) ⟨rfl, rfl, trivial⟩ ⟨?_, ?_, (Ext.refl _ _), ?_, ?_, ?_⟩ ?_
  · first | exact (owE_nil encHd _ h.size 70) | (simpa using (owE_nil encHd _ h.size 70))
  · first | exact (OT.nil encB _ h.size 4) | (simpa using (OT.nil encB _ h.size 4))
  · try dsimp only
    omega
  · try dsimp only
    first | done | rfl
  · try dsimp only
    intro i hi; omega
  rintro g1 ⟨x, v, hs, r⟩ hh1 ⟨ho1, hot1, hx0_1, hx, hrl, hrw⟩ IH1
  dsimp only at *
  have hl_hot1 := hot1.1
  refine wi_seq <| wi_seq <| wi_reg rfl <| lx_move (.int .i64 ((x : Nat) : Int)) rfl rfl <| lx_move (.int .i64 ((n : Nat) : Int)) rfl rfl <| lx_lssS rfl rfl rfl (fun c1 => ?_) (fun c1 => ?_)
  · refine lx_nil <| wi_true rfl <| wi_skip <| wi_seq <| wi_block <| wi_seq <| wi_reg rfl <| lx_move (.int .i64 ((n : Nat) : Int)) rfl rfl <| lx_make (E := encB) (n := n) (B := hh1.size) false rfl rfl Try.underlying70 (eZ70) rfl rfl (by omega) (by omega) (Nat.le_refl _) (fun _ _ => trivial) fun v1 h1 ho2 hx1 hvb1 => ?_
    have hx0_2 := hx0_1.trans2 hx1 hx0_1.size
    have ho3 := ho1.extS hx1
    have hot2 := hot1.extS hx1
    have ho4 := ho2.base hx0_1.size
    refine lx_assign (v1) rfl rfl <| lx_nil <| wi_seq <| wi_reg rfl <| lx_move (v1) rfl rfl <| lx_move (.int .i64 ((x : Nat) : Int)) rfl rfl <| lx_ix (i := x) rfl eT70 ho4.rd rfl rfl (by first | omega | (simp only [List.length_set, List.length_append, List.length_cons, List.length_nil, List.length_replicate, List.length_take, swp_length, exch_length]; omega)) <| lx_st (i := x) true rfl rfl Try.sizeOf4 ho4 (by first | omega | (simp only [List.length_set, List.length_append, List.length_cons, List.length_nil, List.length_replicate, List.length_take, swp_length, exch_length]; omega)) rfl rfl (fun _ _ _ _ _ => trivial) fun h2 ho5 hc1 hsz1 => ?_
    have hx0_3 := hx0_2.trans (ho4.ext hc1 hx0_2.size)
    have ho6 := ho3.chg hc1 (dj_new ho1 ho2)
    have hot3 := hot2.chg hc1 (djt_new hot1 ho2)
    have hot4 : OT encB h2 h.size 4 (hs ++ [hdrOf v1]) (r ++ [(List.replicate n false).set x true]) := OT.snoc hot3 ho5 (djt_new hot1 ho2)
    refine lx_nil <| wi_reg rfl <| lx_move (v) rfl rfl <| lx_move (v1) rfl rfl <| lx_appendL (E := encHd) (B := h.size) [hdrOf v1] [v1] rfl rfl (fun _ => rfl) rfl eT23 rfl rfl (hdr_cells1 ho5.rd) rfl ho6 (fun _ => rfl) (by show hs.length + 1 ≤ _; omega) (by show (hs.length + 1) * 24 ≤ _; omega) hx0_3.size (fun _ _ => trivial) fun u1 v2 h3 ho7 hc2 hg1 => ?_
    have hx0_4 := hx0_3.trans (ho6.ext hc2 hx0_3.size)
    have hot5 : OT encB h3 h.size 4 (hs ++ [hdrOf v1]) (r ++ [(List.replicate n false).set x true]) := hot4.chg hc2 (djt_ty hot4 ho6 (by decide))
    have hl_hot5 := hot5.1
    refine lx_assign (v2) rfl rfl <| lx_nil <| wi_inBlock <| wi_reg rfl <| lx_move (.int .i64 ((x : Nat) : Int)) rfl rfl <| lx_add (((x + 1 : Nat) : Int)) rfl rfl rfl (by omega) (by omega) (by omega) <| lx_assign (.int .i64 ((x + 1 : Nat) : Int)) rfl rfl <| lx_nil <| ?_
    -- L0.1
    refine IH1 _ _ (x + 1, v2, hs ++ [hdrOf v1], r ++ [(List.replicate n false).set x true]) (agree_ups rfl agree_self) ⟨rfl, rfl, trivial⟩ ⟨?_, ?_, hx0_4, ?_, ?_, ?_⟩ ?_
    · first | exact ho7 | (simpa using ho7)
    · first | exact hot5 | (simpa using hot5)
    · try dsimp only
      omega
    · try dsimp only
      simp [hrl]
    · try dsimp only
      intro i hi
      by_cases e : i < x
      · rw [gt_append_left (by omega)]; exact hrw i e
      · rw [show i = r.length from by omega, gt_append_right, show x = r.length from by omega]; exact id_row (by omega)
    · first | omega | (dsimp only; omega)
  · refine lx_nil <| wi_false rfl <| wi_exit rfl <| wi_seq <| wi_seq <| wi_reg rfl <| ?_
    have hrr : r = tabF n (fun x y => decide (x = y)) := tab_rows (by omega) (fun j hj => hrw j (by omega))
    have hq0 : Sq r n := by rw [hrr]; exact tabF_sq _ _
    refine lx_assign (.int .i64 0) rfl rfl <| lx_nil <| wi_block <| ?_
    refine wi_loop (σ := Nat × (List (List Bool))) (rngB 27 47 [9]) (fun (ss : Nat × (List (List Bool))) => [(9, .int .i64 ((ss.1 : Nat) : Int))]) (fun (ss : Nat × (List (List Bool))) (hh : Heap) => OwE encHd hh h.size 70 v hs ∧ OT encB hh h.size 4 hs ss.2 ∧ Ext h.size h hh ∧ (ss.1 ≤ ls.length) ∧ (Sq ss.2 n) ∧ (∀ x y, x < n → y < n → pb ss.2 x y = pairW ls ss.1 x y)) (fun (ss : Nat × (List (List Bool))) => ls.length - ss.1) (0, r) ⟨rfl, trivial⟩ ⟨?_, ?_, hx0_1, ?_, ?_, ?_⟩ ?_
    · first | exact ho1 | (simpa using ho1)
    · first | exact hot1 | (simpa using hot1)
    · try dsimp only
      omega
    · try dsimp only
      exact hq0
    · try dsimp only
      intro x y hx hy; rw [hrr, pb_tabF hx hy, pairW_zero]
    rintro g2 ⟨i, r⟩ hh2 ⟨ho8, hot6, hx0_5, hi, hq, hp⟩ IH2
    dsimp only at *
    have hq1 := hq.1
    have hl_hot6 := hot6.1
    refine wi_seq <| wi_seq <| wi_reg rfl <| lx_move (.int .i64 ((i : Nat) : Int)) rfl rfl <| lx_move (vl) rfl rfl <| lx_len rfl Try.underlying22 hr_vl rfl <| lx_lssS rfl rfl rfl (fun c2 => ?_) (fun c2 => ?_)
    · refine lx_nil <| wi_true rfl <| wi_skip <| wi_seq <| wi_block <| wi_draw mo rfl (by decide +kernel) <| ?_
      obtain ⟨h91, h92, h93, h94⟩ := inR_iff.1 (hp3 i (by omega))
      obtain ⟨a, b, hgc, ha, hb⟩ : ∃ a b : Nat, gt ls i = ((a : Int), (b : Int)) ∧ a < n ∧ b < n := ⟨(gt ls i).1.toNat, (gt ls i).2.toNat, Prod.ext (by show _ = ((_ : Nat) : Int); omega) (by show _ = ((_ : Nat) : Int); omega), by omega, by omega⟩
      refine lx_move (v) rfl rfl <| lx_move (vl) rfl rfl <| lx_move (.int .i64 ((i : Nat) : Int)) rfl rfl <| lx_ix (i := i) rfl eT22 hr_vl rfl rfl (by omega) <| lx_ixP (i := i) (c := 0) rfl Try.underlying85 Try.sizeOf3 hr_vl (by omega) rfl rfl (by decide) <| lx_ld (i := i) (j := 0) (.int .i64 ((a : Nat) : Int)) rfl rfl fl3 (hr_vl.extS hx0_5) (by omega) (by rw [hgc]; rfl) rfl <| lx_ix (i := a) rfl eT23 ho8.rd rfl rfl (by omega) <| lx_ld (i := a) (j := 0) ((gt hs a).v) rfl rfl fl70 ho8.rd (by omega) rfl rfl <| lx_move (vl) rfl rfl <| lx_move (.int .i64 ((i : Nat) : Int)) rfl rfl <| lx_ix (i := i) rfl eT22 hr_vl rfl rfl (by omega) <| lx_ixP (i := i) (c := 1) rfl Try.underlying85 Try.sizeOf3 hr_vl (by omega) rfl rfl (by decide) <| lx_ld (i := i) (j := 1) (.int .i64 ((b : Nat) : Int)) rfl rfl fl3 (hr_vl.extS hx0_5) (by omega) (by rw [hgc]; rfl) rfl <| lx_ix (i := b) rfl eT70 (hot6.2.1 a (by omega)).rd rfl rfl (by rw [hq.2 a (by omega)]; omega) <| lx_st (i := b) true rfl rfl Try.sizeOf4 (hot6.2.1 a (by omega)) (by rw [hq.2 a (by omega)]; omega) rfl rfl (fun _ _ _ _ _ => trivial) fun h4 ho9 hc3 hsz2 => ?_
      have hx0_6 := hx0_5.trans ((hot6.2.1 a (by omega)).ext hc3 hx0_5.size)
      have ho10 := ho8.chg hc3 (Dj.symm ((djt_ty hot6 ho8 (by decide)) a (by rw [hot6.1]; exact (by omega))))
      have hot7 := OT.cell hot6 (by omega) hc3 ho9
      have hl_hot7 := hot7.1
      refine lx_nil <| wi_inBlock <| wi_reg rfl <| lx_move (.int .i64 ((i : Nat) : Int)) rfl rfl <| lx_add (((i + 1 : Nat) : Int)) rfl rfl rfl (by omega) (by omega) (by omega) <| lx_assign (.int .i64 ((i + 1 : Nat) : Int)) rfl rfl <| lx_nil <| ?_
      -- L2.1
      refine IH2 _ _ (i + 1, r.set a ((gt r a).set b true)) (agree_ups rfl agree_self) ⟨rfl, trivial⟩ ⟨?_, ?_, hx0_6, ?_, ?_, ?_⟩ ?_
      · first | exact ho10 | (simpa using ho10)
      · first | exact hot7 | (simpa using hot7)
      · try dsimp only
        omega
      · try dsimp only
        exact sq_set hq (by omega)
      · try dsimp only
        exact pairW_step (by omega) hq ha hb hgc hp
      · first | omega | (dsimp only; omega)
    · refine lx_nil <| wi_false rfl <| wi_exit rfl <| wi_seq <| wi_seq <| wi_reg rfl <| lx_assign (.int .i64 0) rfl rfl <| lx_nil <| wi_block <| ?_
      refine wi_loop (σ := Nat × (List (List Bool))) (rngB 47 93 [10, 11, 12]) (fun (ss : Nat × (List (List Bool))) => [(10, .int .i64 ((ss.1 : Nat) : Int))]) (fun (ss : Nat × (List (List Bool))) (hh : Heap) => OwE encHd hh h.size 70 v hs ∧ OT encB hh h.size 4 hs ss.2 ∧ Ext h.size h hh ∧ (ss.1 ≤ n) ∧ (Sq ss.2 n) ∧ (∀ a c, a < n → c < n → pb ss.2 a c = warN (pairW ls ls.length) ss.1 a c)) (fun (ss : Nat × (List (List Bool))) => n - ss.1) (0, r) ⟨rfl, trivial⟩ ⟨?_, ?_, hx0_5, ?_, ?_, ?_⟩ ?_
      · first | exact ho8 | (simpa using ho8)
      · first | exact hot6 | (simpa using hot6)
      · try dsimp only
        omega
      · try dsimp only
        exact hq
      · try dsimp only
        rw [show ls.length = i from by omega]; exact hp
      rintro g3 ⟨y, r⟩ hh3 ⟨ho11, hot8, hx0_7, hy, hq, hr⟩ IH3
      dsimp only at *
      have hq1 := hq.1
      have hl_hot8 := hot8.1
      refine wi_seq <| wi_seq <| wi_reg rfl <| lx_move (.int .i64 ((y : Nat) : Int)) rfl rfl <| lx_move (.int .i64 ((n : Nat) : Int)) rfl rfl <| lx_lssS rfl rfl rfl (fun c3 => ?_) (fun c3 => ?_)
      · refine lx_nil <| wi_true rfl <| wi_skip <| wi_seq <| wi_block <| wi_seq <| wi_reg rfl <| lx_assign (.int .i64 0) rfl rfl <| lx_nil <| wi_block <| ?_
        refine wi_loop (σ := Nat × (List (List Bool))) (rngB 52 93 [11, 12]) (fun (ss : Nat × (List (List Bool))) => [(11, .int .i64 ((ss.1 : Nat) : Int))]) (fun (ss : Nat × (List (List Bool))) (hh : Heap) => OwE encHd hh h.size 70 v hs ∧ OT encB hh h.size 4 hs ss.2 ∧ Ext h.size h hh ∧ (ss.1 ≤ n) ∧ (Sq ss.2 n) ∧ (∀ a c, a < n → c < n → pb ss.2 a c = warS (warN (pairW ls ls.length) y) y ss.1 0 a c)) (fun (ss : Nat × (List (List Bool))) => n - ss.1) (0, r) ⟨rfl, trivial⟩ ⟨?_, ?_, hx0_7, ?_, ?_, ?_⟩ ?_
        · first | exact ho11 | (simpa using ho11)
        · first | exact hot8 | (simpa using hot8)
        · try dsimp only
          omega
        · try dsimp only
          exact hq
        · try dsimp only
          intro a c ha hc; rw [warS_zero]; exact hr a c ha hc
        rintro g4 ⟨x, r⟩ hh4 ⟨ho12, hot9, hx0_8, hx, hq, hr⟩ IH4
        dsimp only at *
        have hq1 := hq.1
        have hl_hot9 := hot9.1
        refine wi_seq <| wi_seq <| wi_reg rfl <| lx_move (.int .i64 ((x : Nat) : Int)) rfl rfl <| lx_move (.int .i64 ((n : Nat) : Int)) rfl rfl <| lx_lssS rfl rfl rfl (fun c4 => ?_) (fun c4 => ?_)
        · refine lx_nil <| wi_true rfl <| wi_skip <| wi_seq <| wi_block <| wi_seq <| wi_reg rfl <| lx_assign (.int .i64 0) rfl rfl <| lx_nil <| wi_block <| ?_
          refine wi_loop (σ := Nat × (List (List Bool))) (rngB 57 93 [12]) (fun (ss : Nat × (List (List Bool))) => [(12, .int .i64 ((ss.1 : Nat) : Int))]) (fun (ss : Nat × (List (List Bool))) (hh : Heap) => OwE encHd hh h.size 70 v hs ∧ OT encB hh h.size 4 hs ss.2 ∧ Ext h.size h hh ∧ (ss.1 ≤ n) ∧ (Sq ss.2 n) ∧ (∀ a c, a < n → c < n → pb ss.2 a c = warS (warN (pairW ls ls.length) y) y x ss.1 a c)) (fun (ss : Nat × (List (List Bool))) => n - ss.1) (0, r) ⟨rfl, trivial⟩ ⟨?_, ?_, hx0_8, ?_, ?_, ?_⟩ ?_
          · first | exact ho12 | (simpa using ho12)
          · first | exact hot9 | (simpa using hot9)
          · try dsimp only
            omega
          · try dsimp only
            exact hq
          · try dsimp only
            exact hr
          rintro g5 ⟨z, r⟩ hh5 ⟨ho13, hot10, hx0_9, hz, hq, hr⟩ IH5
          dsimp only at *
          have hq1 := hq.1
          have hl_hot10 := hot10.1
          refine wi_seq <| wi_seq <| wi_reg rfl <| lx_move (.int .i64 ((z : Nat) : Int)) rfl rfl <| lx_move (.int .i64 ((n : Nat) : Int)) rfl rfl <| lx_lssS rfl rfl rfl (fun c5 => ?_) (fun c5 => ?_)
          · refine lx_nil <| wi_true rfl <| wi_skip <| wi_seq <| wi_block <| wi_draw mo rfl (by decide +kernel) <| lx_move (v) rfl rfl <| lx_move (.int .i64 ((x : Nat) : Int)) rfl rfl <| lx_ix (i := x) rfl eT23 ho13.rd rfl rfl (by omega) <| lx_ld (i := x) (j := 0) ((gt hs x).v) rfl rfl fl70 ho13.rd (by omega) rfl rfl <| lx_move (.int .i64 ((z : Nat) : Int)) rfl rfl <| lx_move (v) rfl rfl <| lx_move (.int .i64 ((x : Nat) : Int)) rfl rfl <| lx_ix (i := x) rfl eT23 ho13.rd rfl rfl (by omega) <| lx_ld (i := x) (j := 0) ((gt hs x).v) rfl rfl fl70 ho13.rd (by omega) rfl rfl <| lx_move (.int .i64 ((z : Nat) : Int)) rfl rfl <| lx_ix (i := z) rfl eT70 (hot10.2.1 x (by omega)).rd rfl rfl (by rw [hq.2 x (by omega)]; omega) <| lx_ld (i := z) (j := 0) (.bool (gt (gt r x) z)) rfl rfl fl4 (hot10.2.1 x (by omega)).rd (by rw [hq.2 x (by omega)]; omega) rfl rfl <| lx_move (.bool (gt (gt r x) z)) rfl rfl <| ?_
            cases c6 : (gt (gt r x) z)
            · refine lx_move (v) rfl rfl <| lx_move (.int .i64 ((x : Nat) : Int)) rfl rfl <| lx_ix (i := x) rfl eT23 ho13.rd rfl rfl (by omega) <| lx_ld (i := x) (j := 0) ((gt hs x).v) rfl rfl fl70 ho13.rd (by omega) rfl rfl <| lx_move (.int .i64 ((y : Nat) : Int)) rfl rfl <| lx_ix (i := y) rfl eT70 (hot10.2.1 x (by omega)).rd rfl rfl (by rw [hq.2 x (by omega)]; omega) <| lx_ld (i := y) (j := 0) (.bool (gt (gt r x) y)) rfl rfl fl4 (hot10.2.1 x (by omega)).rd (by rw [hq.2 x (by omega)]; omega) rfl rfl <| lx_move (.bool (gt (gt r x) y)) rfl rfl <| ?_
              cases c7 : (gt (gt r x) y)
              · refine lx_skip rfl <| lx_skip rfl <| lx_skip rfl <| lx_skip rfl <| lx_skip rfl <| lx_skip rfl <| lx_skip rfl <| lx_pick false (.bool false) rfl rfl rfl <| lx_pick false (.bool false) rfl rfl rfl <| lx_ix (i := z) rfl eT70 (hot10.2.1 x (by omega)).rd rfl rfl (by rw [hq.2 x (by omega)]; omega) <| lx_st (i := z) false rfl rfl Try.sizeOf4 (hot10.2.1 x (by omega)) (by rw [hq.2 x (by omega)]; omega) rfl rfl (fun _ _ _ _ _ => trivial) fun h5 ho14 hc4 hsz3 => ?_
                have hx0_10 := hx0_9.trans ((hot10.2.1 x (by omega)).ext hc4 hx0_9.size)
                have ho15 := ho13.chg hc4 (Dj.symm ((djt_ty hot10 ho13 (by decide)) x (by rw [hot10.1]; exact (by omega))))
                have hot11 := OT.cell hot10 (by omega) hc4 ho14
                have hl_hot11 := hot11.1
                refine lx_nil <| wi_inBlock <| wi_reg rfl <| lx_move (.int .i64 ((z : Nat) : Int)) rfl rfl <| lx_add (((z + 1 : Nat) : Int)) rfl rfl rfl (by omega) (by omega) (by omega) <| lx_assign (.int .i64 ((z + 1 : Nat) : Int)) rfl rfl <| lx_nil <| ?_
                -- L8.1
                refine IH5 _ _ (z + 1, r.set x ((gt r x).set z false)) (agree_ups rfl agree_self) ⟨rfl, trivial⟩ ⟨?_, ?_, hx0_10, ?_, ?_, ?_⟩ ?_
                · first | exact ho15 | (simpa using ho15)
                · first | exact hot11 | (simpa using hot11)
                · try dsimp only
                  omega
                · try dsimp only
                  exact sq_set hq (by omega)
                · try dsimp only
                  exact warS_step hq (by omega) (by omega) hr (by rw [warS_val (r := r) (by omega) (by omega) (by omega) hr]; first | exact or_t (by with_reducible assumption) | exact or_f (by with_reducible assumption) (by with_reducible assumption) | exact or_v (by with_reducible assumption) (by with_reducible assumption))
                · first | omega | (dsimp only; omega)
              · refine lx_move (v) rfl rfl <| lx_move (.int .i64 ((y : Nat) : Int)) rfl rfl <| lx_ix (i := y) rfl eT23 ho13.rd rfl rfl (by omega) <| lx_ld (i := y) (j := 0) ((gt hs y).v) rfl rfl fl70 ho13.rd (by omega) rfl rfl <| lx_move (.int .i64 ((z : Nat) : Int)) rfl rfl <| lx_ix (i := z) rfl eT70 (hot10.2.1 y (by omega)).rd rfl rfl (by rw [hq.2 y (by omega)]; omega) <| lx_ld (i := z) (j := 0) (.bool (gt (gt r y) z)) rfl rfl fl4 (hot10.2.1 y (by omega)).rd (by rw [hq.2 y (by omega)]; omega) rfl rfl <| lx_pick true (.bool (gt (gt r y) z)) rfl rfl rfl <| lx_pick false (.bool (gt (gt r y) z)) rfl rfl rfl <| lx_ix (i := z) rfl eT70 (hot10.2.1 x (by omega)).rd rfl rfl (by rw [hq.2 x (by omega)]; omega) <| lx_st (i := z) (gt (gt r y) z) rfl rfl Try.sizeOf4 (hot10.2.1 x (by omega)) (by rw [hq.2 x (by omega)]; omega) rfl rfl (fun _ _ _ _ _ => trivial) fun h6 ho16 hc5 hsz4 => ?_
                have hx0_11 := hx0_9.trans ((hot10.2.1 x (by omega)).ext hc5 hx0_9.size)
                have ho17 := ho13.chg hc5 (Dj.symm ((djt_ty hot10 ho13 (by decide)) x (by rw [hot10.1]; exact (by omega))))
                have hot12 := OT.cell hot10 (by omega) hc5 ho16
                have hl_hot12 := hot12.1
                refine lx_nil <| wi_inBlock <| wi_reg rfl <| lx_move (.int .i64 ((z : Nat) : Int)) rfl rfl <| lx_add (((z + 1 : Nat) : Int)) rfl rfl rfl (by omega) (by omega) (by omega) <| lx_assign (.int .i64 ((z + 1 : Nat) : Int)) rfl rfl <| lx_nil <| ?_
                -- L8.2
                refine IH5 _ _ (z + 1, r.set x ((gt r x).set z (gt (gt r y) z))) (agree_ups rfl agree_self) ⟨rfl, trivial⟩ ⟨?_, ?_, hx0_11, ?_, ?_, ?_⟩ ?_
                · first | exact ho17 | (simpa using ho17)
                · first | exact hot12 | (simpa using hot12)
                · try dsimp only
                  omega
                · try dsimp only
                  exact sq_set hq (by omega)
                · try dsimp only
                  exact warS_step hq (by omega) (by omega) hr (by rw [warS_val (r := r) (by omega) (by omega) (by omega) hr]; first | exact or_t (by with_reducible assumption) | exact or_f (by with_reducible assumption) (by with_reducible assumption) | exact or_v (by with_reducible assumption) (by with_reducible assumption))
                · first | omega | (dsimp only; omega)
            · refine lx_skip rfl <| lx_skip rfl <| lx_skip rfl <| lx_skip rfl <| lx_skip rfl <| lx_skip rfl <| lx_skip rfl <| lx_skip rfl <| lx_skip rfl <| lx_skip rfl <| lx_skip rfl <| lx_skip rfl <| lx_skip rfl <| lx_skip rfl <| lx_skip rfl <| lx_skip rfl <| lx_pick true (.bool true) rfl rfl rfl <| lx_ix (i := z) rfl eT70 (hot10.2.1 x (by omega)).rd rfl rfl (by rw [hq.2 x (by omega)]; omega) <| lx_st (i := z) true rfl rfl Try.sizeOf4 (hot10.2.1 x (by omega)) (by rw [hq.2 x (by omega)]; omega) rfl rfl (fun _ _ _ _ _ => trivial) fun h7 ho18 hc6 hsz5 => ?_
              have hx0_12 := hx0_9.trans ((hot10.2.1 x (by omega)).ext hc6 hx0_9.size)
              have ho19 := ho13.chg hc6 (Dj.symm ((djt_ty hot10 ho13 (by decide)) x (by rw [hot10.1]; exact (by omega))))
              have hot13 := OT.cell hot10 (by omega) hc6 ho18
              have hl_hot13 := hot13.1
              refine lx_nil <| wi_inBlock <| wi_reg rfl <| lx_move (.int .i64 ((z : Nat) : Int)) rfl rfl <| lx_add (((z + 1 : Nat) : Int)) rfl rfl rfl (by omega) (by omega) (by omega) <| lx_assign (.int .i64 ((z + 1 : Nat) : Int)) rfl rfl <| lx_nil <| ?_
              -- L8.3
              refine IH5 _ _ (z + 1, r.set x ((gt r x).set z true)) (agree_ups rfl agree_self) ⟨rfl, trivial⟩ ⟨?_, ?_, hx0_12, ?_, ?_, ?_⟩ ?_
              · first | exact ho19 | (simpa using ho19)
              · first | exact hot13 | (simpa using hot13)
              · try dsimp only
                omega
              · try dsimp only
                exact sq_set hq (by omega)
              · try dsimp only
                exact warS_step hq (by omega) (by omega) hr (by rw [warS_val (r := r) (by omega) (by omega) (by omega) hr]; first | exact or_t (by with_reducible assumption) | exact or_f (by with_reducible assumption) (by with_reducible assumption) | exact or_v (by with_reducible assumption) (by with_reducible assumption))
              · first | omega | (dsimp only; omega)
          · refine lx_nil <| wi_false rfl <| wi_exit rfl <| wi_inBlock <| wi_reg rfl <| lx_move (.int .i64 ((x : Nat) : Int)) rfl rfl <| lx_add (((x + 1 : Nat) : Int)) rfl rfl rfl (by omega) (by omega) (by omega) <| lx_assign (.int .i64 ((x + 1 : Nat) : Int)) rfl rfl <| lx_nil <| ?_
            -- L6.1
            refine IH4 _ _ (x + 1, r) (agree_ups rfl (agree_mix (rngB_sub (by decide) (by decide) rfl) (agree_ups rfl agree_self))) ⟨rfl, trivial⟩ ⟨?_, ?_, hx0_9, ?_, ?_, ?_⟩ ?_
            · first | exact ho13 | (simpa using ho13)
            · first | exact hot10 | (simpa using hot10)
            · try dsimp only
              omega
            · try dsimp only
              exact hq
            · try dsimp only
              intro a c ha hc; rw [hr a c ha hc, show z = n from by omega]; exact warS_next _ hc
            · first | omega | (dsimp only; omega)
        · refine lx_nil <| wi_false rfl <| wi_exit rfl <| wi_inBlock <| wi_reg rfl <| lx_move (.int .i64 ((y : Nat) : Int)) rfl rfl <| lx_add (((y + 1 : Nat) : Int)) rfl rfl rfl (by omega) (by omega) (by omega) <| lx_assign (.int .i64 ((y + 1 : Nat) : Int)) rfl rfl <| lx_nil <| ?_
          -- L4.1
          refine IH3 _ _ (y + 1, r) (agree_ups rfl (agree_mix (rngB_sub (by decide) (by decide) rfl) (agree_ups rfl agree_self))) ⟨rfl, trivial⟩ ⟨?_, ?_, hx0_8, ?_, ?_, ?_⟩ ?_
          · first | exact ho12 | (simpa using ho12)
          · first | exact hot9 | (simpa using hot9)
          · try dsimp only
            omega
          · try dsimp only
            exact hq
          · try dsimp only
            intro a c ha hc; rw [hr a c ha hc, show x = n from by omega]; exact warS_end _ ha
          · first | omega | (dsimp only; omega)
      · refine lx_nil <| wi_false rfl <| wi_exit rfl <| wi_seq <| wi_reg rfl <| ?_
        have hrt : r = tabF n (closW n ls) := tab_ext hq (fun a c ha hc => by rw [hr a c ha hc, show y = n from by omega]; rfl)
        refine lx_move (v) rfl rfl <| lx_move (v) rfl rfl <| lx_call [v] rfl rfl Try.call112 rfl (risorder_spec hh3 v hs r ho11.rd hot8.rt (by omega) (fun i hi => by rw [hq.2 i (by rw [← hq.1]; exact hi)]; omega)) (fun _ _ _ => trivial) ?_
        rintro _ h8 ⟨rfl, rfl⟩
        have hit : isT r = ordB n (closW n ls) := isT_tab hrt
        rw [hit]
        refine lx_assign (v) rfl rfl <| lx_assign (.bool (ordB n (closW n ls))) rfl rfl <| lx_nil <| ?_
        -- R1
        refine wi_ret ⟨.tuple #[v, .bool (ordB n (closW n ls))], (res_two rfl rfl rfl), ⟨v, hs, rfl, ?_, ?_, hx0_7⟩⟩
        · exact ho11
        · rw [← hrt]; exact hot8

end Go.Proofs.Ytdokijbdnajhgaa
namespace Go.X
def isLo (n : Nat) (f : Nat → Nat → Bool) (m : Nat) : Prop := m < n ∧ ∀ q, q < n → f m q = true
theorem lo_uniq {n a b : Nat} {f : Nat → Nat → Bool} (ho : IsO n f) (ha : isLo n f a) (hb : isLo n f b) : a = b := ho.anti ha.1 hb.1 (ha.2 b hb.1) (hb.2 a ha.1)
theorem lo_ex {n : Nat} {f : Nat → Nat → Bool} (ho : IsO n f) (hg : noGap n f) (hn : 1 ≤ n) : ∃ m, isLo n f m := by
  have : ∀ k, k ≤ n → ∃ m, m < n ∧ ∀ q, q < k → f m q = true := by
    intro k
    induction k with
    | zero => intro _; exact ⟨0, by omega, fun q hq => by omega⟩
    | succ k ih =>
      intro hk
      obtain ⟨m, h1, h2⟩ := ih (by omega)
      obtain ⟨_, h3, h4, h5, _⟩ := mN_at ho hg h1 (show k < n by omega)
      refine ⟨mN n f m k, h3, fun q hq => ?_⟩
      by_cases e : q = k
      · subst e; exact h5
      · exact ho.trans h3 h1 (by omega) h4 (h2 q (by omega))
  obtain ⟨m, h1, h2⟩ := this n (Nat.le_refl n)
  exact ⟨m, h1, h2⟩
/-- The bound of all elements. -/
theorem bnd_all {n : Nat} {F : Nat → Nat} {m : Nat} (hm : m < n) (h : ∀ q, q < n → (F m).testBit q = true) (hu : ∀ z, z < n → (∀ q, q < n → (F z).testBit q = true) → z = m) : firstF n (bndB F (2 ^ n - 1)) = (m : Int) := by
  have key : ∀ z, z < n → (bndB F (2 ^ n - 1) z = true ↔ z = m) := fun z hz => by
    unfold bndB
    rw [Bool.and_eq_true, Nat.testBit_two_pow_sub_one, decide_eq_true_iff, incl_iff]
    constructor
    · rintro ⟨_, h2⟩
      exact hu z hz fun q hq => h2 q (by rw [Nat.testBit_two_pow_sub_one]; exact decide_eq_true hq)
    · rintro rfl
      exact ⟨hz, fun q hq => h q (by rw [Nat.testBit_two_pow_sub_one, decide_eq_true_iff] at hq; exact hq)⟩
  refine firstF_some hm ((key m hm).2 rfl) fun i hi => ?_
  cases c : bndB F (2 ^ n - 1) i
  · rfl
  · have := (key i (by omega)).1 c; omega
def loN (n : Nat) (f : Nat → Nat → Bool) : Nat := (firstF n (bndB (upF n f) (2 ^ n - 1))).toNat
theorem lo_at {n : Nat} {f : Nat → Nat → Bool} (ho : IsO n f) (hg : noGap n f) (hn : 1 ≤ n) : firstF n (bndB (upF n f) (2 ^ n - 1)) = (loN n f : Int) ∧ isLo n f (loN n f) := by
  obtain ⟨m, hm⟩ := lo_ex ho hg hn
  have : firstF n (bndB (upF n f) (2 ^ n - 1)) = (m : Int) := bnd_all hm.1 (fun q hq => by rw [upF_bit, decide_eq_true hq, hm.2 q hq]; rfl) fun z hz h => lo_uniq ho ⟨hz, fun q hq => by have := h q hq; rw [upF_bit, decide_eq_true hq] at this; simpa using this⟩ hm
  have e : loN n f = m := by unfold loN; rw [this]; rfl
  rw [e]
  exact ⟨this, hm⟩
end Go.X
namespace Go.Proofs.Ytdokijbdnajhgaa
open Go Go.X

end Go.Proofs.Ytdokijbdnajhgaa
namespace Go.X
end Go.X
namespace Go.X
/-- Strictly below. -/
def blw (f : Nat → Nat → Bool) (x y : Nat) : Bool := decide (x ≠ y) && f x y
theorem blw_iff {f : Nat → Nat → Bool} {x y : Nat} : blw f x y = true ↔ x ≠ y ∧ f x y = true := by unfold blw; rw [Bool.and_eq_true, decide_eq_true_iff]
def euA (n : Nat) (f : Nat → Nat → Bool) : Nat → Nat → Int
  | 0, _ => 0
  | k + 1, y => 1 - sumI n fun x => if blw f x y then euA n f k x else 0
theorem euA_stable {n : Nat} {f : Nat → Nat → Bool} (ho : IsO n f) : ∀ (k l : Nat) {y : Nat}, y < n → cntD n f y ≤ k → cntD n f y ≤ l → euA n f k y = euA n f l y
  | 0, _, y, hy, h1, _ => absurd (cntD_pos ho hy) (by omega)
  | _ + 1, 0, y, hy, _, h2 => absurd (cntD_pos ho hy) (by omega)
  | k + 1, l + 1, y, hy, h1, h2 => by
    unfold euA
    congr 1
    refine sumI_congr fun z hz => ?_
    cases hb : blw f z y
    · rfl
    · rw [if_pos rfl, if_pos rfl]
      obtain ⟨h3, h4⟩ := blw_iff.1 hb
      have := cntD_lt ho hz hy h4 h3
      exact euA_stable ho k l hz (by omega) (by omega)
/-- Of all chains that end with an element: those of odd length less those of even length. -/
def euF (n : Nat) (f : Nat → Nat → Bool) (y : Nat) : Int := euA n f (n + 1) y
theorem euF_eq {n : Nat} {f : Nat → Nat → Bool} (ho : IsO n f) {y : Nat} (hy : y < n) : euF n f y = 1 - sumI n fun x => if blw f x y then euF n f x else 0 := by
  rw [show euF n f y = euA n f (n + 1) y from rfl, euA]
  congr 1
  refine sumI_congr fun z hz => ?_
  cases hb : blw f z y
  · rfl
  · rw [if_pos rfl, if_pos rfl]
    obtain ⟨h3, h4⟩ := blw_iff.1 hb
    have h1 := cntD_lt ho hz hy h4 h3
    have h2 := cntD_le n f y
    exact euA_stable ho n (n + 1) hz (by omega) (by omega)
theorem euA_bound {n : Nat} {f : Nat → Nat → Bool} : ∀ (k y : Nat), -(((n + 1) ^ k : Nat) : Int) ≤ euA n f k y ∧ euA n f k y ≤ (((n + 1) ^ k : Nat) : Int)
  | 0, y => by simp [euA]
  | k + 1, y => by
    have hp0 : 0 < (n + 1) ^ k := Nat.pow_pos (by omega)
    unfold euA
    have h := sumI_bound (B := (((n + 1) ^ k : Nat) : Int)) (by omega) (n := n) (g := fun x => if blw f x y then euA n f k x else 0) fun i _ => by
      skip
      split
      · exact euA_bound k i
      · omega
    have e : ((n : Nat) : Int) * (((n + 1) ^ k : Nat) : Int) + (((n + 1) ^ k : Nat) : Int) = (((n + 1) ^ (k + 1) : Nat) : Int) := by
      rw [Nat.pow_succ, Nat.mul_add, Nat.mul_one, Nat.mul_comm ((n + 1) ^ k) n]
      push_cast
      rfl
    omega
theorem euF_bound {n : Nat} {f : Nat → Nat → Bool} (hn : n ≤ 12) (y : Nat) : -302875106592253 ≤ euF n f y ∧ euF n f y ≤ 302875106592253 := by
  have h := euA_bound (n := n) (f := f) (n + 1) y
  have h1 : (n + 1) ^ (n + 1) ≤ 13 ^ 13 := Nat.le_trans (Nat.pow_le_pow_left (by omega) _) (Nat.pow_le_pow_right (by omega) (by omega))
  have h2 : (13 : Nat) ^ 13 = 302875106592253 := by decide
  unfold euF
  omega
/-- The characteristic. -/
def eulN (n : Nat) (f : Nat → Nat → Bool) : Int := sumI n (euF n f)
/-- What there is when the first 'k' of the list have come. -/
def erow (n : Nat) (f : Nat → Nat → Bool) (xs : List Int) (k : Nat) : List Int := mapR n fun y => if dnK xs k y then euF n f y else 0
def esum (n : Nat) (f : Nat → Nat → Bool) (xs : List Int) (k : Nat) : Int := sumI n fun y => if dnK xs k y then euF n f y else 0
theorem erow_len (n : Nat) (f : Nat → Nat → Bool) (xs : List Int) (k : Nat) : (erow n f xs k).length = n := mapR_len n _
theorem erow_zero (n : Nat) (f : Nat → Nat → Bool) (xs : List Int) : List.replicate n (0 : Int) = erow n f xs 0 := by
  rw [rep_mapR]
  exact mapR_congr fun j _ => by rw [dnK_zero]; rfl
theorem esum_zero (n : Nat) (f : Nat → Nat → Bool) (xs : List Int) : esum n f xs 0 = 0 := sumI_zero fun i _ => by rw [dnK_zero]; rfl
theorem esum_all {n : Nat} {f : Nat → Nat → Bool} {xs : List Int} (hL : LinL n f xs) : esum n f xs n = eulN n f := sumI_congr fun i hi => by rw [dnK_all hL hi]; rfl
theorem erow_bound {n k : Nat} {f : Nat → Nat → Bool} {xs : List Int} (hn : n ≤ 12) {z : Nat} (hz : z < n) : -302875106592253 ≤ gt (erow n f xs k) z ∧ gt (erow n f xs k) z ≤ 302875106592253 := by
  unfold erow
  rw [gt_mapR hz]
  have := euF_bound (f := f) hn z
  split
  · exact this
  · omega
theorem esum_bound {n k : Nat} {f : Nat → Nat → Bool} {xs : List Int} (hn : n ≤ 12) : -3634501279107036 ≤ esum n f xs k ∧ esum n f xs k ≤ 3634501279107036 := by
  have h := sumI_bound (B := 302875106592253) (by decide) (n := n) (g := fun y => if dnK xs k y then euF n f y else 0) fun i _ => by
    have := euF_bound (f := f) hn i
    skip
    split
    · exact this
    · omega
  have h2 : ((n : Nat) : Int) * 302875106592253 ≤ 12 * 302875106592253 := Int.mul_le_mul_of_nonneg_right (by omega) (by decide)
  unfold esum
  omega
/-- What the inner loop has, of the elements before 'j'. -/
def epart (f : Nat → Nat → Bool) (es : List Int) (b j : Nat) : Int := 1 - sumI j fun x => if blw f x b then gt es x else 0
theorem epart_zero (f : Nat → Nat → Bool) (es : List Int) (b : Nat) : epart f es b 0 = 1 := by unfold epart sumI; rfl
theorem epart_yes {f : Nat → Nat → Bool} {es : List Int} {b j : Nat} (h : blw f j b = true) : epart f es b (j + 1) = epart f es b j - gt es j := by unfold epart; rw [sumI, if_pos h]; omega
theorem epart_no {f : Nat → Nat → Bool} {es : List Int} {b j : Nat} (h : blw f j b = false) : epart f es b (j + 1) = epart f es b j := by unfold epart; rw [sumI, if_neg (by rw [h]; simp)]; omega
theorem epart_bound {n k b j : Nat} {f : Nat → Nat → Bool} {xs : List Int} (hn : n ≤ 12) (hj : j ≤ n) : -3634501279107037 ≤ epart f (erow n f xs k) b j ∧ epart f (erow n f xs k) b j ≤ 3634501279107037 := by
  have h := sumI_bound (B := 302875106592253) (by decide) (n := j) (g := fun x => if blw f x b then gt (erow n f xs k) x else 0) fun i hi => by
    have := erow_bound (f := f) (xs := xs) (k := k) hn (show i < n by omega)
    skip
    split
    · exact this
    · omega
  have h2 : ((j : Nat) : Int) * 302875106592253 ≤ 12 * 302875106592253 := Int.mul_le_mul_of_nonneg_right (by omega) (by decide)
  unfold epart
  omega
theorem epart_all {n k b : Nat} {f : Nat → Nat → Bool} {xs : List Int} (ho : IsO n f) (hL : LinL n f xs) (hk : k < n) (hb : gt xs k = (b : Int)) (hbn : b < n) : epart f (erow n f xs k) b n = euF n f b := by
  rw [euF_eq ho hbn]
  unfold epart
  congr 1
  refine sumI_congr fun x hx => ?_
  cases h : blw f x b
  · rfl
  · obtain ⟨h1, h2⟩ := blw_iff.1 h
    rw [if_pos rfl, if_pos rfl]
    unfold erow
    rw [gt_mapR hx, dnK_below hL hk hb hx h2 h1]; rfl
theorem erow_set {n k b : Nat} {f : Nat → Nat → Bool} {xs : List Int} (hb : gt xs k = (b : Int)) (hbn : b < n) : (erow n f xs k).set b (euF n f b) = erow n f xs (k + 1) := by
  unfold erow
  rw [mapR_set hbn]
  refine mapR_congr fun j _ => ?_
  rw [dnK_succ hb]
  by_cases e : j = b
  · subst e; rw [if_pos rfl, decide_eq_true rfl, Bool.or_true]; rfl
  · rw [if_neg e, decide_eq_false e, Bool.or_false]
theorem esum_succ {n k b : Nat} {f : Nat → Nat → Bool} {xs : List Int} (hL : LinL n f xs) (hk : k < n) (hb : gt xs k = (b : Int)) (hbn : b < n) : esum n f xs (k + 1) = esum n f xs k + euF n f b := by
  have h1 : sumI n (fun y => if y = b then euF n f b else 0) = euF n f b := by
    rw [sumI_one (k := b) hbn fun i _ hne => if_neg hne, if_pos rfl]
  rw [← h1]
  unfold esum
  rw [← sumI_add]
  refine sumI_congr fun y hy => ?_
  rw [dnK_succ hb]
  by_cases e : y = b
  · subst e; rw [dnK_not hL hk hb, decide_eq_true rfl]; simp
  · rw [decide_eq_false e, Bool.or_false, if_neg e]; omega
end Go.X
namespace Go.X
/-- An order in which any two have a least bound above and a greatest one below has no gap. -/
theorem ng_of {m : Nat} {h : Nat → Nat → Bool} (ho : IsO m h) (hj : ∀ i j, i < m → j < m → ∃ z, z < m ∧ h i z = true ∧ h j z = true ∧ ∀ w, w < m → h i w = true → h j w = true → h z w = true)
    (hm : ∀ i j, i < m → j < m → ∃ z, z < m ∧ h z i = true ∧ h z j = true ∧ ∀ w, w < m → h w i = true → h w j = true → h w z = true) : noGap m h := fun i j hij hjm => by
  obtain ⟨z, z1, z2, z3, z4⟩ := hj i j (by omega) hjm
  obtain ⟨y, y1, y2, y3, y4⟩ := hm i j (by omega) hjm
  unfold gapB
  rw [join_is ho z1 z2 z3 z4, show meetF m h i j = (y : Int) from join_is (flip_o ho) y1 y2 y3 y4, decide_eq_false (by omega), decide_eq_false (by omega)]; rfl
/-! ### The completion -/
section
variable {n : Nat} {f : Nat → Nat → Bool}
theorem incl_anti {a b : Nat} (h : incl a b = true) (k : incl b a = true) : a = b := Nat.eq_of_testBit_eq fun q => by
  rw [Bool.eq_iff_iff]; exact ⟨incl_iff.1 h q, incl_iff.1 k q⟩
theorem dn_incl (ho : IsO n f) {x y : Nat} (hx : x < n) (hy : y < n) : incl (dnF n f x) (dnF n f y) = f x y := by
  rw [Bool.eq_iff_iff, incl_iff]
  constructor
  · intro h
    have := h x (by rw [dnF_bit, decide_eq_true hx, ho.refl hx]; rfl)
    rw [dnF_bit, Bool.and_eq_true] at this; exact this.2
  · intro h q hq
    rw [dnF_bit, Bool.and_eq_true, decide_eq_true_iff] at *
    exact ⟨hq.1, ho.trans hq.1 hx hy hq.2 h⟩
theorem dn_inj (ho : IsO n f) {x y : Nat} (hx : x < n) (hy : y < n) (h : dnF n f x = dnF n f y) : x = y := by
  refine ho.anti hx hy ?_ ?_
  · rw [← dn_incl ho hx hy, h, incl_iff]; exact fun _ k => k
  · rw [← dn_incl ho hy hx, h, incl_iff]; exact fun _ k => k
end
/-! ### Fixed elements -/
section
variable {n : Nat} {f : Nat → Nat → Bool} {g : Nat → Nat} (ho : IsO n f) (hg : noGap n f) (hn : 1 ≤ n) (hr : ∀ x, x < n → g x < n) (hm : ∀ x y, x < n → y < n → f x y = true → f (g x) (g y) = true)
include ho hg hn hr hm
end
/-- The order of some elements of an order. -/
def subF (f : Nat → Nat → Bool) (zs : List Int) (i j : Nat) : Bool := f (gt zs i).toNat (gt zs j).toNat
end Go.X
namespace Go.X
/-- A permutation of the numbers below 'n'. -/
structure PermN (n : Nat) (σ : Nat → Nat) : Prop where
  rng : ∀ k, k < n → σ k < n
  inj : ∀ k l, k < n → l < n → σ k = σ l → k = l
  sur : ∀ x, x < n → ∃ k, k < n ∧ σ k = x
section
variable {n : Nat} {σ : Nat → Nat} (hp : PermN n σ)
include hp
theorem sumI_perm (h : Nat → Int) : sumI n (fun k => h (σ k)) = sumI n h := by
  have e1 : sumI n h = sumI n (fun y => sumI n fun k => if σ k = y then h y else 0) := sumI_congr fun y hy => by
    obtain ⟨k, hk, e⟩ := hp.sur y hy
    rw [sumI_one (k := k) hk fun i hi hne => if_neg fun e2 => hne (hp.inj i k hi hk (by rw [e2, e])), if_pos e]
  rw [e1, sumI_swap]
  refine sumI_congr fun k hk => ?_
  rw [sumI_one (k := σ k) (hp.rng k hk) fun i hi hne => if_neg (Ne.symm hne), if_pos rfl]
variable {f : Nat → Nat → Bool}
theorem iso_o (ho : IsO n f) : IsO n fun k l => f (σ k) (σ l) :=
  isO_mk (fun x hx => ho.refl (hp.rng x hx)) (fun x y hx hy a b => hp.inj x y hx hy (ho.anti (hp.rng x hx) (hp.rng y hy) a b)) fun x y z hx hy hz a b => ho.trans (hp.rng x hx) (hp.rng y hy) (hp.rng z hz) a b
theorem iso_blw {k l : Nat} (hk : k < n) (hl : l < n) : blw (fun k l => f (σ k) (σ l)) k l = blw f (σ k) (σ l) := by
  unfold blw
  congr 1
  rw [decide_eq_decide]
  exact ⟨fun h e => h (hp.inj k l hk hl e), fun h e => h (by rw [e])⟩
theorem iso_eu (ho : IsO n f) : ∀ (c : Nat) {k : Nat}, k < n → cntD n f (σ k) ≤ c → euF n (fun k l => f (σ k) (σ l)) k = euF n f (σ k)
  | 0, k, hk, hc => absurd (cntD_pos ho (hp.rng k hk)) (by omega)
  | c + 1, k, hk, hc => by
    rw [euF_eq (iso_o hp ho) hk, euF_eq ho (hp.rng k hk), ← sumI_perm hp (fun x => if blw f x (σ k) then euF n f x else 0)]
    congr 1
    refine sumI_congr fun l hl => ?_
    rw [iso_blw hp hl hk]
    cases h : blw f (σ l) (σ k)
    · rfl
    · obtain ⟨h1, h2⟩ := blw_iff.1 h
      have := cntD_lt ho (hp.rng l hl) (hp.rng k hk) h2 h1
      rw [if_pos rfl, if_pos rfl]
      exact iso_eu ho c hl (by omega)
theorem iso_eul (ho : IsO n f) : eulN n (fun k l => f (σ k) (σ l)) = eulN n f := by
  unfold eulN
  rw [← sumI_perm hp (euF n f)]
  exact sumI_congr fun k hk => iso_eu hp ho _ hk (Nat.le_refl _)
omit hp in
theorem lastB_iff {s x : Nat} {f : Nat → Nat → Bool} (ho : IsO n f) (hn : n ≤ 12) (hx : x < n) : lastB n f s x = true ↔ s.testBit x = true ∧ ∀ y, y < n → s.testBit y = true → f x y = true → y = x := by
  unfold lastB
  rw [Bool.and_eq_true, decide_eq_true_iff]
  constructor
  · rintro ⟨hb, hp⟩
    refine ⟨hb, fun y hy hby hxy => ?_⟩
    have hself : (upF n f x &&& s).testBit x = true := by rw [Nat.testBit_and, upF_bit, decide_eq_true hx, ho.refl hx, hb]; rfl
    refine Classical.byContradiction fun hne => ?_
    have h1 := popN_off (by omega) hself
    have hy2 : (andNot (upF n f x &&& s) (2 ^ x)).testBit y = true := by rw [bit_off, Nat.testBit_and, upF_bit, decide_eq_true hy, hxy, hby]; simp [Ne.symm hne]
    have h2 := popN_off (by omega) hy2
    omega
  · rintro ⟨hb, hu⟩
    refine ⟨hb, ?_⟩
    have hself : (upF n f x &&& s).testBit x = true := by rw [Nat.testBit_and, upF_bit, decide_eq_true hx, ho.refl hx, hb]; rfl
    rw [popN_off (by omega) hself]
    have hz : andNot (upF n f x &&& s) (2 ^ x) = 0 := Nat.eq_of_testBit_eq fun i => by
      rw [bit_off, Nat.testBit_and, upF_bit, Nat.zero_testBit]
      by_cases hi : i < n
      · cases h1 : f x i
        · simp
        · cases h2 : s.testBit i
          · simp
          · have := hu i hi h2 h1
            subst this; simp
      · rw [decide_eq_false hi]; simp
    rw [hz, popN_zero]
/-- A set and its image. -/
def imgP (n : Nat) (σ : Nat → Nat) (s t : Nat) : Prop := s < 2 ^ n ∧ t < 2 ^ n ∧ ∀ k, k < n → s.testBit k = t.testBit (σ k)
omit hp in
theorem off_lt {s x : Nat} (hs : s < 2 ^ n) : andNot s (2 ^ x) < 2 ^ n := Nat.lt_of_le_of_lt (andNot_le _ _) hs
theorem img_off {s t k : Nat} (h : imgP n σ s t) (hk : k < n) : imgP n σ (andNot s (2 ^ k)) (andNot t (2 ^ σ k)) :=
  ⟨off_lt h.1, off_lt h.2.1, fun l hl => by
    rw [bit_off, bit_off, h.2.2 l hl]
    congr 2
    rw [decide_eq_decide]
    exact ⟨fun e => by rw [e], fun e => hp.inj k l hk hl e⟩⟩
theorem img_zero {s t : Nat} (h : imgP n σ s t) : s = 0 ↔ t = 0 := by
  constructor
  · intro e
    refine Nat.eq_of_testBit_eq fun i => ?_
    rw [Nat.zero_testBit]
    by_cases hi : i < n
    · obtain ⟨k, hk, rfl⟩ := hp.sur i hi
      rw [← h.2.2 k hk, e, Nat.zero_testBit]
    · exact Nat.testBit_lt_two_pow (Nat.lt_of_lt_of_le h.2.1 (Nat.pow_le_pow_right (by omega) (by omega)))
  · intro e
    refine Nat.eq_of_testBit_eq fun i => ?_
    rw [Nat.zero_testBit]
    by_cases hi : i < n
    · rw [h.2.2 i hi, e, Nat.zero_testBit]
    · exact Nat.testBit_lt_two_pow (Nat.lt_of_lt_of_le h.1 (Nat.pow_le_pow_right (by omega) (by omega)))
theorem iso_last (ho : IsO n f) (hn : n ≤ 12) {s t k : Nat} (h : imgP n σ s t) (hk : k < n) : lastB n (fun k l => f (σ k) (σ l)) s k = lastB n f t (σ k) := by
  rw [Bool.eq_iff_iff, lastB_iff (iso_o hp ho) hn hk, lastB_iff ho hn (hp.rng k hk), h.2.2 k hk]
  constructor
  · rintro ⟨h1, h2⟩
    refine ⟨h1, fun y hy hb hf => ?_⟩
    obtain ⟨l, hl, rfl⟩ := hp.sur y hy
    rw [h2 l hl (by rw [h.2.2 l hl]; exact hb) hf]
  · rintro ⟨h1, h2⟩
    refine ⟨h1, fun l hl hb hf => hp.inj l k hl hk (h2 (σ l) (hp.rng l hl) (by rw [← h.2.2 l hl]; exact hb) hf)⟩
theorem iso_lin (ho : IsO n f) (hn : n ≤ 12) : ∀ (c : Nat) {s t : Nat}, popN s ≤ c → imgP n σ s t → linN n (fun k l => f (σ k) (σ l)) s = linN n f t := by
  have h4 : 2 ^ n ≤ 4096 := pow12 hn
  intro c
  induction c with
  | zero =>
    intro s t hc h
    have hs0 : s = 0 := Classical.byContradiction fun h0 => popN_nz (by have := h.1; omega) h0 (by omega)
    have ht0 := (img_zero hp h).1 hs0
    rw [hs0, ht0, linN_zero, linN_zero]
  | succ c ih =>
    intro s t hc h
    by_cases hs0 : s = 0
    · have ht0 := (img_zero hp h).1 hs0
      rw [hs0, ht0, linN_zero, linN_zero]
    · have ht0 : t ≠ 0 := fun e => hs0 ((img_zero hp h).2 e)
      rw [linN_sum hn (by have := h.1; omega) hs0, linN_sum hn (by have := h.2.1; omega) ht0]
      unfold linS
      rw [← sumI_perm hp (fun q => if lastB n f t q then linN n f (andNot t (2 ^ q)) else 0)]
      refine sumI_congr fun k hk => ?_
      rw [iso_last hp ho hn h hk]
      cases hl : lastB n f t (σ k)
      · rfl
      · rw [if_pos rfl, if_pos rfl]
        have hb : s.testBit k = true := by rw [h.2.2 k hk]; exact ((lastB_iff ho hn (hp.rng k hk)).1 hl).1
        have := popN_off (by omega) hb
        exact ih (by omega) (img_off hp h hk)
theorem iso_lin_all (ho : IsO n f) (hn : n ≤ 12) : linN n (fun k l => f (σ k) (σ l)) (2 ^ n - 1) = linN n f (2 ^ n - 1) := by
  have hpp : 0 < 2 ^ n := Nat.pow_pos (by omega)
  refine iso_lin hp ho hn _ (Nat.le_refl _) ⟨by omega, by omega, fun k hk => ?_⟩
  rw [Nat.testBit_two_pow_sub_one, Nat.testBit_two_pow_sub_one, decide_eq_true hk, decide_eq_true (hp.rng k hk)]
end
end Go.X
