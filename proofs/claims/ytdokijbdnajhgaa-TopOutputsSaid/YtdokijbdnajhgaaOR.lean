/-
  Walk: TopOutputs.
-/
import Derived.Test.YtdokijbdnajhgaaOP
import Derived.Test.YtdokijbdnajhgaaOH
import Derived.Test.YtdokijbdnajhgaaON
import Derived.Test.YtdokijbdnajhgaaXChain
set_option linter.unusedSimpArgs false
set_option linter.unusedVariables false
namespace Go.Proofs.Ytdokijbdnajhgaa
open Go Go.X

theorem one_lt {k a b : Nat} (h1 : a < b) (h2 : b < k) : NetLt k [((a : Int), (b : Int))] := fun c hc => ⟨a, b, by simpa using hc, h1, h2⟩
theorem one_down {k a b : Nat} (h1 : a < b) (h2 : b < k) : ∀ d, d ∈ [((b : Int), (a : Int))] → ∃ x y : Nat, d = ((x : Int), (y : Int)) ∧ y < x ∧ x < k := fun d hd => ⟨b, a, by simpa using hd, h1, h2⟩
theorem chain_down {k : Nat} : ∀ d, d ∈ chainL (k - 1) → ∃ x y : Nat, d = ((x : Int), (y : Int)) ∧ y < x ∧ x < k := fun d hd => by
  obtain ⟨j, hj, e⟩ := chainL_mem.1 hd
  exact ⟨j + 1, j, e, by omega, by omega⟩
theorem tab_facts {k : Nat} {f : Nat → Nat → Bool} {p : List (List Bool)} (h1 : 1 ≤ k) (h2 : k ≤ 12) (ho : IsO k f) (hp : p = tabF k f) : p.length = k ∧ chkT p = 0 ∧ Sq p p.length ∧ (∀ i, i < p.length → (gt p i).length ≤ 1000000) ∧ idealsF p.length (pb p) = idealsF k f := by
  subst hp
  have hl : (tabF k f).length = k := tabF_length k f
  have hs : Sq (tabF k f) (tabF k f).length := by rw [hl]; exact tabF_sq k f
  exact ⟨hl, ok_chkT (by omega) (by omega) (isT_tabF ho), hs, fun i hi => by rw [hs.2 i hi]; omega, pb_closW⟩

set_option maxRecDepth 10000 in
theorem topOutputs_spec (h : Heap) (n : Int) (x0 : Int) (x1 : Int) : Fx Try.prog 12 [.int .i64 n, .agg #[.int .i64 x0, .int .i64 x1]] h (fun v h' => v = .bool true ∧ Ext h.size h h') := by
  refine fx_intro (n := 138) [(0, .int .i64 n), (1, .agg #[.int .i64 x0, .int .i64 x1])] Try.func12 rfl rfl (by simp) ⟨rfl, rfl, trivial⟩ fun g0 => ?_
  refine wi_seq <| wi_reg rfl <| lx_box #[.int .i64 x0, .int .i64 x1] rfl rfl rfl (fun _ _ _ => trivial) fun bn1 h1 hbn1 hbk1 hx1 hsz1 => ?_
  have hbb1 : h.size ≤ bn1 := by have := (Nat.le_refl h.size); omega
  refine lx_assign (.bool false) rfl rfl <| lx_nil <| wi_seq <| wi_reg rfl <| lx_move (.int .i64 n) rfl rfl <| lx_call [.int .i64 n, .int .i64 8] rfl rfl Try.call65 rfl (small_spec h1 n 8 (by omega)) (fun _ _ _ => trivial) ?_
  rintro _ h2 ⟨rfl, rfl⟩
  refine lx_add (((2 + (ur n % (8 + 1)) : Nat) : Int)) rfl rfl rfl (by omega) (by omega) (by omega) <| lx_assign (.int .i64 ((2 + (ur n % (8 + 1)) : Nat) : Int)) rfl rfl <| lx_nil <| wi_seq <| wi_reg rfl <| ?_
  generalize hk : 2 + (ur n % (8 + 1)) = k
  replace hk : 2 ≤ k ∧ k ≤ 10 := by have := Nat.mod_lt (ur n) (show 0 < 8 + 1 by omega); omega
  have hpw := pow10 (show k ≤ 10 by omega)
  refine lx_ixB (i := 0) (0) rfl Try.underlying85 Try.sizeOf3 rfl rfl (by omega) rfl <| lx_ldB (.int .i64 x0) rfl rfl fl3 hbk1 rfl rfl <| lx_move (.int .i64 ((k : Nat) : Int)) rfl rfl <| lx_sub (((k - 2 : Nat) : Int)) rfl rfl rfl (by omega) (by omega) (by omega) <| lx_call [.int .i64 x0, .int .i64 ((k - 2 : Nat) : Int)] rfl rfl Try.call65 rfl (small_spec h1 x0 (k - 2) (by omega)) (fun _ _ _ => trivial) ?_
  rintro _ h3 ⟨rfl, rfl⟩
  refine lx_assign (.int .i64 ((ur x0 % ((k - 2) + 1) : Nat) : Int)) rfl rfl <| lx_nil <| wi_seq <| wi_reg rfl <| ?_
  generalize ha : ur x0 % ((k - 2) + 1) = a
  replace ha : a ≤ k - 2 := by have := Nat.mod_lt (ur x0) (show 0 < k - 2 + 1 by omega); omega
  have hm9 := Nat.mod_lt (ur x1) (show 0 < k - 2 - a + 1 by omega)
  refine lx_move (.int .i64 ((a : Nat) : Int)) rfl rfl <| lx_add (((a + 1 : Nat) : Int)) rfl rfl rfl (by omega) (by omega) (by omega) <| lx_ixB (i := 1) (1) rfl Try.underlying85 Try.sizeOf3 rfl rfl (by omega) rfl <| lx_ldB (.int .i64 x1) rfl rfl fl3 hbk1 rfl rfl <| lx_move (.int .i64 ((k : Nat) : Int)) rfl rfl <| lx_sub (((k - 2 : Nat) : Int)) rfl rfl rfl (by omega) (by omega) (by omega) <| lx_move (.int .i64 ((a : Nat) : Int)) rfl rfl <| lx_sub (((k - 2 - a : Nat) : Int)) rfl rfl rfl (by omega) (by omega) (by omega) <| lx_call [.int .i64 x1, .int .i64 ((k - 2 - a : Nat) : Int)] rfl rfl Try.call65 rfl (small_spec h1 x1 (k - 2 - a) (by omega)) (fun _ _ _ => trivial) ?_
  rintro _ h4 ⟨rfl, rfl⟩
  refine lx_add (((a + 1 + (ur x1 % ((k - 2 - a) + 1)) : Nat) : Int)) rfl rfl rfl (by omega) (by omega) (by omega) <| lx_assign (.int .i64 ((a + 1 + (ur x1 % ((k - 2 - a) + 1)) : Nat) : Int)) rfl rfl <| lx_nil <| wi_seq <| wi_reg rfl <| ?_
  generalize hb : a + 1 + (ur x1 % ((k - 2 - a) + 1)) = b
  have hab : a < b ∧ b < k := by omega
  refine lx_move (.int .i64 ((k : Nat) : Int)) rfl rfl <| lx_move (.int .i64 ((a : Nat) : Int)) rfl rfl <| lx_move (.int .i64 ((b : Nat) : Int)) rfl rfl <| lx_build (.agg #[.int .i64 ((a : Nat) : Int), .int .i64 ((b : Nat) : Int)]) [(0, .int .i64 ((a : Nat) : Int)), (1, .int .i64 ((b : Nat) : Int))] rfl rfl (fun w => bld85_2 _ _ w) <| lx_buildSlice (E := encP) h1.size [(((a : Nat) : Int), ((b : Nat) : Int))] [.agg #[.int .i64 ((a : Nat) : Int), .int .i64 ((b : Nat) : Int)]] rfl rfl eT22 rfl rfl rfl rfl (Nat.le_refl _) (fun _ _ _ => trivial) fun v1 h5 ho1 hx2 hvb1 hsz2 => ?_
  have hx0_1 := hx1.trans2 hx2 hx1.size
  have hb1 := hbk1.extS hx2
  have ho2 := ho1.base hx1.size
  refine lx_call [.int .i64 ((k : Nat) : Int), v1] rfl rfl Try.call70 rfl (outputs_spec h5 (((k : Nat) : Int)) v1 ([(((a : Nat) : Int), ((b : Nat) : Int))]) ho2.rd (by simp)) (fun _ _ _ => trivial) ?_
  rintro _ h6 ⟨vo1, yo1, rfl, ho3, hou1, hx3⟩
  have hx0_2 := hx0_1.trans2 hx3 hx0_1.size
  have ho4 := ho2.extS hx3
  have hb2 := hb1.extS hx3
  have ho5 := ho3.base hx0_1.size
  refine lx_move (.tuple #[vo1, .int .i64 (chkNet validC (((k : Nat) : Int)) ([(((a : Nat) : Int), ((b : Nat) : Int))]))]) rfl rfl <| lx_extract (vo1) rfl rfl rfl <| lx_extract (.int .i64 (chkNet validC (((k : Nat) : Int)) ([(((a : Nat) : Int), ((b : Nat) : Int))]))) rfl rfl rfl <| lx_assign (vo1) rfl rfl <| lx_assign (.int .i64 (chkNet validC (((k : Nat) : Int)) ([(((a : Nat) : Int), ((b : Nat) : Int))]))) rfl rfl <| lx_nil <| wi_seq <| wi_reg rfl <| ?_
  have hcn1 := netLt_chk (m := k) (by omega) (by omega) (by simp) (one_lt hab.1 hab.2)
  have hyo1 := good_ hou1 hcn1
  rw [Int.toNat_natCast] at hyo1
  refine lx_move (.int .i64 ((k : Nat) : Int)) rfl rfl <| lx_move (.int .i64 ((b : Nat) : Int)) rfl rfl <| lx_move (.int .i64 ((a : Nat) : Int)) rfl rfl <| lx_build (.agg #[.int .i64 ((b : Nat) : Int), .int .i64 ((a : Nat) : Int)]) [(0, .int .i64 ((b : Nat) : Int)), (1, .int .i64 ((a : Nat) : Int))] rfl rfl (fun w => bld85_2 _ _ w) <| lx_buildSlice (E := encP) h6.size [(((b : Nat) : Int), ((a : Nat) : Int))] [.agg #[.int .i64 ((b : Nat) : Int), .int .i64 ((a : Nat) : Int)]] rfl rfl eT22 rfl rfl rfl rfl (Nat.le_refl _) (fun _ _ _ => trivial) fun v2 h7 ho6 hx4 hvb2 hsz3 => ?_
  have hx0_3 := hx0_2.trans2 hx4 hx0_2.size
  have ho7 := ho4.extS hx4
  have ho8 := ho5.extS hx4
  have hb3 := hb2.extS hx4
  have ho9 := ho6.base hx0_2.size
  refine lx_call [.int .i64 ((k : Nat) : Int), v2] rfl rfl Try.call63 rfl (oclosure_spec h7 (((k : Nat) : Int)) v2 ([(((b : Nat) : Int), ((a : Nat) : Int))]) ho9.rd (by simp)) (fun _ _ _ => trivial) ?_
  rintro _ h8 ⟨vp1, hs1, p1, rfl, ho10, hot1, hcl1, hx5⟩
  have hx0_4 := hx0_3.trans2 hx5 hx0_3.size
  have ho11 := ho7.extS hx5
  have ho12 := ho8.extS hx5
  have ho13 := ho9.extS hx5
  have hb4 := hb3.extS hx5
  have ho14 := ho10.base hx0_3.size
  have hot2 := hot1.base hx0_3.size
  have hl_hot2 := hot2.1
  refine lx_move (.tuple #[vp1, .int .i64 (closE (((k : Nat) : Int)) ([(((b : Nat) : Int), ((a : Nat) : Int))]))]) rfl rfl <| lx_extract (vp1) rfl rfl rfl <| lx_extract (.int .i64 (closE (((k : Nat) : Int)) ([(((b : Nat) : Int), ((a : Nat) : Int))]))) rfl rfl rfl <| lx_assign (vp1) rfl rfl <| lx_assign (.int .i64 (closE (((k : Nat) : Int)) ([(((b : Nat) : Int), ((a : Nat) : Int))]))) rfl rfl <| lx_nil <| wi_seq <| wi_reg rfl <| ?_
  obtain ⟨hce1, hio1⟩ := down_closE (n := k) (by omega) (by omega) (one_down hab.1 hab.2)
  have hpe1 := good_ hcl1 hce1
  rw [Int.toNat_natCast] at hpe1
  obtain ⟨hq1_1, hq1_2, hq1_3, hq1_4, hq1_5⟩ := tab_facts (by omega) (by omega) hio1 hpe1
  refine lx_move (vp1) rfl rfl <| lx_call [vp1] rfl rfl Try.call16 rfl (oideals_spec h8 vp1 hs1 p1 ho14.rd hot2.rt (by omega) hq1_4) (fun _ _ _ => trivial) ?_
  rintro _ h9 ⟨vi1, xi1, rfl, ho15, hid1, hx6⟩
  have hx0_5 := hx0_4.trans2 hx6 hx0_4.size
  have ho16 := ho11.extS hx6
  have ho17 := ho12.extS hx6
  have ho18 := ho13.extS hx6
  have ho19 := ho14.extS hx6
  have hot3 := hot2.extS hx6
  have hb5 := hb4.extS hx6
  have ho20 := ho15.base hx0_4.size
  refine lx_move (.tuple #[vi1, .int .i64 (chkT p1)]) rfl rfl <| lx_extract (vi1) rfl rfl rfl <| lx_extract (.int .i64 (chkT p1)) rfl rfl rfl <| lx_assign (vi1) rfl rfl <| lx_assign (.int .i64 (chkT p1)) rfl rfl <| lx_nil <| wi_seq <| wi_reg rfl <| ?_
  have hxe1 := good_ hid1 hq1_2
  rw [hq1_5] at hxe1
  have hsm1 : yo1 = xi1 := by rw [hyo1, hxe1]; exact one_law hab.1 hab.2
  have hol1 : xi1.length ≤ 1024 := by rw [hxe1]; exact Nat.le_trans (filtF_length _ _) hpw
  refine lx_move (.int .i64 ((k : Nat) : Int)) rfl rfl <| lx_call [.int .i64 ((k : Nat) : Int)] rfl rfl Try.call71 rfl (merge_spec h9 (((k : Nat) : Int)) ) (fun _ _ _ => trivial) ?_
  rintro _ h10 ⟨vm, ms, rfl, ho21, hm, hx7⟩
  have hx0_6 := hx0_5.trans2 hx7 hx0_5.size
  have ho22 := ho16.extS hx7
  have ho23 := ho17.extS hx7
  have ho24 := ho18.extS hx7
  have ho25 := ho19.extS hx7
  have hot4 := hot3.extS hx7
  have ho26 := ho20.extS hx7
  have hb6 := hb5.extS hx7
  have ho27 := ho21.base hx0_5.size
  refine lx_move (.tuple #[vm, .int .i64 (if (((k : Nat) : Int)) < 1 ∨ 10 < (((k : Nat) : Int)) then 1 else 0)]) rfl rfl <| lx_extract (vm) rfl rfl rfl <| lx_extract (.int .i64 (if (((k : Nat) : Int)) < 1 ∨ 10 < (((k : Nat) : Int)) then 1 else 0)) rfl rfl rfl <| lx_assign (vm) rfl rfl <| lx_assign (.int .i64 (if (((k : Nat) : Int)) < 1 ∨ 10 < (((k : Nat) : Int)) then 1 else 0)) rfl rfl <| lx_nil <| wi_seq <| wi_reg rfl <| ?_
  have hme : ms = mergeF k := by rw [hm, if_neg (by omega), Int.toNat_natCast]
  have hcn2 := merge_chk k (by omega) (by omega)
  rw [← hme] at hcn2
  have hmel := mergeF_short k (by omega)
  rw [← hme] at hmel
  refine lx_move (.int .i64 ((k : Nat) : Int)) rfl rfl <| lx_move (vm) rfl rfl <| lx_call [.int .i64 ((k : Nat) : Int), vm] rfl rfl Try.call70 rfl (outputs_spec h10 (((k : Nat) : Int)) vm ms ho27.rd (by omega)) (fun _ _ _ => trivial) ?_
  rintro _ h11 ⟨vo2, yo2, rfl, ho28, hou2, hx8⟩
  have hx0_7 := hx0_6.trans2 hx8 hx0_6.size
  have ho29 := ho22.extS hx8
  have ho30 := ho23.extS hx8
  have ho31 := ho24.extS hx8
  have ho32 := ho25.extS hx8
  have hot5 := hot4.extS hx8
  have ho33 := ho26.extS hx8
  have ho34 := ho27.extS hx8
  have hb7 := hb6.extS hx8
  have ho35 := ho28.base hx0_6.size
  refine lx_move (.tuple #[vo2, .int .i64 (chkNet validC (((k : Nat) : Int)) ms)]) rfl rfl <| lx_extract (vo2) rfl rfl rfl <| lx_extract (.int .i64 (chkNet validC (((k : Nat) : Int)) ms)) rfl rfl rfl <| lx_assign (vo2) rfl rfl <| lx_assign (.int .i64 (chkNet validC (((k : Nat) : Int)) ms)) rfl rfl <| lx_nil <| wi_seq <| wi_reg rfl <| ?_
  have hyo2 := good_ hou2 hcn2
  rw [Int.toNat_natCast, hme] at hyo2
  have hol2 : yo2.length ≤ 1024 := by rw [hyo2]; exact Nat.le_trans (filtF_length _ _) hpw
  refine lx_assign (.slice none 0 0) rfl rfl <| lx_nil <| wi_seq <| wi_seq <| wi_reg rfl <| lx_assign (.int .i64 1) rfl rfl <| lx_nil <| wi_block <| ?_
  refine wi_loop (σ := Nat × Value × (List (Int × Int))) (rngB 76 88 [18, 19]) (fun (ss : Nat × Value × (List (Int × Int))) => [(19, .int .i64 ((ss.1 : Nat) : Int)), (18, ss.2.1)]) (fun (ss : Nat × Value × (List (Int × Int))) (hh : Heap) => OwE encP hh h.size 85 ss.2.1 ss.2.2 ∧ OwE encI hh h.size 3 vo1 yo1 ∧ OwE encI hh h.size 3 vi1 xi1 ∧ OwE encI hh h.size 3 vo2 yo2 ∧ Ext h.size h hh ∧ (1 ≤ ss.1 ∧ ss.1 ≤ k) ∧ (ss.2.2 = chainL (ss.1 - 1))) (fun (ss : Nat × Value × (List (Int × Int))) => k - ss.1) (1, .slice none 0 0, []) ⟨rfl, rfl, trivial⟩ ⟨?_, ?_, ?_, ?_, hx0_7, ?_, ?_⟩ ?_
  · first | exact (owE_nil encP _ h.size 85) | (simpa using (owE_nil encP _ h.size 85))
  · first | exact ho30 | (simpa using ho30)
  · first | exact ho33 | (simpa using ho33)
  · first | exact ho35 | (simpa using ho35)
  · try dsimp only
    omega
  · try dsimp only
    first | done | rfl
  rintro g1 ⟨j, v, xs⟩ hh1 ⟨ho36, ho37, ho38, ho39, hx0_8, hj, hxs⟩ IH1
  dsimp only at *
  have hxl : xs.length = j - 1 := by rw [hxs]; exact chainL_len _
  refine wi_seq <| wi_seq <| wi_reg rfl <| lx_move (.int .i64 ((j : Nat) : Int)) rfl rfl <| lx_move (.int .i64 ((k : Nat) : Int)) rfl rfl <| lx_lssS rfl rfl rfl (fun c1 => ?_) (fun c1 => ?_)
  · refine lx_nil <| wi_true rfl <| wi_skip <| wi_seq <| wi_block <| wi_reg rfl <| lx_move (v) rfl rfl <| lx_move (.int .i64 ((j : Nat) : Int)) rfl rfl <| lx_move (.int .i64 ((j : Nat) : Int)) rfl rfl <| lx_sub (((j - 1 : Nat) : Int)) rfl rfl rfl (by omega) (by omega) (by omega) <| lx_build (.agg #[.int .i64 ((j : Nat) : Int), .int .i64 ((j - 1 : Nat) : Int)]) [(0, .int .i64 ((j : Nat) : Int)), (1, .int .i64 ((j - 1 : Nat) : Int))] rfl rfl (fun w => bld85_2 _ _ w) <| lx_appendL (E := encP) (B := h.size) [(((j : Nat) : Int), ((j - 1 : Nat) : Int))] [.agg #[.int .i64 ((j : Nat) : Int), .int .i64 ((j - 1 : Nat) : Int)]] rfl rfl (fun _ => rfl) rfl eT22 rfl rfl rfl rfl ho36 (fun _ => rfl) (by show xs.length + 1 ≤ _; omega) (by show (xs.length + 1) * 16 ≤ _; omega) hx0_8.size (fun _ _ => trivial) fun u1 v3 h12 ho40 hc1 hg1 => ?_
    have hx0_9 := hx0_8.trans (ho36.ext hc1 hx0_8.size)
    have ho41 := ho37.chg hc1 (dj_ty ho37 ho36 (by decide))
    have ho42 := ho38.chg hc1 (dj_ty ho38 ho36 (by decide))
    have ho43 := ho39.chg hc1 (dj_ty ho39 ho36 (by decide))
    refine lx_assign (v3) rfl rfl <| lx_nil <| wi_inBlock <| wi_reg rfl <| lx_move (.int .i64 ((j : Nat) : Int)) rfl rfl <| lx_add (((j + 1 : Nat) : Int)) rfl rfl rfl (by omega) (by omega) (by omega) <| lx_assign (.int .i64 ((j + 1 : Nat) : Int)) rfl rfl <| lx_nil <| ?_
    -- L0.1
    refine IH1 _ _ (j + 1, v3, xs ++ [(((j : Nat) : Int), ((j - 1 : Nat) : Int))]) (agree_ups rfl agree_self) ⟨rfl, rfl, trivial⟩ ⟨?_, ?_, ?_, ?_, hx0_9, ?_, ?_⟩ ?_
    · first | exact ho40 | (simpa using ho40)
    · first | exact ho41 | (simpa using ho41)
    · first | exact ho42 | (simpa using ho42)
    · first | exact ho43 | (simpa using ho43)
    · try dsimp only
      omega
    · try dsimp only
      obtain ⟨i, rfl⟩ : ∃ i, j = i + 1 := ⟨j - 1, by omega⟩
      rw [show i + 1 + 1 - 1 = i + 1 from rfl, chainL_succ, hxs]; rfl
    · first | omega | (dsimp only; omega)
  · refine lx_nil <| wi_false rfl <| wi_exit rfl <| wi_seq <| wi_reg rfl <| ?_
    have hxc : xs = chainL (k - 1) := by rw [hxs, show j = k from by omega]
    have hxl9 : xs.length ≤ 10 := by rw [hxc, chainL_len]; omega
    refine lx_move (.int .i64 ((k : Nat) : Int)) rfl rfl <| lx_move (v) rfl rfl <| lx_call [.int .i64 ((k : Nat) : Int), v] rfl rfl Try.call63 rfl (oclosure_spec hh1 (((k : Nat) : Int)) v xs ho36.rd (by omega)) (fun _ _ _ => trivial) ?_
    rintro _ h13 ⟨vp2, hs2, p2, rfl, ho44, hot6, hcl2, hx9⟩
    have hx0_10 := hx0_8.trans2 hx9 hx0_8.size
    have ho45 := ho37.extS hx9
    have ho46 := ho38.extS hx9
    have ho47 := ho39.extS hx9
    have ho48 := ho36.extS hx9
    have ho49 := ho44.base hx0_8.size
    have hot7 := hot6.base hx0_8.size
    have hl_hot7 := hot7.1
    refine lx_move (.tuple #[vp2, .int .i64 (closE (((k : Nat) : Int)) xs)]) rfl rfl <| lx_extract (vp2) rfl rfl rfl <| lx_extract (.int .i64 (closE (((k : Nat) : Int)) xs)) rfl rfl rfl <| lx_assign (vp2) rfl rfl <| lx_assign (.int .i64 (closE (((k : Nat) : Int)) xs)) rfl rfl <| lx_nil <| wi_seq <| wi_reg rfl <| ?_
    rw [hxc] at hcl2
    obtain ⟨hce2, hio2⟩ := down_closE (n := k) (by omega) (by omega) (chain_down (k := k))
    have hpe2 := good_ hcl2 hce2
    rw [Int.toNat_natCast] at hpe2
    obtain ⟨hq2_1, hq2_2, hq2_3, hq2_4, hq2_5⟩ := tab_facts (by omega) (by omega) hio2 hpe2
    refine lx_move (vp2) rfl rfl <| lx_call [vp2] rfl rfl Try.call16 rfl (oideals_spec h13 vp2 hs2 p2 ho49.rd hot7.rt (by omega) hq2_4) (fun _ _ _ => trivial) ?_
    rintro _ h14 ⟨vi2, xi2, rfl, ho50, hid2, hx10⟩
    have hx0_11 := hx0_10.trans2 hx10 hx0_10.size
    have ho51 := ho45.extS hx10
    have ho52 := ho46.extS hx10
    have ho53 := ho47.extS hx10
    have ho54 := ho48.extS hx10
    have ho55 := ho49.extS hx10
    have hot8 := hot7.extS hx10
    have ho56 := ho50.base hx0_10.size
    refine lx_move (.tuple #[vi2, .int .i64 (chkT p2)]) rfl rfl <| lx_extract (vi2) rfl rfl rfl <| lx_extract (.int .i64 (chkT p2)) rfl rfl rfl <| lx_assign (vi2) rfl rfl <| lx_assign (.int .i64 (chkT p2)) rfl rfl <| lx_nil <| wi_seq <| wi_reg rfl <| ?_
    have hxe2 := good_ hid2 hq2_2
    rw [hq2_5] at hxe2
    have hsm2 : yo2 = xi2 := by rw [hyo2, hxe2]; exact merge_law (by omega) (by omega)
    have hol3 : xi2.length ≤ 1024 := by rw [← hsm2]; exact hol2
    refine lx_move (.int .i64 (chkNet validC (((k : Nat) : Int)) ([(((a : Nat) : Int), ((b : Nat) : Int))]))) rfl rfl <| lx_eqlT rfl rfl rfl hcn1 <| lx_move (.bool true) rfl rfl <| lx_move (.int .i64 (closE (((k : Nat) : Int)) ([(((b : Nat) : Int), ((a : Nat) : Int))]))) rfl rfl <| lx_eqlT rfl rfl rfl hce1 <| lx_pick true (.bool true) rfl rfl rfl <| lx_move (.bool true) rfl rfl <| lx_move (.int .i64 (chkT p1)) rfl rfl <| lx_eqlT rfl rfl rfl hq1_2 <| lx_pick true (.bool true) rfl rfl rfl <| lx_move (.bool true) rfl rfl <| lx_move (.int .i64 (if (((k : Nat) : Int)) < 1 ∨ 10 < (((k : Nat) : Int)) then 1 else 0)) rfl rfl <| lx_eqlT rfl rfl rfl (by rw [if_neg (by omega)]) <| lx_pick true (.bool true) rfl rfl rfl <| lx_move (.bool true) rfl rfl <| lx_move (.int .i64 (chkNet validC (((k : Nat) : Int)) ms)) rfl rfl <| lx_eqlT rfl rfl rfl hcn2 <| lx_pick true (.bool true) rfl rfl rfl <| lx_move (.bool true) rfl rfl <| lx_move (.int .i64 (closE (((k : Nat) : Int)) xs)) rfl rfl <| lx_eqlT rfl rfl rfl (by rw [hxc]; exact hce2) <| lx_pick true (.bool true) rfl rfl rfl <| lx_move (.bool true) rfl rfl <| lx_move (.int .i64 (chkT p2)) rfl rfl <| lx_eqlT rfl rfl rfl hq2_2 <| lx_pick true (.bool true) rfl rfl rfl <| lx_move (.bool true) rfl rfl <| lx_move (vo1) rfl rfl <| lx_move (vi1) rfl rfl <| lx_call [vo1, vi1] rfl rfl Try.call68 rfl (same_spec h14 vo1 yo1 vi1 xi1 ho51.rd ho52.rd (by first | omega | (rw [hsm1]; omega)) (by first | omega | (rw [hsm1]; omega))) (fun _ _ _ => trivial) ?_
    rintro _ h15 ⟨rfl, rfl⟩
    rw [decide_eq_true hsm1]
    refine lx_pick true (.bool true) rfl rfl rfl <| lx_move (.bool true) rfl rfl <| lx_move (vo2) rfl rfl <| lx_move (vi2) rfl rfl <| lx_call [vo2, vi2] rfl rfl Try.call68 rfl (same_spec h14 vo2 yo2 vi2 xi2 ho53.rd ho56.rd (by omega) (by omega)) (fun _ _ _ => trivial) ?_
    rintro _ h16 ⟨rfl, rfl⟩
    rw [decide_eq_true hsm2]
    refine lx_pick true (.bool true) rfl rfl rfl <| lx_move (.bool true) rfl rfl <| lx_call [] rfl rfl Try.call69 rfl (ten_spec h14 ) (fun _ _ _ => trivial) ?_
    rintro _ h17 ⟨rfl, hx11⟩
    have hx0_12 := hx0_11.trans2 hx11 hx0_11.size
    have ho57 := ho51.extS hx11
    have ho58 := ho52.extS hx11
    have ho59 := ho53.extS hx11
    have ho60 := ho54.extS hx11
    have ho61 := ho55.extS hx11
    have hot9 := hot8.extS hx11
    have ho62 := ho56.extS hx11
    refine lx_pick true (.bool true) rfl rfl rfl <| lx_assign (.bool true) rfl rfl <| lx_nil <| ?_
    -- R1
    refine wi_ret ⟨.bool true, (res_one rfl rfl), ⟨rfl, hx0_12⟩⟩

end Go.Proofs.Ytdokijbdnajhgaa
