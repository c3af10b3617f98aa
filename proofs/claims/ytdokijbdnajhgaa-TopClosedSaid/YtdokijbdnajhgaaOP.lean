/-
  Walk: what every statement at the top asks.
-/
import Derived.Test.YtdokijbdnajhgaaOO
import Derived.Test.YtdokijbdnajhgaaOL
import Derived.Test.YtdokijbdnajhgaaOJ
import Derived.Test.YtdokijbdnajhgaaOG
set_option linter.unusedSimpArgs false
set_option linter.unusedVariables false
namespace Go.Proofs.Ytdokijbdnajhgaa
open Go Go.X

theorem good_ {a : Int} {A B : Prop} (h : (a ≠ 0 ∧ A) ∨ (a = 0 ∧ B)) (h0 : a = 0) : B := h.elim (fun x => absurd h0 x.1) (fun x => x.2)
abbrev tenP : List (List Bool) := [[true, true], [false, true]]
theorem tenP_chk : chkT tenP = 0 := by decide +kernel
theorem tenP_ideals : (idealsF tenP.length (pb tenP)).length = 3 := by decide +kernel
theorem tenS_chk : chkS 2 [0, 1, 3] = 0 := by decide +kernel
theorem tenS_len : (filtF (2 ^ 2) (shB [0, 1, 3])).length = 3 := by decide +kernel
theorem tenO_chk : chkNet validC 2 [(0, 1)] = 0 := by decide +kernel
theorem tenO_len : (outsF 2 [(0, 1)]).length = 3 := by decide +kernel

set_option maxRecDepth 10000 in
theorem ten_spec (h : Heap) : Fx Try.prog 69 [] h (fun v h' => v = .bool true ∧ Ext h.size h h') := by
  refine fx_intro (n := 65) [] Try.func69 rfl rfl (by simp) trivial fun g0 => ?_
  refine wi_seq <| wi_reg rfl <| lx_assign (.bool false) rfl rfl <| lx_nil <| wi_seq <| wi_reg rfl <| lx_buildSlice (E := encB) h.size [true, true] [.bool true, .bool true] rfl rfl eT70 rfl rfl rfl rfl (Nat.le_refl _) (fun _ _ _ => trivial) fun v1 h1 ho1 hx1 hvb1 hsz1 => ?_
  have ho2 := ho1.base (Nat.le_refl h.size)
  refine lx_buildSlice (E := encB) h1.size [false, true] [.bool false, .bool true] rfl rfl eT70 rfl rfl rfl rfl (Nat.le_refl _) (fun _ _ _ => trivial) fun v2 h2 ho3 hx2 hvb2 hsz2 => ?_
  have hx0_1 := hx1.trans2 hx2 hx1.size
  have ho4 := ho2.extS hx2
  have ho5 := ho3.base hx1.size
  refine lx_buildSlice (E := encHd) h2.size [hdrOf v1, hdrOf v2] [v1, v2] rfl rfl eT29 rfl rfl (cells_cons (hdr_cells ho4.rd) (cells_cons (hdr_cells ho5.rd) rfl)) rfl (Nat.le_refl _) (fun _ _ _ => trivial) fun v3 h3 ho6 hx3 hvb3 hsz3 => ?_
  have hx0_2 := hx0_1.trans2 hx3 hx0_1.size
  have ho7 := ho4.extS hx3
  have ho8 := ho5.extS hx3
  have ho9 := ho6.base hx0_1.size
  have hrt1 : RT encB h3 ([hdrOf v1, hdrOf v2]) ([[true, true], [false, true]]) := (rt_cons ho7.rd (rt_cons ho8.rd (rt_nil encB _)))
  refine lx_call [v3] rfl rfl Try.call16 rfl (oideals_spec h3 v3 ([hdrOf v1, hdrOf v2]) ([[true, true], [false, true]]) ho9.rd hrt1 (by decide) (by intro i hi; have h9 : i = 0 ∨ i = 1 := (by simp at hi; omega); rcases h9 with rfl | rfl <;> decide)) (fun _ _ _ => trivial) ?_
  rintro _ h4 ⟨v4, xi, rfl, ho10, hid, hx4⟩
  have hx0_3 := hx0_2.trans2 hx4 hx0_2.size
  have ho11 := ho7.extS hx4
  have ho12 := ho8.extS hx4
  have ho13 := ho9.extS hx4
  have hxr1 := (Ext.refl h3.size h3).trans2 hx4 (Ext.refl h3.size h3).size
  have ho14 := ho10.base hx0_2.size
  have hl1 : xi.length = 3 := by rw [good_ hid tenP_chk]; exact tenP_ideals
  refine lx_move (.tuple #[v4, .int .i64 (chkT ([[true, true], [false, true]]))]) rfl rfl <| lx_extract (v4) rfl rfl rfl <| lx_extract (.int .i64 (chkT ([[true, true], [false, true]]))) rfl rfl rfl <| lx_assign (v4) rfl rfl <| lx_assign (.int .i64 (chkT ([[true, true], [false, true]]))) rfl rfl <| lx_nil <| wi_seq <| wi_reg rfl <| lx_buildSlice (E := encI) h4.size [(0 : Int), (1 : Int), (3 : Int)] [.int .i64 0, .int .i64 1, .int .i64 3] rfl rfl eT25 rfl rfl rfl rfl (Nat.le_refl _) (fun _ _ _ => trivial) fun v5 h5 ho15 hx5 hvb4 hsz4 => ?_
  have hx0_4 := hx0_3.trans2 hx5 hx0_3.size
  have ho16 := ho11.extS hx5
  have ho17 := ho12.extS hx5
  have ho18 := ho13.extS hx5
  have ho19 := ho14.extS hx5
  have hxr2 := hxr1.trans2 hx5 hxr1.size
  have ho20 := ho15.base hx0_3.size
  refine lx_call [.int .i64 2, v5] rfl rfl Try.call67 rfl (shattered_all_spec h5 2 v5 ([(0 : Int), (1 : Int), (3 : Int)]) ho20.rd (by decide) (by decide)) (fun _ _ _ => trivial) ?_
  rintro _ h6 ⟨v6, ysh, rfl, ho21, hsh, hx6⟩
  have hx0_5 := hx0_4.trans2 hx6 hx0_4.size
  have ho22 := ho16.extS hx6
  have ho23 := ho17.extS hx6
  have ho24 := ho18.extS hx6
  have ho25 := ho19.extS hx6
  have ho26 := ho20.extS hx6
  have hxr3 := hxr2.trans2 hx6 hxr2.size
  have ho27 := ho21.base hx0_4.size
  have hl2 : ysh.length = 3 := by rw [good_ hsh tenS_chk]; exact tenS_len
  refine lx_move (.tuple #[v6, .int .i64 (chkS 2 ([(0 : Int), (1 : Int), (3 : Int)]))]) rfl rfl <| lx_extract (v6) rfl rfl rfl <| lx_extract (.int .i64 (chkS 2 ([(0 : Int), (1 : Int), (3 : Int)]))) rfl rfl rfl <| lx_assign (v6) rfl rfl <| lx_assign (.int .i64 (chkS 2 ([(0 : Int), (1 : Int), (3 : Int)]))) rfl rfl <| lx_nil <| wi_seq <| wi_reg rfl <| lx_build (.agg #[.int .i64 0, .int .i64 1]) [(0, .int .i64 0), (1, .int .i64 1)] rfl rfl (fun w => bld85_2 _ _ w) <| lx_buildSlice (E := encP) h6.size [((0 : Int), (1 : Int))] [.agg #[.int .i64 0, .int .i64 1]] rfl rfl eT22 rfl rfl rfl rfl (Nat.le_refl _) (fun _ _ _ => trivial) fun v7 h7 ho28 hx7 hvb5 hsz5 => ?_
  have hx0_6 := hx0_5.trans2 hx7 hx0_5.size
  have ho29 := ho22.extS hx7
  have ho30 := ho23.extS hx7
  have ho31 := ho24.extS hx7
  have ho32 := ho25.extS hx7
  have ho33 := ho26.extS hx7
  have ho34 := ho27.extS hx7
  have hxr4 := hxr3.trans2 hx7 hxr3.size
  have ho35 := ho28.base hx0_5.size
  refine lx_call [.int .i64 2, v7] rfl rfl Try.call70 rfl (outputs_spec h7 ((2 : Int)) v7 ([((0 : Int), (1 : Int))]) ho35.rd (by decide)) (fun _ _ _ => trivial) ?_
  rintro _ h8 ⟨v8, yo, rfl, ho36, hou, hx8⟩
  have hx0_7 := hx0_6.trans2 hx8 hx0_6.size
  have ho37 := ho29.extS hx8
  have ho38 := ho30.extS hx8
  have ho39 := ho31.extS hx8
  have ho40 := ho32.extS hx8
  have ho41 := ho33.extS hx8
  have ho42 := ho34.extS hx8
  have ho43 := ho35.extS hx8
  have hxr5 := hxr4.trans2 hx8 hxr4.size
  have ho44 := ho36.base hx0_6.size
  have hl3 : yo.length = 3 := by rw [good_ hou tenO_chk]; exact tenO_len
  refine lx_move (.tuple #[v8, .int .i64 (chkNet validC ((2 : Int)) ([((0 : Int), (1 : Int))]))]) rfl rfl <| lx_extract (v8) rfl rfl rfl <| lx_extract (.int .i64 (chkNet validC ((2 : Int)) ([((0 : Int), (1 : Int))]))) rfl rfl rfl <| lx_assign (v8) rfl rfl <| lx_assign (.int .i64 (chkNet validC ((2 : Int)) ([((0 : Int), (1 : Int))]))) rfl rfl <| lx_nil <| wi_seq <| wi_reg rfl <| lx_buildSlice (E := encB) h8.size [false, true, true, false] [.bool false, .bool true, .bool true, .bool false] rfl rfl eT70 rfl rfl rfl rfl (Nat.le_refl _) (fun _ _ _ => trivial) fun v9 h9 ho45 hx9 hvb6 hsz6 => ?_
  have hx0_8 := hx0_7.trans2 hx9 hx0_7.size
  have ho46 := ho37.extS hx9
  have ho47 := ho38.extS hx9
  have ho48 := ho39.extS hx9
  have ho49 := ho40.extS hx9
  have ho50 := ho41.extS hx9
  have ho51 := ho42.extS hx9
  have ho52 := ho43.extS hx9
  have ho53 := ho44.extS hx9
  have hxr6 := hxr5.trans2 hx9 hxr5.size
  have ho54 := ho45.base hx0_7.size
  refine lx_call [v9] rfl rfl Try.call119 rfl (degree_spec h9 v9 ([false, true, true, false]) ho54.rd rfl) (fun _ _ _ => trivial) ?_
  rintro _ h10 ⟨rfl, hx10⟩
  have hx0_9 := hx0_8.trans2 hx10 hx0_8.size
  have ho55 := ho46.extS hx10
  have ho56 := ho47.extS hx10
  have ho57 := ho48.extS hx10
  have ho58 := ho49.extS hx10
  have ho59 := ho50.extS hx10
  have ho60 := ho51.extS hx10
  have ho61 := ho52.extS hx10
  have ho62 := ho53.extS hx10
  have ho63 := ho54.extS hx10
  have hxr7 := hxr6.trans2 hx10 hxr6.size
  refine lx_move (.tuple #[.int .i64 ((2 : Nat) : Int), .int .i64 0]) rfl rfl <| lx_extract (.int .i64 ((2 : Nat) : Int)) rfl rfl rfl <| lx_extract (.int .i64 0) rfl rfl rfl <| lx_assign (.int .i64 ((2 : Nat) : Int)) rfl rfl <| lx_assign (.int .i64 0) rfl rfl <| lx_nil <| wi_seq <| wi_reg rfl <| lx_move (.int .i64 (chkT ([[true, true], [false, true]]))) rfl rfl <| lx_eqlT rfl rfl rfl tenP_chk <| lx_move (.bool true) rfl rfl <| lx_move (.int .i64 (chkS 2 ([(0 : Int), (1 : Int), (3 : Int)]))) rfl rfl <| lx_eqlT rfl rfl rfl tenS_chk <| lx_pick true (.bool true) rfl rfl rfl <| lx_move (.bool true) rfl rfl <| lx_move (.int .i64 (chkNet validC ((2 : Int)) ([((0 : Int), (1 : Int))]))) rfl rfl <| lx_eqlT rfl rfl rfl tenO_chk <| lx_pick true (.bool true) rfl rfl rfl <| lx_move (.bool true) rfl rfl <| lx_move (.int .i64 0) rfl rfl <| lx_eqlT rfl rfl rfl rfl <| lx_pick true (.bool true) rfl rfl rfl <| lx_move (.bool true) rfl rfl <| lx_move (v4) rfl rfl <| lx_len rfl Try.underlying25 ho58.rd rfl <| lx_eqlT rfl rfl rfl (by omega) <| lx_pick true (.bool true) rfl rfl rfl <| lx_move (.bool true) rfl rfl <| lx_move (v6) rfl rfl <| lx_len rfl Try.underlying25 ho60.rd rfl <| lx_eqlT rfl rfl rfl (by omega) <| lx_pick true (.bool true) rfl rfl rfl <| lx_move (.bool true) rfl rfl <| lx_move (v8) rfl rfl <| lx_len rfl Try.underlying25 ho62.rd rfl <| lx_eqlT rfl rfl rfl (by omega) <| lx_pick true (.bool true) rfl rfl rfl <| lx_move (.bool true) rfl rfl <| lx_move (.int .i64 ((2 : Nat) : Int)) rfl rfl <| lx_eqlT rfl rfl rfl rfl <| lx_pick true (.bool true) rfl rfl rfl <| lx_assign (.bool true) rfl rfl <| lx_nil <| ?_
  -- R1
  refine wi_ret ⟨.bool true, (res_one rfl rfl), ⟨rfl, hx0_9⟩⟩

end Go.Proofs.Ytdokijbdnajhgaa
