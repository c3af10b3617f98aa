/-
  Walks: SortRuns, SortPlain.
-/
import Derived.Test.YtjfickfgpkejpaaSP
import Derived.Test.YtjfickfgpkejpaaXFlat
import Derived.Test.YtjfickfgpkejpaaXMerge
set_option linter.unusedSimpArgs false
set_option linter.unusedVariables false
namespace Go.Proofs.Ytjfickfgpkejpaa
open Go Go.X

set_option maxRecDepth 10000 in
theorem sortRuns_spec (h : Heap) (n : Int) (vl : Value) (ls : List (Int × Int)) (vv : Value) (xs : List Int) (hr_vl : RdE encP h vl ls) (hr_vv : RdE encI h vv xs) (hp1 : -9223372036854775808 ≤ n) (hp2 : n ≤ 9223372036854775807) (hp3 : ls.length ≤ 9223372036854775807) (hp4 : xs.length ≤ 9223372036854775807) : Fx Try.prog 10 [.int .i64 n, vl, vv] h (fun v h' => v = .bool true ∧ Ext h.size h h') := by
  refine fx_intro (n := 147) [(0, .int .i64 n), (1, vl), (2, vv)] Try.func10 rfl rfl (by simp) ⟨rfl, rfl, rfl, trivial⟩ fun g0 => ?_
  refine wi_seq <| wi_reg rfl <| lx_assign (.bool false) rfl rfl <| lx_nil <| wi_seq <| wi_reg rfl <| lx_move (.int .i64 n) rfl rfl <| lx_call [.int .i64 n] rfl rfl Try.call23 rfl (wires_spec h n ) (fun _ _ _ => trivial) ?_
  rintro _ h1 ⟨rfl, rfl⟩
  refine lx_assign (.int .i64 ((1 + ur n % 10 : Nat) : Int)) rfl rfl <| lx_nil <| wi_seq <| wi_reg rfl <| ?_
  generalize hm : 1 + ur n % 10 = m
  have hm1 : 1 ≤ m ∧ m ≤ 10 := by omega
  have hpw := pow10 hm1.2
  refine lx_move (.int .i64 ((m : Nat) : Int)) rfl rfl <| lx_move (vl) rfl rfl <| lx_call [.int .i64 ((m : Nat) : Int), vl, .int .i64 30, .bool false] rfl rfl Try.call24 rfl (tame_spec h m vl ls 30 false hr_vl (by omega) (by omega) (by omega)) (fun _ _ _ => trivial) ?_
  rintro v1 h2 ⟨_, rfl, ho1, hx1⟩
  have ho2 := ho1.base (Nat.le_refl h.size)
  refine lx_assign (v1) rfl rfl <| lx_nil <| wi_seq <| wi_reg rfl <| ?_
  obtain ⟨net, hnet⟩ : ∃ x, x = tameF m 30 false ls := ⟨_, rfl⟩
  rw [← hnet] at ho2
  have htl := tameF_length (n := m) (most := 30) (loose := false) (ls := ls)
  have hnn := tame_lt (m := m) (most := 30) (ls := ls) hm1.1 hm1.2 (by omega)
  rw [← hnet] at htl hnn
  have hchk := netLt_chk hm1.1 hm1.2 (show net.length ≤ 200 by omega) hnn
  refine lx_move (.int .i64 ((m : Nat) : Int)) rfl rfl <| lx_move (vv) rfl rfl <| lx_call [.int .i64 ((m : Nat) : Int), vv] rfl rfl Try.call33 rfl (values_spec h2 m vv xs (hr_vv.extS hx1) (by omega) (by omega)) (fun _ _ _ => trivial) ?_
  rintro v2 h3 ⟨_, rfl, ho3, hx2⟩
  have hx0_1 := hx1.trans2 hx2 hx1.size
  have ho4 := ho2.extS hx2
  have ho5 := ho3.base hx1.size
  refine lx_assign (v2) rfl rfl <| lx_nil <| wi_seq <| wi_reg rfl <| ?_
  obtain ⟨ins, hins⟩ : ∃ x, x = valuesF m xs := ⟨_, rfl⟩
  rw [← hins] at ho5
  have hl3 : ins.length = m := by rw [hins]; exact valuesF_length m xs
  have hre := runE_zero hchk hl3
  refine lx_move (.int .i64 ((m : Nat) : Int)) rfl rfl <| lx_move (v1) rfl rfl <| lx_move (v2) rfl rfl <| lx_call [.int .i64 ((m : Nat) : Int), v1, v2] rfl rfl Try.call34 rfl (run_spec2 h3 (((m : Nat) : Int)) v1 net v2 ins ho4.rd ho5.rd (by omega) (by omega)) (fun _ _ _ => trivial) ?_
  rintro _ h4 ⟨vx, yr, rfl, ho6, hrv_1, hx3⟩
  have hx0_2 := hx0_1.trans2 hx3 hx0_1.size
  have ho7 := ho4.extS hx3
  have ho8 := ho5.extS hx3
  have ho9 := ho6.base hx0_1.size
  refine lx_move (.tuple #[vx, .int .i64 (runE (((m : Nat) : Int)) net ins)]) rfl rfl <| lx_extract (vx) rfl rfl rfl <| lx_extract (.int .i64 (runE (((m : Nat) : Int)) net ins)) rfl rfl rfl <| lx_assign (vx) rfl rfl <| lx_assign (.int .i64 (runE (((m : Nat) : Int)) net ins)) rfl rfl <| lx_nil <| wi_seq <| wi_reg rfl <| ?_
  have hrv := good_ hrv_1 hre
  have hyl : yr.length = m := by rw [hrv, runV_length]; exact hl3
  refine lx_move (.int .i64 ((m : Nat) : Int)) rfl rfl <| lx_move (v1) rfl rfl <| lx_call [.int .i64 ((m : Nat) : Int), v1] rfl rfl Try.call35 rfl (fails_spec h4 (((m : Nat) : Int)) v1 net ho7.rd (by omega)) (fun _ _ _ => trivial) ?_
  rintro _ h5 ⟨pf, bf, rfl, hf_1, hx4⟩
  have hx0_3 := hx0_2.trans2 hx4 hx0_2.size
  have ho10 := ho7.extS hx4
  have ho11 := ho8.extS hx4
  have ho12 := ho9.extS hx4
  refine lx_move (.tuple #[.int .i64 ((pf : Nat) : Int), .bool bf, .int .i64 (chkNet validC (((m : Nat) : Int)) net)]) rfl rfl <| lx_extract (.int .i64 ((pf : Nat) : Int)) rfl rfl rfl <| lx_extract (.bool bf) rfl rfl rfl <| lx_extract (.int .i64 (chkNet validC (((m : Nat) : Int)) net)) rfl rfl rfl <| lx_assign (.int .i64 ((pf : Nat) : Int)) rfl rfl <| lx_assign (.bool bf) rfl rfl <| lx_assign (.int .i64 (chkNet validC (((m : Nat) : Int)) net)) rfl rfl <| lx_nil <| wi_seq <| wi_reg rfl <| ?_
  have hfa := good_ hf_1 hchk
  rw [Int.toNat_natCast] at hfa
  refine lx_move (.int .i64 ((m : Nat) : Int)) rfl rfl <| lx_move (v1) rfl rfl <| lx_call [.int .i64 ((m : Nat) : Int), v1] rfl rfl Try.call39 rfl (rfails_spec h5 m v1 net ho10.rd (by omega) (by omega) (by omega)) (fun _ _ _ => trivial) ?_
  rintro _ h6 ⟨pr, br, rfl, hf_2, hx5⟩
  have hx0_4 := hx0_3.trans2 hx5 hx0_3.size
  have ho13 := ho10.extS hx5
  have ho14 := ho11.extS hx5
  have ho15 := ho12.extS hx5
  refine lx_move (.tuple #[.int .i64 ((pr : Nat) : Int), .bool br]) rfl rfl <| lx_extract (.int .i64 ((pr : Nat) : Int)) rfl rfl rfl <| lx_extract (.bool br) rfl rfl rfl <| lx_assign (.int .i64 ((pr : Nat) : Int)) rfl rfl <| lx_assign (.bool br) rfl rfl <| lx_nil <| wi_seq <| wi_reg rfl <| ?_
  obtain ⟨rfl, rfl⟩ := failsR_uniq hfa hf_2
  refine lx_move (.int .i64 ((m : Nat) : Int)) rfl rfl <| lx_move (v1) rfl rfl <| lx_call [.int .i64 ((m : Nat) : Int), v1] rfl rfl Try.call36 rfl (outputs_spec h6 (((m : Nat) : Int)) v1 net ho13.rd (by omega)) (fun _ _ _ => trivial) ?_
  rintro _ h7 ⟨vou, you, rfl, ho16, hou_1, hx6⟩
  have hx0_5 := hx0_4.trans2 hx6 hx0_4.size
  have ho17 := ho13.extS hx6
  have ho18 := ho14.extS hx6
  have ho19 := ho15.extS hx6
  have ho20 := ho16.base hx0_4.size
  refine lx_move (.tuple #[vou, .int .i64 (chkNet validC (((m : Nat) : Int)) net)]) rfl rfl <| lx_extract (vou) rfl rfl rfl <| lx_extract (.int .i64 (chkNet validC (((m : Nat) : Int)) net)) rfl rfl rfl <| lx_assign (vou) rfl rfl <| lx_assign (.int .i64 (chkNet validC (((m : Nat) : Int)) net)) rfl rfl <| lx_nil <| wi_seq <| wi_reg rfl <| ?_
  have houe := good_ hou_1 hchk
  rw [Int.toNat_natCast] at houe
  have houl := filtF_length (2 ^ m) (outB m net)
  have houl2 : you.length ≤ 1024 := by rw [houe]; exact Nat.le_trans houl hpw
  have houl3 : (outsF m net).length ≤ 1024 := by rw [← houe]; exact houl2
  refine lx_move (.int .i64 ((m : Nat) : Int)) rfl rfl <| lx_move (v1) rfl rfl <| lx_call [.int .i64 ((m : Nat) : Int), v1] rfl rfl Try.call37 rfl (idle_spec h7 (((m : Nat) : Int)) v1 net ho17.rd (by omega)) (fun _ _ _ => trivial) ?_
  rintro _ h8 ⟨vid, idl, rfl, ho21, hid_1, hx7⟩
  have hx0_6 := hx0_5.trans2 hx7 hx0_5.size
  have ho22 := ho17.extS hx7
  have ho23 := ho18.extS hx7
  have ho24 := ho19.extS hx7
  have ho25 := ho20.extS hx7
  have ho26 := ho21.base hx0_5.size
  refine lx_move (.tuple #[vid, .int .i64 (chkNet validC (((m : Nat) : Int)) net)]) rfl rfl <| lx_extract (vid) rfl rfl rfl <| lx_extract (.int .i64 (chkNet validC (((m : Nat) : Int)) net)) rfl rfl rfl <| lx_assign (vid) rfl rfl <| lx_assign (.int .i64 (chkNet validC (((m : Nat) : Int)) net)) rfl rfl <| lx_nil <| wi_seq <| wi_reg rfl <| ?_
  have hide := good_ hid_1 hchk
  rw [Int.toNat_natCast] at hide
  have hidl := idleF_length m net net.length
  have hidl2 : idl.length ≤ net.length := by rw [hide]; exact hidl
  refine lx_move (.int .i64 ((m : Nat) : Int)) rfl rfl <| lx_move (v1) rfl rfl <| lx_call [.int .i64 ((m : Nat) : Int), v1] rfl rfl Try.call38 rfl (layers_spec h8 (((m : Nat) : Int)) v1 net ho22.rd (by omega)) (fun _ _ _ => trivial) ?_
  rintro _ h9 ⟨vly, hsl, ylay, rfl, ho27, hot1, hly_1, hx8⟩
  have hx0_7 := hx0_6.trans2 hx8 hx0_6.size
  have ho28 := ho22.extS hx8
  have ho29 := ho23.extS hx8
  have ho30 := ho24.extS hx8
  have ho31 := ho25.extS hx8
  have ho32 := ho26.extS hx8
  have ho33 := ho27.base hx0_6.size
  have hot2 := hot1.base hx0_6.size
  have hl_hot2 := hot2.1
  refine lx_move (.tuple #[vly, .int .i64 (chkNet validC (((m : Nat) : Int)) net)]) rfl rfl <| lx_extract (vly) rfl rfl rfl <| lx_extract (.int .i64 (chkNet validC (((m : Nat) : Int)) net)) rfl rfl rfl <| lx_assign (vly) rfl rfl <| lx_assign (.int .i64 (chkNet validC (((m : Nat) : Int)) net)) rfl rfl <| lx_nil <| wi_seq <| wi_seq <| wi_reg rfl <| ?_
  have hlye := good_ hly_1 hchk
  have holy := outY_le net net.length
  rw [← hlye] at holy
  refine lx_move (.int .i64 (runE (((m : Nat) : Int)) net ins)) rfl rfl <| lx_neqF rfl rfl rfl (fun h => h hre) <| lx_move (.bool false) rfl rfl <| lx_move (.int .i64 (chkNet validC (((m : Nat) : Int)) net)) rfl rfl <| lx_neqF rfl rfl rfl (fun h => h hchk) <| lx_pick false (.bool false) rfl rfl rfl <| lx_move (.bool false) rfl rfl <| lx_move (.int .i64 (chkNet validC (((m : Nat) : Int)) net)) rfl rfl <| lx_neqF rfl rfl rfl (fun h => h hchk) <| lx_pick false (.bool false) rfl rfl rfl <| lx_move (.bool false) rfl rfl <| lx_move (.int .i64 (chkNet validC (((m : Nat) : Int)) net)) rfl rfl <| lx_neqF rfl rfl rfl (fun h => h hchk) <| lx_pick false (.bool false) rfl rfl rfl <| lx_move (.bool false) rfl rfl <| lx_move (.int .i64 (chkNet validC (((m : Nat) : Int)) net)) rfl rfl <| lx_neqF rfl rfl rfl (fun h => h hchk) <| lx_pick false (.bool false) rfl rfl rfl <| lx_move (.bool false) rfl rfl <| lx_move (vx) rfl rfl <| lx_move (v1) rfl rfl <| lx_move (v2) rfl rfl <| lx_call [v1, v2] rfl rfl Try.call40 rfl (rrun_spec h9 v1 net v2 ins ho28.rd ho29.rd (by rw [hl3]; exact hnn) (by omega) (by omega)) (fun _ _ _ => trivial) ?_
  rintro v3 h10 ⟨_, rfl, ho34, hx9⟩
  have hx0_8 := hx0_7.trans2 hx9 hx0_7.size
  have ho35 := ho28.extS hx9
  have ho36 := ho29.extS hx9
  have ho37 := ho30.extS hx9
  have ho38 := ho31.extS hx9
  have ho39 := ho32.extS hx9
  have ho40 := ho33.extS hx9
  have hot3 := hot2.extS hx9
  have ho41 := ho34.base hx0_7.size
  refine lx_call [vx, v3] rfl rfl Try.call32 rfl (longs_spec h10 vx yr v3 (runV net ins) ho37.rd ho41.rd (by first | omega | (rw [runV_length]; omega)) (by first | omega | (rw [runV_length]; omega))) (fun _ _ _ => trivial) ?_
  rintro _ h11 ⟨rfl, rfl⟩
  rw [decide_eq_true hrv]
  refine lx_notB false rfl rfl rfl <| lx_pick false (.bool false) rfl rfl rfl <| lx_move (.bool false) rfl rfl <| lx_move (.bool bf) rfl rfl <| lx_move (.bool bf) rfl rfl <| lx_neqBool false rfl Try.underlying4 rfl rfl (by simp) <| lx_pick false (.bool false) rfl rfl rfl <| lx_move (.bool false) rfl rfl <| lx_move (.int .i64 ((pf : Nat) : Int)) rfl rfl <| lx_move (.int .i64 ((pf : Nat) : Int)) rfl rfl <| lx_neqF rfl rfl rfl (fun h => h rfl) <| lx_pick false (.bool false) rfl rfl rfl <| lx_move (.bool false) rfl rfl <| lx_move (vou) rfl rfl <| lx_move (.int .i64 ((m : Nat) : Int)) rfl rfl <| lx_move (v1) rfl rfl <| lx_call [.int .i64 ((m : Nat) : Int), v1] rfl rfl Try.call41 rfl (routputs_spec h10 m v1 net ho35.rd (by omega) (by omega) (by omega)) (fun _ _ _ => trivial) ?_
  rintro v4 h12 ⟨_, rfl, ho42, hx10⟩
  have hx0_9 := hx0_8.trans2 hx10 hx0_8.size
  have ho43 := ho35.extS hx10
  have ho44 := ho36.extS hx10
  have ho45 := ho37.extS hx10
  have ho46 := ho38.extS hx10
  have ho47 := ho39.extS hx10
  have ho48 := ho40.extS hx10
  have hot4 := hot3.extS hx10
  have ho49 := ho41.extS hx10
  have ho50 := ho42.base hx0_8.size
  refine lx_call [vou, v4] rfl rfl Try.call27 rfl (ints_spec h12 vou you v4 (outsF m net) ho46.rd ho50.rd (by omega) (by omega)) (fun _ _ _ => trivial) ?_
  rintro _ h13 ⟨rfl, rfl⟩
  rw [decide_eq_true houe]
  refine lx_notB false rfl rfl rfl <| lx_pick false (.bool false) rfl rfl rfl <| lx_move (.bool false) rfl rfl <| lx_move (vid) rfl rfl <| lx_move (.int .i64 ((m : Nat) : Int)) rfl rfl <| lx_move (v1) rfl rfl <| lx_call [.int .i64 ((m : Nat) : Int), v1] rfl rfl Try.call42 rfl (ridle_spec h12 m v1 net ho43.rd (by omega) (by omega) (by omega)) (fun _ _ _ => trivial) ?_
  rintro v5 h14 ⟨_, rfl, ho51, hx11⟩
  have hx0_10 := hx0_9.trans2 hx11 hx0_9.size
  have ho52 := ho43.extS hx11
  have ho53 := ho44.extS hx11
  have ho54 := ho45.extS hx11
  have ho55 := ho46.extS hx11
  have ho56 := ho47.extS hx11
  have ho57 := ho48.extS hx11
  have hot5 := hot4.extS hx11
  have ho58 := ho49.extS hx11
  have ho59 := ho50.extS hx11
  have ho60 := ho51.base hx0_9.size
  refine lx_call [vid, v5] rfl rfl Try.call27 rfl (ints_spec h14 vid idl v5 (idleF m net net.length) ho56.rd ho60.rd (by omega) (by omega)) (fun _ _ _ => trivial) ?_
  rintro _ h15 ⟨rfl, rfl⟩
  rw [decide_eq_true hide]
  refine lx_notB false rfl rfl rfl <| lx_pick false (.bool false) rfl rfl rfl <| lx_nil <| wi_false rfl <| wi_skip <| wi_seq <| wi_reg rfl <| lx_move (.int .i64 ((m : Nat) : Int)) rfl rfl <| lx_move (v1) rfl rfl <| lx_call [.int .i64 ((m : Nat) : Int), v1] rfl rfl Try.call43 rfl (rlayers_spec h14 m v1 net ho52.rd (by omega) (by omega) (by omega)) (fun _ _ _ => trivial) ?_
  rintro vlr h16 ⟨_, hsr, rfl, ho61, hot6, hx12⟩
  have hx0_11 := hx0_10.trans2 hx12 hx0_10.size
  have ho62 := ho52.extS hx12
  have ho63 := ho53.extS hx12
  have ho64 := ho54.extS hx12
  have ho65 := ho55.extS hx12
  have ho66 := ho56.extS hx12
  have ho67 := ho57.extS hx12
  have hot7 := hot5.extS hx12
  have ho68 := ho58.extS hx12
  have ho69 := ho59.extS hx12
  have ho70 := ho60.extS hx12
  have ho71 := ho61.base hx0_10.size
  have hot8 := hot6.base hx0_10.size
  have hl_hot8 := hot8.1
  refine lx_assign (vlr) rfl rfl <| lx_nil <| wi_seq <| wi_seq <| wi_reg rfl <| ?_
  have hlyl : (outY net net.length).length = ylay.length := by rw [hlye]
  refine lx_move (vly) rfl rfl <| lx_len rfl Try.underlying65 ho67.rd rfl <| lx_move (vlr) rfl rfl <| lx_len rfl Try.underlying65 ho71.rd rfl <| lx_neqF rfl rfl rfl (by omega) <| lx_nil <| wi_false rfl <| wi_skip <| wi_seq <| wi_seq <| wi_reg rfl <| lx_assign (.int .i64 0) rfl rfl <| lx_nil <| wi_block <| ?_
  refine wi_loop (σ := Nat) (rngB 130 146 [6, 23]) (fun (k : Nat) => [(23, .int .i64 ((k : Nat) : Int))]) (fun (k : Nat) (hh : Heap) => h16 = hh ∧ (k ≤ ylay.length)) (fun (k : Nat) => ylay.length - k) 0 ⟨rfl, trivial⟩ ⟨rfl, ?_⟩ ?_
  · try dsimp only
    omega
  rintro g1 k hh1 ⟨rfl, hk⟩ IH1
  refine wi_seq <| wi_seq <| wi_reg rfl <| lx_move (.int .i64 ((k : Nat) : Int)) rfl rfl <| lx_move (vly) rfl rfl <| lx_len rfl Try.underlying65 ho67.rd rfl <| lx_lssS rfl rfl rfl (fun c1 => ?_) (fun c1 => ?_)
  · refine lx_nil <| wi_true rfl <| wi_skip <| wi_seq <| wi_block <| wi_seq <| wi_draw mo rfl (by decide +kernel) <| ?_
    have hrk : gt ylay k = gt (outY net net.length) k := by rw [hlye]
    have hrl9 := rowY_len net net.length k
    have hrl8 : (gt ylay k).length ≤ net.length := by rw [hrk]; exact hrl9
    refine lx_move (vly) rfl rfl <| lx_move (.int .i64 ((k : Nat) : Int)) rfl rfl <| lx_ix (i := k) rfl eT65 ho67.rd rfl rfl (by first | omega | (simp only [List.length_set, List.length_append, List.length_cons, List.length_nil, List.length_replicate, List.length_take, swp_length, exch_length]; omega)) <| lx_ld (i := k) (j := 0) ((gt hsl k).v) rfl rfl fl38 ho67.rd (by first | omega | (simp only [List.length_set, List.length_append, List.length_cons, List.length_nil, List.length_replicate, List.length_take, swp_length, exch_length]; omega)) rfl rfl <| lx_move (vlr) rfl rfl <| lx_move (.int .i64 ((k : Nat) : Int)) rfl rfl <| lx_ix (i := k) rfl eT65 ho71.rd rfl rfl (by first | omega | (simp only [List.length_set, List.length_append, List.length_cons, List.length_nil, List.length_replicate, List.length_take, swp_length, exch_length]; omega)) <| lx_ld (i := k) (j := 0) ((gt hsr k).v) rfl rfl fl38 ho71.rd (by first | omega | (simp only [List.length_set, List.length_append, List.length_cons, List.length_nil, List.length_replicate, List.length_take, swp_length, exch_length]; omega)) rfl rfl <| lx_call [(gt hsl k).v, (gt hsr k).v] rfl rfl Try.call21 rfl (nets_spec h16 ((gt hsl k).v) (gt ylay k) ((gt hsr k).v) (gt (outY net net.length) k) (hot7.2.1 k (by first | omega | (simp only [List.length_set, List.length_append, List.length_cons, List.length_nil, List.length_replicate, List.length_take, swp_length, exch_length]; omega))).rd (hot8.2.1 k (by first | omega | (simp only [List.length_set, List.length_append, List.length_cons, List.length_nil, List.length_replicate, List.length_take, swp_length, exch_length]; omega))).rd (by omega) (by omega)) (fun _ _ _ => trivial) ?_
    rintro _ h17 ⟨rfl, rfl⟩
    rw [decide_eq_true hrk]
    refine lx_notB false rfl rfl rfl <| lx_nil <| wi_false rfl <| wi_skip <| wi_inBlock <| wi_reg rfl <| lx_move (.int .i64 ((k : Nat) : Int)) rfl rfl <| lx_add (((k + 1 : Nat) : Int)) rfl rfl rfl (by omega) (by omega) (by omega) <| lx_assign (.int .i64 ((k + 1 : Nat) : Int)) rfl rfl <| lx_nil <| ?_
    -- L0.1
    refine IH1 _ _ (k + 1) (agree_ups rfl agree_self) ⟨rfl, trivial⟩ ⟨rfl, ?_⟩ ?_
    · try dsimp only
      omega
    · first | omega | (dsimp only; omega)
  · refine lx_nil <| wi_false rfl <| wi_exit rfl <| wi_seq <| wi_reg rfl <| lx_call [] rfl rfl Try.call15 rfl (awake_spec h16 ) (fun _ _ _ => trivial) ?_
    rintro _ h18 ⟨rfl, hx13⟩
    have hx0_12 := hx0_11.trans2 hx13 hx0_11.size
    have ho72 := ho62.extS hx13
    have ho73 := ho63.extS hx13
    have ho74 := ho64.extS hx13
    have ho75 := ho65.extS hx13
    have ho76 := ho66.extS hx13
    have ho77 := ho67.extS hx13
    have hot9 := hot7.extS hx13
    have ho78 := ho68.extS hx13
    have ho79 := ho69.extS hx13
    have ho80 := ho70.extS hx13
    have ho81 := ho71.extS hx13
    have hot10 := hot8.extS hx13
    refine lx_assign (.bool true) rfl rfl <| lx_nil <| ?_
    -- R1
    refine wi_ret ⟨.bool true, (res_one rfl rfl), ⟨rfl, hx0_12⟩⟩

set_option maxRecDepth 10000 in
theorem sortPlain_spec (h : Heap) (n : Int) (vl : Value) (ls : List (Int × Int)) (hr_vl : RdE encP h vl ls) (hp1 : -9223372036854775808 ≤ n) (hp2 : n ≤ 9223372036854775807) (hp3 : ls.length ≤ 9223372036854775807) : Fx Try.prog 9 [.int .i64 n, vl] h (fun v h' => v = .bool true ∧ Ext h.size h h') := by
  refine fx_intro (n := 235) [(0, .int .i64 n), (1, vl)] Try.func9 rfl rfl (by simp) ⟨rfl, rfl, trivial⟩ fun g0 => ?_
  refine wi_seq <| wi_reg rfl <| lx_assign (.bool false) rfl rfl <| lx_nil <| wi_seq <| wi_reg rfl <| lx_move (.int .i64 n) rfl rfl <| lx_call [.int .i64 n] rfl rfl Try.call23 rfl (wires_spec h n ) (fun _ _ _ => trivial) ?_
  rintro _ h1 ⟨rfl, rfl⟩
  refine lx_assign (.int .i64 ((1 + ur n % 10 : Nat) : Int)) rfl rfl <| lx_nil <| wi_seq <| wi_reg rfl <| ?_
  generalize hm : 1 + ur n % 10 = m
  have hm1 : 1 ≤ m ∧ m ≤ 10 := by omega
  have hpw := pow10 hm1.2
  refine lx_assign (.slice none 0 0) rfl rfl <| lx_nil <| wi_seq <| wi_seq <| wi_reg rfl <| lx_assign (.int .i64 0) rfl rfl <| lx_nil <| wi_block <| ?_
  refine wi_loop (σ := Nat × Value × (List (Int × Int))) (rngB 33 65 [5, 6, 7]) (fun (ss : Nat × Value × (List (Int × Int))) => [(6, .int .i64 ((ss.1 : Nat) : Int)), (5, ss.2.1)]) (fun (ss : Nat × Value × (List (Int × Int))) (hh : Heap) => OwE encP hh h.size 60 ss.2.1 ss.2.2 ∧ Ext h.size h hh ∧ (ss.1 ≤ 60) ∧ (ss.2.2.length ≤ ss.1) ∧ (PlainNet m ss.2.2)) (fun (ss : Nat × Value × (List (Int × Int))) => 60 - ss.1) (0, .slice none 0 0, []) ⟨rfl, rfl, trivial⟩ ⟨?_, (Ext.refl _ _), ?_, ?_, ?_⟩ ?_
  · first | exact (owE_nil encP _ h.size 60) | (simpa using (owE_nil encP _ h.size 60))
  · try dsimp only
    omega
  · try dsimp only
    exact Nat.zero_le _
  · try dsimp only
    exact PlainNet.nil m
  rintro g1 ⟨i, v, out⟩ hh1 ⟨ho1, hx0_1, hi, hol, hpo⟩ IH1
  dsimp only at *
  refine wi_seq <| wi_seq <| wi_reg rfl <| lx_move (.int .i64 ((i : Nat) : Int)) rfl rfl <| lx_move (vl) rfl rfl <| lx_len rfl Try.underlying38 hr_vl rfl <| lx_lssS rfl rfl rfl (fun c1 => ?_) (fun c1 => ?_)
  · refine lx_move (.bool true) rfl rfl <| lx_move (.int .i64 ((i : Nat) : Int)) rfl rfl <| lx_lssS rfl rfl rfl (fun c2 => ?_) (fun c2 => ?_)
    · refine lx_pick true (.bool true) rfl rfl rfl <| lx_move (.bool true) rfl rfl <| lx_move (.int .i64 ((m : Nat) : Int)) rfl rfl <| lx_gtrS rfl rfl rfl (fun c3 => ?_) (fun c3 => ?_)
      · refine lx_pick true (.bool true) rfl rfl rfl <| lx_nil <| wi_true rfl <| wi_skip <| wi_seq <| wi_block <| wi_seq <| wi_reg rfl <| lx_move (vl) rfl rfl <| lx_move (.int .i64 ((i : Nat) : Int)) rfl rfl <| lx_ix (i := i) rfl eT38 hr_vl rfl rfl (by first | omega | (simp only [List.length_set, List.length_append, List.length_cons, List.length_nil, List.length_replicate, List.length_take, swp_length, exch_length]; omega)) <| lx_ixP (i := i) (c := 0) rfl Try.underlying60 Try.sizeOf3 hr_vl (by first | omega | (simp only [List.length_set, List.length_append, List.length_cons, List.length_nil, List.length_replicate, List.length_take, swp_length, exch_length]; omega)) rfl rfl (by decide) <| lx_ld (i := i) (j := 0) (.int .i64 ((gt ls i).1)) rfl rfl fl3 (hr_vl.extS hx0_1) (by first | omega | (simp only [List.length_set, List.length_append, List.length_cons, List.length_nil, List.length_replicate, List.length_take, swp_length, exch_length]; omega)) rfl rfl <| lx_conv ((ur ((gt ls i).1) : Nat) : Int) rfl Try.underlying3 Try.underlying26 rfl (wrap_ur _) <| lx_move (.int .i64 ((m : Nat) : Int)) rfl rfl <| lx_sub (((m - 1 : Nat) : Int)) rfl rfl rfl (by omega) (by omega) (by omega) <| lx_conv ((m - 1 : Nat) : Int) rfl Try.underlying3 Try.underlying26 rfl (wrap_u64 (by omega) (by omega)) <| ?_
        have hmd := Nat.mod_lt (ur (gt ls i).1) (show 0 < m - 1 by omega)
        refine lx_rem (m := ur ((gt ls i).1)) (n := m - 1) rfl rfl rfl (by omega) <| lx_conv (((ur ((gt ls i).1)) % (m - 1) : Nat) : Int) rfl Try.underlying26 Try.underlying3 rfl (wrap_i64 (by omega) (by omega)) <| lx_assign (.int .i64 (((ur ((gt ls i).1)) % (m - 1) : Nat) : Int)) rfl rfl <| lx_nil <| wi_reg rfl <| lx_move (v) rfl rfl <| lx_move (.int .i64 (((ur ((gt ls i).1)) % (m - 1) : Nat) : Int)) rfl rfl <| lx_move (.int .i64 (((ur ((gt ls i).1)) % (m - 1) : Nat) : Int)) rfl rfl <| lx_add ((((ur ((gt ls i).1)) % (m - 1) + 1 : Nat) : Int)) rfl rfl rfl (by omega) (by omega) (by omega) <| lx_build (.agg #[.int .i64 (((ur ((gt ls i).1)) % (m - 1) : Nat) : Int), .int .i64 (((ur ((gt ls i).1)) % (m - 1) + 1 : Nat) : Int)]) [(0, .int .i64 (((ur ((gt ls i).1)) % (m - 1) : Nat) : Int)), (1, .int .i64 (((ur ((gt ls i).1)) % (m - 1) + 1 : Nat) : Int))] rfl rfl (fun w => bld60_2 _ _ w) <| lx_appendL (E := encP) (B := h.size) [((((ur ((gt ls i).1)) % (m - 1) : Nat) : Int), (((ur ((gt ls i).1)) % (m - 1) + 1 : Nat) : Int))] [.agg #[.int .i64 (((ur ((gt ls i).1)) % (m - 1) : Nat) : Int), .int .i64 (((ur ((gt ls i).1)) % (m - 1) + 1 : Nat) : Int)]] rfl rfl (fun _ => rfl) rfl eT38 rfl rfl rfl rfl ho1 (fun _ => rfl) (by show out.length + 1 ≤ _; omega) (by show (out.length + 1) * 16 ≤ _; omega) hx0_1.size (fun _ _ => trivial) fun u1 v1 h2 ho2 hc1 hg1 => ?_
        have hx0_2 := hx0_1.trans (ho1.ext hc1 hx0_1.size)
        refine lx_assign (v1) rfl rfl <| lx_nil <| wi_inBlock <| wi_reg rfl <| lx_move (.int .i64 ((i : Nat) : Int)) rfl rfl <| lx_add (((i + 1 : Nat) : Int)) rfl rfl rfl (by omega) (by omega) (by omega) <| lx_assign (.int .i64 ((i + 1 : Nat) : Int)) rfl rfl <| lx_nil <| ?_
        -- L0.1
        refine IH1 _ _ (i + 1, v1, out ++ [((((ur ((gt ls i).1)) % (m - 1) : Nat) : Int), (((ur ((gt ls i).1)) % (m - 1) + 1 : Nat) : Int))]) (agree_ups rfl agree_self) ⟨rfl, rfl, trivial⟩ ⟨?_, hx0_2, ?_, ?_, ?_⟩ ?_
        · first | exact ho2 | (simpa using ho2)
        · try dsimp only
          omega
        · try dsimp only
          rw [List.length_append]; show _ + 1 ≤ _; omega
        · try dsimp only
          exact hpo.snoc (by omega)
        · first | omega | (dsimp only; omega)
      · refine lx_pick true (.bool false) rfl rfl rfl <| lx_nil <| wi_false rfl <| wi_exit rfl <| wi_seq <| wi_seq <| wi_reg rfl <| lx_move (vl) rfl rfl <| lx_len rfl Try.underlying38 hr_vl rfl <| lx_rem (m := ls.length) (n := 3) rfl rfl rfl (by omega) <| lx_eql rfl rfl rfl <| lx_nil <| ?_
        refine wi_cutE (σ := Value × (List (Int × Int))) (rngB 69 89 [5, 8, 9]) (fun (ss : Value × (List (Int × Int))) => [(5, ss.1)]) (fun (ss : Value × (List (Int × Int))) (hh : Heap) => OwE encP hh h.size 60 ss.1 ss.2 ∧ Ext h.size h hh ∧ (ss.2.length ≤ 120) ∧ (PlainNet m ss.2)) (fun J1 => ?_) ?_
        · refine wi_condS (t := decide (((ls.length % 3 : Nat) : Int) = (0 : Int))) rfl (fun c4 => ?_) (fun c4 => ?_)
          · refine wi_seq <| wi_reg rfl <| lx_assign (.slice none 0 0) rfl rfl <| lx_nil <| wi_seq <| wi_reg rfl <| lx_assign (.int .i64 0) rfl rfl <| lx_nil <| wi_block <| ?_
            refine wi_loop (σ := Nat × Value × (List (Int × Int))) (rngB 69 89 [5, 8, 9]) (fun (ss : Nat × Value × (List (Int × Int))) => [(8, .int .i64 ((ss.1 : Nat) : Int)), (5, ss.2.1)]) (fun (ss : Nat × Value × (List (Int × Int))) (hh : Heap) => OwE encP hh h.size 60 ss.2.1 ss.2.2 ∧ Ext h.size h hh ∧ (ss.1 ≤ m) ∧ (ss.2.2.length ≤ 10 * ss.1) ∧ (PlainNet m ss.2.2)) (fun (ss : Nat × Value × (List (Int × Int))) => m - ss.1) (0, .slice none 0 0, []) ⟨rfl, rfl, trivial⟩ ⟨?_, hx0_1, ?_, ?_, ?_⟩ ?_
            · first | exact (owE_nil encP _ h.size 60) | (simpa using (owE_nil encP _ h.size 60))
            · try dsimp only
              omega
            · try dsimp only
              exact Nat.zero_le _
            · try dsimp only
              exact PlainNet.nil m
            rintro g2 ⟨i, v, out⟩ hh2 ⟨ho3, hx0_3, hi, hol, hpo⟩ IH2
            dsimp only at *
            refine wi_seq <| wi_seq <| wi_reg rfl <| lx_move (.int .i64 ((i : Nat) : Int)) rfl rfl <| lx_move (.int .i64 ((m : Nat) : Int)) rfl rfl <| lx_lssS rfl rfl rfl (fun c5 => ?_) (fun c5 => ?_)
            · refine lx_nil <| wi_true rfl <| wi_skip <| wi_seq <| wi_block <| wi_seq <| wi_reg rfl <| lx_assign (.int .i64 0) rfl rfl <| lx_nil <| wi_block <| ?_
              refine wi_loop (σ := Nat × Value × (List (Int × Int))) (rngB 74 89 [5, 9]) (fun (ss : Nat × Value × (List (Int × Int))) => [(9, .int .i64 ((ss.1 : Nat) : Int)), (5, ss.2.1)]) (fun (ss : Nat × Value × (List (Int × Int))) (hh : Heap) => OwE encP hh h.size 60 ss.2.1 ss.2.2 ∧ Ext h.size h hh ∧ (ss.1 ≤ 10) ∧ (ss.2.2.length ≤ 10 * i + ss.1) ∧ (PlainNet m ss.2.2)) (fun (ss : Nat × Value × (List (Int × Int))) => m - ss.1) (0, v, out) ⟨rfl, rfl, trivial⟩ ⟨?_, hx0_3, ?_, ?_, ?_⟩ ?_
              · first | exact ho3 | (simpa using ho3)
              · try dsimp only
                omega
              · try dsimp only
                omega
              · try dsimp only
                exact hpo
              rintro g3 ⟨k, v, out⟩ hh3 ⟨ho4, hx0_4, hk, hol2, hpo2⟩ IH3
              dsimp only at *
              refine wi_seq <| wi_seq <| wi_reg rfl <| lx_move (.int .i64 ((k : Nat) : Int)) rfl rfl <| lx_add (((k + 1 : Nat) : Int)) rfl rfl rfl (by omega) (by omega) (by omega) <| lx_move (.int .i64 ((m : Nat) : Int)) rfl rfl <| lx_move (.int .i64 ((i : Nat) : Int)) rfl rfl <| lx_sub (((m - i : Nat) : Int)) rfl rfl rfl (by omega) (by omega) (by omega) <| lx_lssS rfl rfl rfl (fun c6 => ?_) (fun c6 => ?_)
              · refine lx_nil <| wi_true rfl <| wi_skip <| wi_seq <| wi_block <| wi_reg rfl <| lx_move (v) rfl rfl <| lx_move (.int .i64 ((k : Nat) : Int)) rfl rfl <| lx_move (.int .i64 ((k : Nat) : Int)) rfl rfl <| lx_add (((k + 1 : Nat) : Int)) rfl rfl rfl (by omega) (by omega) (by omega) <| lx_build (.agg #[.int .i64 ((k : Nat) : Int), .int .i64 ((k + 1 : Nat) : Int)]) [(0, .int .i64 ((k : Nat) : Int)), (1, .int .i64 ((k + 1 : Nat) : Int))] rfl rfl (fun w => bld60_2 _ _ w) <| lx_appendL (E := encP) (B := h.size) [(((k : Nat) : Int), ((k + 1 : Nat) : Int))] [.agg #[.int .i64 ((k : Nat) : Int), .int .i64 ((k + 1 : Nat) : Int)]] rfl rfl (fun _ => rfl) rfl eT38 rfl rfl rfl rfl ho4 (fun _ => rfl) (by show out.length + 1 ≤ _; omega) (by show (out.length + 1) * 16 ≤ _; omega) hx0_4.size (fun _ _ => trivial) fun u2 v2 h3 ho5 hc2 hg2 => ?_
                have hx0_5 := hx0_4.trans (ho4.ext hc2 hx0_4.size)
                refine lx_assign (v2) rfl rfl <| lx_nil <| wi_inBlock <| wi_reg rfl <| lx_move (.int .i64 ((k : Nat) : Int)) rfl rfl <| lx_add (((k + 1 : Nat) : Int)) rfl rfl rfl (by omega) (by omega) (by omega) <| lx_assign (.int .i64 ((k + 1 : Nat) : Int)) rfl rfl <| lx_nil <| ?_
                -- L4.1
                refine IH3 _ _ (k + 1, v2, out ++ [(((k : Nat) : Int), ((k + 1 : Nat) : Int))]) (agree_ups rfl agree_self) ⟨rfl, rfl, trivial⟩ ⟨?_, hx0_5, ?_, ?_, ?_⟩ ?_
                · first | exact ho5 | (simpa using ho5)
                · try dsimp only
                  omega
                · try dsimp only
                  rw [List.length_append]; show _ + 1 ≤ _; omega
                · try dsimp only
                  exact hpo2.snoc (by omega)
                · first | omega | (dsimp only; omega)
              · refine lx_nil <| wi_false rfl <| wi_exit rfl <| wi_inBlock <| wi_reg rfl <| lx_move (.int .i64 ((i : Nat) : Int)) rfl rfl <| lx_add (((i + 1 : Nat) : Int)) rfl rfl rfl (by omega) (by omega) (by omega) <| lx_assign (.int .i64 ((i + 1 : Nat) : Int)) rfl rfl <| lx_nil <| ?_
                -- L2.1
                refine IH2 _ _ (i + 1, v, out) (agree_ups rfl (agree_mix (rngB_sub (by decide) (by decide) rfl) (agree_ups rfl agree_self))) ⟨rfl, rfl, trivial⟩ ⟨?_, hx0_4, ?_, ?_, ?_⟩ ?_
                · first | exact ho4 | (simpa using ho4)
                · try dsimp only
                  omega
                · try dsimp only
                  omega
                · try dsimp only
                  exact hpo2
                · first | omega | (dsimp only; omega)
            · refine lx_nil <| wi_false rfl <| wi_exit rfl <| ?_
              -- Jt68.1
              refine J1 _ _ (v, out) (agree_ups rfl (agree_mix (rngB_sub (by decide) (by decide) rfl) (agree_ups rfl agree_upsJ))) ⟨rfl, trivial⟩ ⟨?_, hx0_3, ?_, ?_⟩
              · first | exact ho3 | (simpa using ho3)
              · try dsimp only
                omega
              · try dsimp only
                exact hpo
          · refine wi_skip <| ?_
            -- Jt68.2
            refine J1 _ _ (v, out) (agree_ups rfl agree_upsJ) ⟨rfl, trivial⟩ ⟨?_, hx0_1, ?_, ?_⟩
            · first | exact ho1 | (simpa using ho1)
            · try dsimp only
              omega
            · try dsimp only
              exact hpo
        rintro g4 ⟨vo, net⟩ hh4 ⟨ho6, hx0_6, hnl, hpn⟩
        dsimp only at *
        refine wi_seq <| wi_reg rfl <| ?_
        have hnn := hpn.lt
        have hchk := netLt_chk hm1.1 hm1.2 (show net.length ≤ 200 by omega) hnn
        refine lx_move (.int .i64 ((m : Nat) : Int)) rfl rfl <| lx_move (vo) rfl rfl <| lx_call [.int .i64 ((m : Nat) : Int), vo] rfl rfl Try.call35 rfl (fails_spec hh4 (((m : Nat) : Int)) vo net ho6.rd (by omega)) (fun _ _ _ => trivial) ?_
        rintro _ h4 ⟨pf, bf, rfl, hf_1, hx1⟩
        have hx0_7 := hx0_6.trans2 hx1 hx0_6.size
        have ho7 := ho6.extS hx1
        refine lx_move (.tuple #[.int .i64 ((pf : Nat) : Int), .bool bf, .int .i64 (chkNet validC (((m : Nat) : Int)) net)]) rfl rfl <| lx_extract (.int .i64 ((pf : Nat) : Int)) rfl rfl rfl <| lx_extract (.bool bf) rfl rfl rfl <| lx_extract (.int .i64 (chkNet validC (((m : Nat) : Int)) net)) rfl rfl rfl <| lx_assign (.int .i64 ((pf : Nat) : Int)) rfl rfl <| lx_assign (.bool bf) rfl rfl <| lx_assign (.int .i64 (chkNet validC (((m : Nat) : Int)) net)) rfl rfl <| lx_nil <| wi_seq <| wi_reg rfl <| ?_
        have hfa := good_ hf_1 hchk
        rw [Int.toNat_natCast] at hfa
        have hpl := plain_law hpn hfa
        have hl3 := valuesF_length m []
        have hre := runE_zero hchk hl3
        refine lx_move (.int .i64 ((m : Nat) : Int)) rfl rfl <| lx_move (vo) rfl rfl <| lx_move (.int .i64 ((m : Nat) : Int)) rfl rfl <| lx_call [.int .i64 ((m : Nat) : Int), .slice none 0 0] rfl rfl Try.call33 rfl (values_spec h4 m ((.slice none 0 0)) ([]) (owE_nil encI _ 0 0).rd (by omega) (Nat.zero_le _)) (fun _ _ _ => trivial) ?_
        rintro vin h5 ⟨_, rfl, ho8, hx2⟩
        have hx0_8 := hx0_7.trans2 hx2 hx0_7.size
        have ho9 := ho7.extS hx2
        have ho10 := ho8.base hx0_7.size
        refine lx_call [.int .i64 ((m : Nat) : Int), vo, vin] rfl rfl Try.call34 rfl (run_spec2 h5 (((m : Nat) : Int)) vo net vin (valuesF m ([])) ho9.rd ho10.rd (by omega) (by omega)) (fun _ _ _ => trivial) ?_
        rintro _ h6 ⟨vx, yr, rfl, ho11, hrv_1, hx3⟩
        have hx0_9 := hx0_8.trans2 hx3 hx0_8.size
        have ho12 := ho9.extS hx3
        have ho13 := ho10.extS hx3
        have ho14 := ho11.base hx0_8.size
        refine lx_move (.tuple #[vx, .int .i64 (runE (((m : Nat) : Int)) net (valuesF m ([])))]) rfl rfl <| lx_extract (vx) rfl rfl rfl <| lx_extract (.int .i64 (runE (((m : Nat) : Int)) net (valuesF m ([])))) rfl rfl rfl <| lx_assign (vx) rfl rfl <| lx_assign (.int .i64 (runE (((m : Nat) : Int)) net (valuesF m ([])))) rfl rfl <| lx_nil <| wi_seq <| wi_reg rfl <| ?_
        have hrv := good_ hrv_1 hre
        have hyl : yr.length = m := by rw [hrv, runV_length]; exact hl3
        refine lx_move (.int .i64 ((m : Nat) : Int)) rfl rfl <| lx_call [.int .i64 ((m : Nat) : Int)] rfl rfl Try.call20 rfl (merge_spec h6 (((m : Nat) : Int)) ) (fun _ _ _ => trivial) ?_
        rintro _ h7 ⟨vm, ms, rfl, ho15, hm_1, hx4⟩
        have hx0_10 := hx0_9.trans2 hx4 hx0_9.size
        have ho16 := ho12.extS hx4
        have ho17 := ho13.extS hx4
        have ho18 := ho14.extS hx4
        have ho19 := ho15.base hx0_9.size
        refine lx_move (.tuple #[vm, .int .i64 (if (((m : Nat) : Int)) < 1 ∨ 10 < (((m : Nat) : Int)) then 1 else 0)]) rfl rfl <| lx_extract (vm) rfl rfl rfl <| lx_extract (.int .i64 (if (((m : Nat) : Int)) < 1 ∨ 10 < (((m : Nat) : Int)) then 1 else 0)) rfl rfl rfl <| lx_assign (vm) rfl rfl <| lx_assign (.int .i64 (if (((m : Nat) : Int)) < 1 ∨ 10 < (((m : Nat) : Int)) then 1 else 0)) rfl rfl <| lx_nil <| wi_seq <| wi_reg rfl <| ?_
        have hme : ms = mergeF m := by rw [hm_1, if_neg (by omega), Int.toNat_natCast]
        have hml : ms.length ≤ 31 := by rw [hme]; exact mergeF_short m (by omega)
        have hchk2 : chkNet validC ((m : Nat) : Int) ms = 0 := by rw [hme]; exact merge_chk m hm1.1 hm1.2
        refine lx_move (.int .i64 ((m : Nat) : Int)) rfl rfl <| lx_move (vm) rfl rfl <| lx_call [.int .i64 ((m : Nat) : Int), vm] rfl rfl Try.call35 rfl (fails_spec h7 (((m : Nat) : Int)) vm ms ho19.rd (by omega)) (fun _ _ _ => trivial) ?_
        rintro _ h8 ⟨p2, b2, rfl, hf_2, hx5⟩
        have hx0_11 := hx0_10.trans2 hx5 hx0_10.size
        have ho20 := ho16.extS hx5
        have ho21 := ho17.extS hx5
        have ho22 := ho18.extS hx5
        have ho23 := ho19.extS hx5
        refine lx_move (.tuple #[.int .i64 ((p2 : Nat) : Int), .bool b2, .int .i64 (chkNet validC (((m : Nat) : Int)) ms)]) rfl rfl <| lx_extract (.int .i64 ((p2 : Nat) : Int)) rfl rfl rfl <| lx_extract (.bool b2) rfl rfl rfl <| lx_extract (.int .i64 (chkNet validC (((m : Nat) : Int)) ms)) rfl rfl rfl <| lx_assign (.int .i64 ((p2 : Nat) : Int)) rfl rfl <| lx_assign (.bool b2) rfl rfl <| lx_assign (.int .i64 (chkNet validC (((m : Nat) : Int)) ms)) rfl rfl <| lx_nil <| wi_seq <| wi_seq <| wi_reg rfl <| ?_
        have hfa2 := good_ hf_2 hchk2
        rw [Int.toNat_natCast] at hfa2
        obtain rfl := fails_no hfa2 (by rw [hme]; exact merge_sorts hm1.1 hm1.2)
        refine lx_move (.int .i64 (chkNet validC (((m : Nat) : Int)) net)) rfl rfl <| lx_neqF rfl rfl rfl (fun h => h hchk) <| lx_move (.bool false) rfl rfl <| lx_move (.int .i64 (runE (((m : Nat) : Int)) net (valuesF m ([])))) rfl rfl <| lx_neqF rfl rfl rfl (fun h => h hre) <| lx_pick false (.bool false) rfl rfl rfl <| lx_move (.bool false) rfl rfl <| lx_move (.int .i64 (if (((m : Nat) : Int)) < 1 ∨ 10 < (((m : Nat) : Int)) then 1 else 0)) rfl rfl <| lx_neqF rfl rfl rfl (by rw [if_neg (by omega)]; decide) <| lx_pick false (.bool false) rfl rfl rfl <| lx_move (.bool false) rfl rfl <| lx_move (.int .i64 (chkNet validC (((m : Nat) : Int)) ms)) rfl rfl <| lx_neqF rfl rfl rfl (fun h => h hchk2) <| lx_pick false (.bool false) rfl rfl rfl <| lx_move (.bool false) rfl rfl <| lx_move (.bool bf) rfl rfl <| lx_move (vx) rfl rfl <| lx_call [vx] rfl rfl Try.call19 rfl (inOrder_spec h8 vx yr ho22.rd (by omega)) (fun _ _ _ => trivial) ?_
        rintro _ h9 ⟨rfl, rfl⟩
        refine lx_eqlBool false rfl Try.underlying4 rfl rfl (by rw [hpl, ← hrv]; cases inOrd yr <;> rfl) <| lx_pick false (.bool false) rfl rfl rfl <| lx_move (.bool false) rfl rfl <| lx_move (.bool false) rfl rfl <| lx_pick false (.bool false) rfl rfl rfl <| lx_nil <| wi_false rfl <| wi_skip <| wi_seq <| wi_reg rfl <| lx_move (.int .i64 ((m : Nat) : Int)) rfl rfl <| lx_move (vo) rfl rfl <| lx_call [.int .i64 ((m : Nat) : Int), vo] rfl rfl Try.call38 rfl (layers_spec h8 (((m : Nat) : Int)) vo net ho20.rd (by omega)) (fun _ _ _ => trivial) ?_
        rintro _ h10 ⟨vly, hsl, ylay, rfl, ho24, hot1, hly_1, hx6⟩
        have hx0_12 := hx0_11.trans2 hx6 hx0_11.size
        have ho25 := ho20.extS hx6
        have ho26 := ho21.extS hx6
        have ho27 := ho22.extS hx6
        have ho28 := ho23.extS hx6
        have ho29 := ho24.base hx0_11.size
        have hot2 := hot1.base hx0_11.size
        have hl_hot2 := hot2.1
        refine lx_move (.tuple #[vly, .int .i64 (chkNet validC (((m : Nat) : Int)) net)]) rfl rfl <| lx_extract (vly) rfl rfl rfl <| lx_extract (.int .i64 (chkNet validC (((m : Nat) : Int)) net)) rfl rfl rfl <| lx_assign (vly) rfl rfl <| lx_assign (.int .i64 (chkNet validC (((m : Nat) : Int)) net)) rfl rfl <| lx_nil <| wi_seq <| wi_reg rfl <| ?_
        have hlye := good_ hly_1 hchk
        have hli := layI (Nat.le_refl net.length)
        rw [← hlye] at hli
        have hlil := hli.len
        have holy := outY_le net net.length
        rw [← hlye] at holy
        refine lx_assign (.slice none 0 0) rfl rfl <| lx_nil <| wi_seq <| wi_seq <| wi_reg rfl <| lx_assign (.int .i64 0) rfl rfl <| lx_nil <| wi_block <| ?_
        refine wi_loop (σ := Nat × Value × (List (Int × Int))) (rngB 145 198 [4, 22, 23, 24, 25, 26]) (fun (ss : Nat × Value × (List (Int × Int))) => [(23, .int .i64 ((ss.1 : Nat) : Int)), (22, ss.2.1)]) (fun (ss : Nat × Value × (List (Int × Int))) (hh : Heap) => OwE encHd hh h.size 38 vly hsl ∧ OT encP hh h.size 60 hsl ylay ∧ OwE encP hh h.size 60 vo net ∧ OwE encP hh h.size 60 ss.2.1 ss.2.2 ∧ Ext h.size h hh ∧ Dj ss.2.1 vo ∧ Djt hsl ss.2.1 ∧ Djt hsl vo ∧ (ss.1 ≤ ylay.length) ∧ (ss.2.2 = flatF ylay ss.1 0)) (fun (ss : Nat × Value × (List (Int × Int))) => ylay.length - ss.1) (0, .slice none 0 0, []) ⟨rfl, rfl, trivial⟩ ⟨?_, ?_, ?_, ?_, hx0_12, (dj_nil_l _), (djt_nil _), (djt_newT ho20 hot1), ?_, ?_⟩ ?_
        · first | exact ho29 | (simpa using ho29)
        · first | exact hot2 | (simpa using hot2)
        · first | exact ho25 | (simpa using ho25)
        · first | exact (owE_nil encP _ h.size 60) | (simpa using (owE_nil encP _ h.size 60))
        · try dsimp only
          omega
        · try dsimp only
          first | done | rfl
        rintro g5 ⟨k, v, flat⟩ hh5 ⟨ho30, hot3, ho31, ho32, hx0_13, hdj1, hdt1, hdt2, hk, hfl1⟩ IH4
        dsimp only at *
        have hl_hot3 := hot3.1
        refine wi_seq <| wi_seq <| wi_reg rfl <| lx_move (.int .i64 ((k : Nat) : Int)) rfl rfl <| lx_move (vly) rfl rfl <| lx_len rfl Try.underlying65 ho30.rd rfl <| lx_lssS rfl rfl rfl (fun c7 => ?_) (fun c7 => ?_)
        · refine lx_nil <| wi_true rfl <| wi_skip <| wi_seq <| wi_block <| wi_seq <| wi_reg rfl <| lx_assign (.int .i64 0) rfl rfl <| lx_nil <| wi_seq <| wi_reg rfl <| lx_assign (.int .i64 0) rfl rfl <| lx_nil <| wi_block <| ?_
          refine wi_loop (σ := Nat × Nat × Value × (List (Int × Int))) (rngB 151 198 [4, 22, 24, 25, 26]) (fun (ss : Nat × Nat × Value × (List (Int × Int))) => [(25, .int .i64 ((ss.1 : Nat) : Int)), (24, .int .i64 ((ss.2.1 : Nat) : Int)), (22, ss.2.2.1)]) (fun (ss : Nat × Nat × Value × (List (Int × Int))) (hh : Heap) => OwE encHd hh h.size 38 vly hsl ∧ OT encP hh h.size 60 hsl ylay ∧ OwE encP hh h.size 60 vo net ∧ OwE encP hh h.size 60 ss.2.2.1 ss.2.2.2 ∧ Ext h.size h hh ∧ Dj ss.2.2.1 vo ∧ Djt hsl ss.2.2.1 ∧ Djt hsl vo ∧ (ss.1 ≤ (gt ylay k).length) ∧ (ss.2.1 = usedF (gt ylay k) ss.1) ∧ (ss.2.2.2 = flatF ylay k ss.1)) (fun (ss : Nat × Nat × Value × (List (Int × Int))) => (gt ylay k).length - ss.1) (0, 0, v, flat) ⟨rfl, rfl, rfl, trivial⟩ ⟨?_, ?_, ?_, ?_, hx0_13, hdj1, hdt1, hdt2, ?_, ?_, ?_⟩ ?_
          · first | exact ho30 | (simpa using ho30)
          · first | exact hot3 | (simpa using hot3)
          · first | exact ho31 | (simpa using ho31)
          · first | exact ho32 | (simpa using ho32)
          · try dsimp only
            omega
          · try dsimp only
            first | done | rfl
          · try dsimp only
            exact hfl1
          rintro g6 ⟨j, u, v, flat⟩ hh6 ⟨ho33, hot4, ho34, ho35, hx0_14, hdj2, hdt3, hdt4, hj, hu, hfl2⟩ IH5
          dsimp only at *
          have hfl9 := flatF_len (Y := ylay) (show k < ylay.length by omega) (show j ≤ (gt ylay k).length by omega)
          rw [← hfl2, hlil] at hfl9
          have hl_hot4 := hot4.1
          refine wi_seq <| wi_seq <| wi_reg rfl <| ?_
          refine lx_move (.int .i64 ((j : Nat) : Int)) rfl rfl <| lx_move (vly) rfl rfl <| lx_move (.int .i64 ((k : Nat) : Int)) rfl rfl <| lx_ix (i := k) rfl eT65 ho33.rd rfl rfl (by first | omega | (simp only [List.length_set, List.length_append, List.length_cons, List.length_nil, List.length_replicate, List.length_take, swp_length, exch_length]; omega)) <| lx_ld (i := k) (j := 0) ((gt hsl k).v) rfl rfl fl38 ho33.rd (by first | omega | (simp only [List.length_set, List.length_append, List.length_cons, List.length_nil, List.length_replicate, List.length_take, swp_length, exch_length]; omega)) rfl rfl <| lx_len rfl Try.underlying38 (hot4.2.1 k (by first | omega | (simp only [List.length_set, List.length_append, List.length_cons, List.length_nil, List.length_replicate, List.length_take, swp_length, exch_length]; omega))).rd rfl <| lx_lssS rfl rfl rfl (fun c8 => ?_) (fun c8 => ?_)
          · refine lx_nil <| wi_true rfl <| wi_skip <| wi_seq <| wi_block <| wi_seq <| wi_draw mo rfl (by decide +kernel) <| ?_
            have hjl9 : j < (gt ylay k).length := by omega
            have hrl9 := rowY_len net net.length k
            rw [← hlye] at hrl9
            obtain ⟨a, b, hgc, hab, hb⟩ := hnn _ (hli.mem k _ (gt_mem hjl9))
            have hpa := pow10 (show a ≤ 10 by omega)
            have hpb := pow10 (show b ≤ 10 by omega)
            have hpor : 1 * 2 ^ a ||| 1 * 2 ^ b < 2 ^ 11 := Nat.or_lt_two_pow (by omega) (by omega)
            have hz := used_and hjl9 (fun p q h1 h2 => hli.disj k p q h1 h2) hgc
            have hul := usedF_lt (l := gt ylay k) (fun p hp => by obtain ⟨a, b, e, h1, h2⟩ := hnn _ (hli.mem k _ (gt_mem hp)); rw [e]; simp only [Int.toNat_natCast]; omega) (k := j) (by omega)
            rw [← hu] at hz hul
            have hor2 : u ||| (1 * 2 ^ a ||| 1 * 2 ^ b) < 2 ^ 11 := Nat.or_lt_two_pow (by omega) (by omega)
            have hfl := flatF_len (Y := ylay) (show k < ylay.length by omega) (show j ≤ (gt ylay k).length by omega)
            refine lx_move (vly) rfl rfl <| lx_move (.int .i64 ((k : Nat) : Int)) rfl rfl <| lx_ix (i := k) rfl eT65 ho33.rd rfl rfl (by first | omega | (simp only [List.length_set, List.length_append, List.length_cons, List.length_nil, List.length_replicate, List.length_take, swp_length, exch_length]; omega)) <| lx_ld (i := k) (j := 0) ((gt hsl k).v) rfl rfl fl38 ho33.rd (by first | omega | (simp only [List.length_set, List.length_append, List.length_cons, List.length_nil, List.length_replicate, List.length_take, swp_length, exch_length]; omega)) rfl rfl <| lx_move (.int .i64 ((j : Nat) : Int)) rfl rfl <| lx_ix (i := j) rfl eT38 (hot4.2.1 k (by first | omega | (simp only [List.length_set, List.length_append, List.length_cons, List.length_nil, List.length_replicate, List.length_take, swp_length, exch_length]; omega))).rd rfl rfl (by first | omega | (simp only [List.length_set, List.length_append, List.length_cons, List.length_nil, List.length_replicate, List.length_take, swp_length, exch_length]; omega)) <| lx_ixP (i := j) (c := 0) rfl Try.underlying60 Try.sizeOf3 (hot4.2.1 k (by first | omega | (simp only [List.length_set, List.length_append, List.length_cons, List.length_nil, List.length_replicate, List.length_take, swp_length, exch_length]; omega))).rd (by first | omega | (simp only [List.length_set, List.length_append, List.length_cons, List.length_nil, List.length_replicate, List.length_take, swp_length, exch_length]; omega)) rfl rfl (by decide) <| lx_ld (i := j) (j := 0) (.int .i64 ((a : Nat) : Int)) rfl rfl fl3 (hot4.2.1 k (by first | omega | (simp only [List.length_set, List.length_append, List.length_cons, List.length_nil, List.length_replicate, List.length_take, swp_length, exch_length]; omega))).rd (by first | omega | (simp only [List.length_set, List.length_append, List.length_cons, List.length_nil, List.length_replicate, List.length_take, swp_length, exch_length]; omega)) (by rw [hgc]; rfl) rfl <| lx_conv ((a : Nat) : Int) rfl Try.underlying3 Try.underlying26 rfl (wrap_u64 (by omega) (by omega)) <| lx_shl (m := 1) (n := a) rfl rfl rfl (by show _ ≤ 64; omega) (wrap_i64 (by omega) (by omega)) <| lx_move (vly) rfl rfl <| lx_move (.int .i64 ((k : Nat) : Int)) rfl rfl <| lx_ix (i := k) rfl eT65 ho33.rd rfl rfl (by first | omega | (simp only [List.length_set, List.length_append, List.length_cons, List.length_nil, List.length_replicate, List.length_take, swp_length, exch_length]; omega)) <| lx_ld (i := k) (j := 0) ((gt hsl k).v) rfl rfl fl38 ho33.rd (by first | omega | (simp only [List.length_set, List.length_append, List.length_cons, List.length_nil, List.length_replicate, List.length_take, swp_length, exch_length]; omega)) rfl rfl <| lx_move (.int .i64 ((j : Nat) : Int)) rfl rfl <| lx_ix (i := j) rfl eT38 (hot4.2.1 k (by first | omega | (simp only [List.length_set, List.length_append, List.length_cons, List.length_nil, List.length_replicate, List.length_take, swp_length, exch_length]; omega))).rd rfl rfl (by first | omega | (simp only [List.length_set, List.length_append, List.length_cons, List.length_nil, List.length_replicate, List.length_take, swp_length, exch_length]; omega)) <| lx_ixP (i := j) (c := 1) rfl Try.underlying60 Try.sizeOf3 (hot4.2.1 k (by first | omega | (simp only [List.length_set, List.length_append, List.length_cons, List.length_nil, List.length_replicate, List.length_take, swp_length, exch_length]; omega))).rd (by first | omega | (simp only [List.length_set, List.length_append, List.length_cons, List.length_nil, List.length_replicate, List.length_take, swp_length, exch_length]; omega)) rfl rfl (by decide) <| lx_ld (i := j) (j := 1) (.int .i64 ((b : Nat) : Int)) rfl rfl fl3 (hot4.2.1 k (by first | omega | (simp only [List.length_set, List.length_append, List.length_cons, List.length_nil, List.length_replicate, List.length_take, swp_length, exch_length]; omega))).rd (by first | omega | (simp only [List.length_set, List.length_append, List.length_cons, List.length_nil, List.length_replicate, List.length_take, swp_length, exch_length]; omega)) (by rw [hgc]; rfl) rfl <| lx_conv ((b : Nat) : Int) rfl Try.underlying3 Try.underlying26 rfl (wrap_u64 (by omega) (by omega)) <| lx_shl (m := 1) (n := b) rfl rfl rfl (by show _ ≤ 64; omega) (wrap_i64 (by omega) (by omega)) <| lx_or (m := 1 * 2 ^ a) (n := 1 * 2 ^ b) rfl rfl rfl (by show _ < 2 ^ 64; omega) (by show _ < 2 ^ 64; omega) (wrap_i64 (by omega) (by omega)) <| lx_assign (.int .i64 (((1 * 2 ^ a) ||| (1 * 2 ^ b) : Nat) : Int)) rfl rfl <| lx_nil <| wi_seq <| wi_seq <| wi_reg rfl <| lx_move (.int .i64 ((u : Nat) : Int)) rfl rfl <| lx_move (.int .i64 (((1 * 2 ^ a) ||| (1 * 2 ^ b) : Nat) : Int)) rfl rfl <| lx_and (m := u) (n := (1 * 2 ^ a) ||| (1 * 2 ^ b)) rfl rfl rfl (by show _ < 2 ^ 64; omega) (by show _ < 2 ^ 64; omega) (by rw [hz]; rfl) <| lx_neqF rfl rfl rfl (fun h => h (by rw [hz]; rfl)) <| lx_nil <| wi_false rfl <| wi_skip <| wi_seq <| wi_reg rfl <| lx_move (.int .i64 ((u : Nat) : Int)) rfl rfl <| lx_move (.int .i64 (((1 * 2 ^ a) ||| (1 * 2 ^ b) : Nat) : Int)) rfl rfl <| lx_or (m := u) (n := (1 * 2 ^ a) ||| (1 * 2 ^ b)) rfl rfl rfl (by show _ < 2 ^ 64; omega) (by show _ < 2 ^ 64; omega) (wrap_i64 (by omega) (by omega)) <| lx_assign (.int .i64 ((u ||| ((1 * 2 ^ a) ||| (1 * 2 ^ b)) : Nat) : Int)) rfl rfl <| lx_nil <| wi_reg rfl <| lx_move (v) rfl rfl <| lx_move (vly) rfl rfl <| lx_move (.int .i64 ((k : Nat) : Int)) rfl rfl <| lx_ix (i := k) rfl eT65 ho33.rd rfl rfl (by first | omega | (simp only [List.length_set, List.length_append, List.length_cons, List.length_nil, List.length_replicate, List.length_take, swp_length, exch_length]; omega)) <| lx_ld (i := k) (j := 0) ((gt hsl k).v) rfl rfl fl38 ho33.rd (by first | omega | (simp only [List.length_set, List.length_append, List.length_cons, List.length_nil, List.length_replicate, List.length_take, swp_length, exch_length]; omega)) rfl rfl <| lx_move (.int .i64 ((j : Nat) : Int)) rfl rfl <| lx_ix (i := j) rfl eT38 (hot4.2.1 k (by first | omega | (simp only [List.length_set, List.length_append, List.length_cons, List.length_nil, List.length_replicate, List.length_take, swp_length, exch_length]; omega))).rd rfl rfl (by first | omega | (simp only [List.length_set, List.length_append, List.length_cons, List.length_nil, List.length_replicate, List.length_take, swp_length, exch_length]; omega)) <| lx_ldA (i := j) [.int .i64 ((gt (gt ylay k) j).1), .int .i64 ((gt (gt ylay k) j).2)] rfl rfl wd60 (hot4.2.1 k (by first | omega | (simp only [List.length_set, List.length_append, List.length_cons, List.length_nil, List.length_replicate, List.length_take, swp_length, exch_length]; omega))).rd (by first | omega | (simp only [List.length_set, List.length_append, List.length_cons, List.length_nil, List.length_replicate, List.length_take, swp_length, exch_length]; omega)) rfl rfl <| lx_appendL (E := encP) (B := h.size) [((gt (gt ylay k) j).1, (gt (gt ylay k) j).2)] [.agg #[.int .i64 ((gt (gt ylay k) j).1), .int .i64 ((gt (gt ylay k) j).2)]] rfl rfl (fun _ => rfl) rfl eT38 rfl rfl rfl rfl ho35 (fun _ => rfl) (by show flat.length + 1 ≤ _; omega) (by show (flat.length + 1) * 16 ≤ _; omega) hx0_14.size (fun _ _ => trivial) fun u3 v3 h11 ho36 hc3 hg3 => ?_
            have hx0_15 := hx0_14.trans (ho35.ext hc3 hx0_14.size)
            have ho37 := ho34.chg hc3 (Dj.symm hdj2)
            have ho38 := ho33.chg hc3 (dj_ty ho33 ho35 (by decide))
            have hot5 := hot4.chg hc3 hdt3
            refine lx_assign (v3) rfl rfl <| lx_nil <| wi_inBlock <| wi_reg rfl <| lx_move (.int .i64 ((j : Nat) : Int)) rfl rfl <| lx_add (((j + 1 : Nat) : Int)) rfl rfl rfl (by omega) (by omega) (by omega) <| lx_assign (.int .i64 ((j + 1 : Nat) : Int)) rfl rfl <| lx_nil <| ?_
            -- L8.1
            refine IH5 _ _ (j + 1, u ||| ((1 * 2 ^ a) ||| (1 * 2 ^ b)), v3, flat ++ [((gt (gt ylay k) j).1, (gt (gt ylay k) j).2)]) (agree_ups rfl agree_self) ⟨rfl, rfl, rfl, trivial⟩ ⟨?_, ?_, ?_, ?_, hx0_15, (Dj.symm (dj_app (Dj.symm hdj2) ho34 hg3)), (djt_app hdt3 hot4 hg3), hdt4, ?_, ?_, ?_⟩ ?_
            · first | exact ho38 | (simpa using ho38)
            · first | exact hot5 | (simpa using hot5)
            · first | exact ho37 | (simpa using ho37)
            · first | exact ho36 | (simpa using ho36)
            · try dsimp only
              omega
            · try dsimp only
              rw [hu]; show _ = usedF _ j ||| _
              rw [hgc]; rfl
            · try dsimp only
              rw [hfl2]; exact flatF_snoc hjl9
            · first | omega | (dsimp only; omega)
          · refine lx_nil <| wi_false rfl <| wi_exit rfl <| wi_inBlock <| wi_reg rfl <| lx_move (.int .i64 ((k : Nat) : Int)) rfl rfl <| lx_add (((k + 1 : Nat) : Int)) rfl rfl rfl (by omega) (by omega) (by omega) <| lx_assign (.int .i64 ((k + 1 : Nat) : Int)) rfl rfl <| lx_nil <| ?_
            -- L6.1
            refine IH4 _ _ (k + 1, v, flat) (agree_ups rfl (agree_mix (rngB_sub (by decide) (by decide) rfl) (agree_ups rfl agree_self))) ⟨rfl, rfl, trivial⟩ ⟨?_, ?_, ?_, ?_, hx0_14, hdj2, hdt3, hdt4, ?_, ?_⟩ ?_
            · first | exact ho33 | (simpa using ho33)
            · first | exact hot4 | (simpa using hot4)
            · first | exact ho34 | (simpa using ho34)
            · first | exact ho35 | (simpa using ho35)
            · try dsimp only
              omega
            · try dsimp only
              rw [hfl2, show j = (gt ylay k).length from by omega]; exact flatF_next (by omega)
            · first | omega | (dsimp only; omega)
        · refine lx_nil <| wi_false rfl <| wi_exit rfl <| wi_seq <| wi_reg rfl <| ?_
          have hkl : k = ylay.length := by omega
          have hff : flat = ylay.flatten := by rw [hfl1, hkl]; exact flatF_all
          have hfll : flat.length = net.length := by rw [hff]; exact hlil
          have hrun : ∀ f, runF net f = runF flat f := fun f => by rw [hff, hli.run, List.take_length]
          refine lx_move (.int .i64 ((m : Nat) : Int)) rfl rfl <| lx_move (vo) rfl rfl <| lx_call [.int .i64 ((m : Nat) : Int), vo] rfl rfl Try.call36 rfl (outputs_spec hh5 (((m : Nat) : Int)) vo net ho31.rd (by omega)) (fun _ _ _ => trivial) ?_
          rintro _ h12 ⟨vou, you, rfl, ho39, hou_1, hx7⟩
          have hx0_16 := hx0_13.trans2 hx7 hx0_13.size
          have ho40 := ho32.extS hx7
          have ho41 := ho31.extS hx7
          have ho42 := ho30.extS hx7
          have hot6 := hot3.extS hx7
          have ho43 := ho39.base hx0_13.size
          refine lx_move (.tuple #[vou, .int .i64 (chkNet validC (((m : Nat) : Int)) net)]) rfl rfl <| lx_extract (vou) rfl rfl rfl <| lx_extract (.int .i64 (chkNet validC (((m : Nat) : Int)) net)) rfl rfl rfl <| lx_assign (vou) rfl rfl <| lx_assign (.int .i64 (chkNet validC (((m : Nat) : Int)) net)) rfl rfl <| lx_nil <| wi_seq <| wi_reg rfl <| ?_
          have hfn : NetLt m flat := fun c hc => by
            rw [hff, List.mem_flatten] at hc
            obtain ⟨l, hl, hcl⟩ := hc
            obtain ⟨i, hi, rfl⟩ := mem_gt hl
            exact hnn c (hli.mem i c hcl)
          have hchk3 := netLt_chk hm1.1 hm1.2 (show flat.length ≤ 200 by omega) hfn
          have houe := good_ hou_1 hchk
          rw [Int.toNat_natCast] at houe
          have houl := filtF_length (2 ^ m) (outB m net)
          have houl2 : you.length ≤ 1024 := by rw [houe]; exact Nat.le_trans houl hpw
          refine lx_move (.int .i64 ((m : Nat) : Int)) rfl rfl <| lx_move (v) rfl rfl <| lx_call [.int .i64 ((m : Nat) : Int), v] rfl rfl Try.call36 rfl (outputs_spec h12 (((m : Nat) : Int)) v flat ho40.rd (by omega)) (fun _ _ _ => trivial) ?_
          rintro _ h13 ⟨vou2, you2, rfl, ho44, hou_2, hx8⟩
          have hx0_17 := hx0_16.trans2 hx8 hx0_16.size
          have ho45 := ho40.extS hx8
          have ho46 := ho41.extS hx8
          have ho47 := ho42.extS hx8
          have hot7 := hot6.extS hx8
          have ho48 := ho43.extS hx8
          have ho49 := ho44.base hx0_16.size
          refine lx_move (.tuple #[vou2, .int .i64 (chkNet validC (((m : Nat) : Int)) flat)]) rfl rfl <| lx_extract (vou2) rfl rfl rfl <| lx_extract (.int .i64 (chkNet validC (((m : Nat) : Int)) flat)) rfl rfl rfl <| lx_assign (vou2) rfl rfl <| lx_assign (.int .i64 (chkNet validC (((m : Nat) : Int)) flat)) rfl rfl <| lx_nil <| wi_seq <| wi_reg rfl <| ?_
          have houe2 := good_ hou_2 hchk3
          rw [Int.toNat_natCast] at houe2
          have hsame : you = you2 := by rw [houe, houe2]; exact outs_congr hrun
          have houl3 : you2.length ≤ 1024 := by rw [← hsame]; exact houl2
          refine lx_move (.int .i64 (chkNet validC (((m : Nat) : Int)) net)) rfl rfl <| lx_eqlT rfl rfl rfl hchk <| lx_move (.bool true) rfl rfl <| lx_move (.int .i64 (chkNet validC (((m : Nat) : Int)) net)) rfl rfl <| lx_eqlT rfl rfl rfl hchk <| lx_pick true (.bool true) rfl rfl rfl <| lx_move (.bool true) rfl rfl <| lx_move (.int .i64 (chkNet validC (((m : Nat) : Int)) flat)) rfl rfl <| lx_eqlT rfl rfl rfl hchk3 <| lx_pick true (.bool true) rfl rfl rfl <| lx_move (.bool true) rfl rfl <| lx_move (v) rfl rfl <| lx_len rfl Try.underlying38 ho45.rd rfl <| lx_move (vo) rfl rfl <| lx_len rfl Try.underlying38 ho46.rd rfl <| lx_eqlT rfl rfl rfl (by omega) <| lx_pick true (.bool true) rfl rfl rfl <| lx_move (.bool true) rfl rfl <| lx_move (vou) rfl rfl <| lx_move (vou2) rfl rfl <| lx_call [vou, vou2] rfl rfl Try.call27 rfl (ints_spec h13 vou you vou2 you2 ho48.rd ho49.rd (by omega) (by omega)) (fun _ _ _ => trivial) ?_
          rintro _ h14 ⟨rfl, rfl⟩
          rw [decide_eq_true hsame]
          refine lx_pick true (.bool true) rfl rfl rfl <| lx_move (.bool true) rfl rfl <| lx_call [] rfl rfl Try.call15 rfl (awake_spec h13 ) (fun _ _ _ => trivial) ?_
          rintro _ h15 ⟨rfl, hx9⟩
          have hx0_18 := hx0_17.trans2 hx9 hx0_17.size
          have ho50 := ho45.extS hx9
          have ho51 := ho46.extS hx9
          have ho52 := ho47.extS hx9
          have hot8 := hot7.extS hx9
          have ho53 := ho48.extS hx9
          have ho54 := ho49.extS hx9
          refine lx_pick true (.bool true) rfl rfl rfl <| lx_assign (.bool true) rfl rfl <| lx_nil <| ?_
          -- R1
          refine wi_ret ⟨.bool true, (res_one rfl rfl), ⟨rfl, hx0_18⟩⟩
    · refine lx_pick true (.bool false) rfl rfl rfl <| lx_move (.bool false) rfl rfl <| lx_skip rfl <| lx_skip rfl <| lx_pick false (.bool false) rfl rfl rfl <| lx_nil <| wi_false rfl <| wi_exit rfl <| wi_seq <| wi_seq <| wi_reg rfl <| lx_move (vl) rfl rfl <| lx_len rfl Try.underlying38 hr_vl rfl <| lx_rem (m := ls.length) (n := 3) rfl rfl rfl (by omega) <| lx_eql rfl rfl rfl <| lx_nil <| ?_
      refine wi_cutE (σ := Value × (List (Int × Int))) (rngB 69 89 [5, 8, 9]) (fun (ss : Value × (List (Int × Int))) => [(5, ss.1)]) (fun (ss : Value × (List (Int × Int))) (hh : Heap) => OwE encP hh h.size 60 ss.1 ss.2 ∧ Ext h.size h hh ∧ (ss.2.length ≤ 120) ∧ (PlainNet m ss.2)) (fun J2 => ?_) ?_
      · refine wi_condS (t := decide (((ls.length % 3 : Nat) : Int) = (0 : Int))) rfl (fun c9 => ?_) (fun c9 => ?_)
        · refine wi_seq <| wi_reg rfl <| lx_assign (.slice none 0 0) rfl rfl <| lx_nil <| wi_seq <| wi_reg rfl <| lx_assign (.int .i64 0) rfl rfl <| lx_nil <| wi_block <| ?_
          refine wi_loop (σ := Nat × Value × (List (Int × Int))) (rngB 69 89 [5, 8, 9]) (fun (ss : Nat × Value × (List (Int × Int))) => [(8, .int .i64 ((ss.1 : Nat) : Int)), (5, ss.2.1)]) (fun (ss : Nat × Value × (List (Int × Int))) (hh : Heap) => OwE encP hh h.size 60 ss.2.1 ss.2.2 ∧ Ext h.size h hh ∧ (ss.1 ≤ m) ∧ (ss.2.2.length ≤ 10 * ss.1) ∧ (PlainNet m ss.2.2)) (fun (ss : Nat × Value × (List (Int × Int))) => m - ss.1) (0, .slice none 0 0, []) ⟨rfl, rfl, trivial⟩ ⟨?_, hx0_1, ?_, ?_, ?_⟩ ?_
          · first | exact (owE_nil encP _ h.size 60) | (simpa using (owE_nil encP _ h.size 60))
          · try dsimp only
            omega
          · try dsimp only
            exact Nat.zero_le _
          · try dsimp only
            exact PlainNet.nil m
          rintro g7 ⟨i, v, out⟩ hh7 ⟨ho55, hx0_19, hi, hol, hpo⟩ IH6
          dsimp only at *
          refine wi_seq <| wi_seq <| wi_reg rfl <| lx_move (.int .i64 ((i : Nat) : Int)) rfl rfl <| lx_move (.int .i64 ((m : Nat) : Int)) rfl rfl <| lx_lssS rfl rfl rfl (fun c10 => ?_) (fun c10 => ?_)
          · refine lx_nil <| wi_true rfl <| wi_skip <| wi_seq <| wi_block <| wi_seq <| wi_reg rfl <| lx_assign (.int .i64 0) rfl rfl <| lx_nil <| wi_block <| ?_
            refine wi_loop (σ := Nat × Value × (List (Int × Int))) (rngB 74 89 [5, 9]) (fun (ss : Nat × Value × (List (Int × Int))) => [(9, .int .i64 ((ss.1 : Nat) : Int)), (5, ss.2.1)]) (fun (ss : Nat × Value × (List (Int × Int))) (hh : Heap) => OwE encP hh h.size 60 ss.2.1 ss.2.2 ∧ Ext h.size h hh ∧ (ss.1 ≤ 10) ∧ (ss.2.2.length ≤ 10 * i + ss.1) ∧ (PlainNet m ss.2.2)) (fun (ss : Nat × Value × (List (Int × Int))) => m - ss.1) (0, v, out) ⟨rfl, rfl, trivial⟩ ⟨?_, hx0_19, ?_, ?_, ?_⟩ ?_
            · first | exact ho55 | (simpa using ho55)
            · try dsimp only
              omega
            · try dsimp only
              omega
            · try dsimp only
              exact hpo
            rintro g8 ⟨k, v, out⟩ hh8 ⟨ho56, hx0_20, hk, hol2, hpo2⟩ IH7
            dsimp only at *
            refine wi_seq <| wi_seq <| wi_reg rfl <| lx_move (.int .i64 ((k : Nat) : Int)) rfl rfl <| lx_add (((k + 1 : Nat) : Int)) rfl rfl rfl (by omega) (by omega) (by omega) <| lx_move (.int .i64 ((m : Nat) : Int)) rfl rfl <| lx_move (.int .i64 ((i : Nat) : Int)) rfl rfl <| lx_sub (((m - i : Nat) : Int)) rfl rfl rfl (by omega) (by omega) (by omega) <| lx_lssS rfl rfl rfl (fun c11 => ?_) (fun c11 => ?_)
            · refine lx_nil <| wi_true rfl <| wi_skip <| wi_seq <| wi_block <| wi_reg rfl <| lx_move (v) rfl rfl <| lx_move (.int .i64 ((k : Nat) : Int)) rfl rfl <| lx_move (.int .i64 ((k : Nat) : Int)) rfl rfl <| lx_add (((k + 1 : Nat) : Int)) rfl rfl rfl (by omega) (by omega) (by omega) <| lx_build (.agg #[.int .i64 ((k : Nat) : Int), .int .i64 ((k + 1 : Nat) : Int)]) [(0, .int .i64 ((k : Nat) : Int)), (1, .int .i64 ((k + 1 : Nat) : Int))] rfl rfl (fun w => bld60_2 _ _ w) <| lx_appendL (E := encP) (B := h.size) [(((k : Nat) : Int), ((k + 1 : Nat) : Int))] [.agg #[.int .i64 ((k : Nat) : Int), .int .i64 ((k + 1 : Nat) : Int)]] rfl rfl (fun _ => rfl) rfl eT38 rfl rfl rfl rfl ho56 (fun _ => rfl) (by show out.length + 1 ≤ _; omega) (by show (out.length + 1) * 16 ≤ _; omega) hx0_20.size (fun _ _ => trivial) fun u4 v4 h16 ho57 hc4 hg4 => ?_
              have hx0_21 := hx0_20.trans (ho56.ext hc4 hx0_20.size)
              refine lx_assign (v4) rfl rfl <| lx_nil <| wi_inBlock <| wi_reg rfl <| lx_move (.int .i64 ((k : Nat) : Int)) rfl rfl <| lx_add (((k + 1 : Nat) : Int)) rfl rfl rfl (by omega) (by omega) (by omega) <| lx_assign (.int .i64 ((k + 1 : Nat) : Int)) rfl rfl <| lx_nil <| ?_
              -- L4.1
              refine IH7 _ _ (k + 1, v4, out ++ [(((k : Nat) : Int), ((k + 1 : Nat) : Int))]) (agree_ups rfl agree_self) ⟨rfl, rfl, trivial⟩ ⟨?_, hx0_21, ?_, ?_, ?_⟩ ?_
              · first | exact ho57 | (simpa using ho57)
              · try dsimp only
                omega
              · try dsimp only
                rw [List.length_append]; show _ + 1 ≤ _; omega
              · try dsimp only
                exact hpo2.snoc (by omega)
              · first | omega | (dsimp only; omega)
            · refine lx_nil <| wi_false rfl <| wi_exit rfl <| wi_inBlock <| wi_reg rfl <| lx_move (.int .i64 ((i : Nat) : Int)) rfl rfl <| lx_add (((i + 1 : Nat) : Int)) rfl rfl rfl (by omega) (by omega) (by omega) <| lx_assign (.int .i64 ((i + 1 : Nat) : Int)) rfl rfl <| lx_nil <| ?_
              -- L2.1
              refine IH6 _ _ (i + 1, v, out) (agree_ups rfl (agree_mix (rngB_sub (by decide) (by decide) rfl) (agree_ups rfl agree_self))) ⟨rfl, rfl, trivial⟩ ⟨?_, hx0_20, ?_, ?_, ?_⟩ ?_
              · first | exact ho56 | (simpa using ho56)
              · try dsimp only
                omega
              · try dsimp only
                omega
              · try dsimp only
                exact hpo2
              · first | omega | (dsimp only; omega)
          · refine lx_nil <| wi_false rfl <| wi_exit rfl <| ?_
            -- Jt68.1
            refine J2 _ _ (v, out) (agree_ups rfl (agree_mix (rngB_sub (by decide) (by decide) rfl) (agree_ups rfl agree_upsJ))) ⟨rfl, trivial⟩ ⟨?_, hx0_19, ?_, ?_⟩
            · first | exact ho55 | (simpa using ho55)
            · try dsimp only
              omega
            · try dsimp only
              exact hpo
        · refine wi_skip <| ?_
          -- Jt68.2
          refine J2 _ _ (v, out) (agree_ups rfl agree_upsJ) ⟨rfl, trivial⟩ ⟨?_, hx0_1, ?_, ?_⟩
          · first | exact ho1 | (simpa using ho1)
          · try dsimp only
            omega
          · try dsimp only
            exact hpo
      rintro g9 ⟨vo, net⟩ hh9 ⟨ho58, hx0_22, hnl, hpn⟩
      dsimp only at *
      refine wi_seq <| wi_reg rfl <| ?_
      have hnn := hpn.lt
      have hchk := netLt_chk hm1.1 hm1.2 (show net.length ≤ 200 by omega) hnn
      refine lx_move (.int .i64 ((m : Nat) : Int)) rfl rfl <| lx_move (vo) rfl rfl <| lx_call [.int .i64 ((m : Nat) : Int), vo] rfl rfl Try.call35 rfl (fails_spec hh9 (((m : Nat) : Int)) vo net ho58.rd (by omega)) (fun _ _ _ => trivial) ?_
      rintro _ h17 ⟨pf, bf, rfl, hf_1, hx10⟩
      have hx0_23 := hx0_22.trans2 hx10 hx0_22.size
      have ho59 := ho58.extS hx10
      refine lx_move (.tuple #[.int .i64 ((pf : Nat) : Int), .bool bf, .int .i64 (chkNet validC (((m : Nat) : Int)) net)]) rfl rfl <| lx_extract (.int .i64 ((pf : Nat) : Int)) rfl rfl rfl <| lx_extract (.bool bf) rfl rfl rfl <| lx_extract (.int .i64 (chkNet validC (((m : Nat) : Int)) net)) rfl rfl rfl <| lx_assign (.int .i64 ((pf : Nat) : Int)) rfl rfl <| lx_assign (.bool bf) rfl rfl <| lx_assign (.int .i64 (chkNet validC (((m : Nat) : Int)) net)) rfl rfl <| lx_nil <| wi_seq <| wi_reg rfl <| ?_
      have hfa := good_ hf_1 hchk
      rw [Int.toNat_natCast] at hfa
      have hpl := plain_law hpn hfa
      have hl3 := valuesF_length m []
      have hre := runE_zero hchk hl3
      refine lx_move (.int .i64 ((m : Nat) : Int)) rfl rfl <| lx_move (vo) rfl rfl <| lx_move (.int .i64 ((m : Nat) : Int)) rfl rfl <| lx_call [.int .i64 ((m : Nat) : Int), .slice none 0 0] rfl rfl Try.call33 rfl (values_spec h17 m ((.slice none 0 0)) ([]) (owE_nil encI _ 0 0).rd (by omega) (Nat.zero_le _)) (fun _ _ _ => trivial) ?_
      rintro vin h18 ⟨_, rfl, ho60, hx11⟩
      have hx0_24 := hx0_23.trans2 hx11 hx0_23.size
      have ho61 := ho59.extS hx11
      have ho62 := ho60.base hx0_23.size
      refine lx_call [.int .i64 ((m : Nat) : Int), vo, vin] rfl rfl Try.call34 rfl (run_spec2 h18 (((m : Nat) : Int)) vo net vin (valuesF m ([])) ho61.rd ho62.rd (by omega) (by omega)) (fun _ _ _ => trivial) ?_
      rintro _ h19 ⟨vx, yr, rfl, ho63, hrv_1, hx12⟩
      have hx0_25 := hx0_24.trans2 hx12 hx0_24.size
      have ho64 := ho61.extS hx12
      have ho65 := ho62.extS hx12
      have ho66 := ho63.base hx0_24.size
      refine lx_move (.tuple #[vx, .int .i64 (runE (((m : Nat) : Int)) net (valuesF m ([])))]) rfl rfl <| lx_extract (vx) rfl rfl rfl <| lx_extract (.int .i64 (runE (((m : Nat) : Int)) net (valuesF m ([])))) rfl rfl rfl <| lx_assign (vx) rfl rfl <| lx_assign (.int .i64 (runE (((m : Nat) : Int)) net (valuesF m ([])))) rfl rfl <| lx_nil <| wi_seq <| wi_reg rfl <| ?_
      have hrv := good_ hrv_1 hre
      have hyl : yr.length = m := by rw [hrv, runV_length]; exact hl3
      refine lx_move (.int .i64 ((m : Nat) : Int)) rfl rfl <| lx_call [.int .i64 ((m : Nat) : Int)] rfl rfl Try.call20 rfl (merge_spec h19 (((m : Nat) : Int)) ) (fun _ _ _ => trivial) ?_
      rintro _ h20 ⟨vm, ms, rfl, ho67, hm_1, hx13⟩
      have hx0_26 := hx0_25.trans2 hx13 hx0_25.size
      have ho68 := ho64.extS hx13
      have ho69 := ho65.extS hx13
      have ho70 := ho66.extS hx13
      have ho71 := ho67.base hx0_25.size
      refine lx_move (.tuple #[vm, .int .i64 (if (((m : Nat) : Int)) < 1 ∨ 10 < (((m : Nat) : Int)) then 1 else 0)]) rfl rfl <| lx_extract (vm) rfl rfl rfl <| lx_extract (.int .i64 (if (((m : Nat) : Int)) < 1 ∨ 10 < (((m : Nat) : Int)) then 1 else 0)) rfl rfl rfl <| lx_assign (vm) rfl rfl <| lx_assign (.int .i64 (if (((m : Nat) : Int)) < 1 ∨ 10 < (((m : Nat) : Int)) then 1 else 0)) rfl rfl <| lx_nil <| wi_seq <| wi_reg rfl <| ?_
      have hme : ms = mergeF m := by rw [hm_1, if_neg (by omega), Int.toNat_natCast]
      have hml : ms.length ≤ 31 := by rw [hme]; exact mergeF_short m (by omega)
      have hchk2 : chkNet validC ((m : Nat) : Int) ms = 0 := by rw [hme]; exact merge_chk m hm1.1 hm1.2
      refine lx_move (.int .i64 ((m : Nat) : Int)) rfl rfl <| lx_move (vm) rfl rfl <| lx_call [.int .i64 ((m : Nat) : Int), vm] rfl rfl Try.call35 rfl (fails_spec h20 (((m : Nat) : Int)) vm ms ho71.rd (by omega)) (fun _ _ _ => trivial) ?_
      rintro _ h21 ⟨p2, b2, rfl, hf_2, hx14⟩
      have hx0_27 := hx0_26.trans2 hx14 hx0_26.size
      have ho72 := ho68.extS hx14
      have ho73 := ho69.extS hx14
      have ho74 := ho70.extS hx14
      have ho75 := ho71.extS hx14
      refine lx_move (.tuple #[.int .i64 ((p2 : Nat) : Int), .bool b2, .int .i64 (chkNet validC (((m : Nat) : Int)) ms)]) rfl rfl <| lx_extract (.int .i64 ((p2 : Nat) : Int)) rfl rfl rfl <| lx_extract (.bool b2) rfl rfl rfl <| lx_extract (.int .i64 (chkNet validC (((m : Nat) : Int)) ms)) rfl rfl rfl <| lx_assign (.int .i64 ((p2 : Nat) : Int)) rfl rfl <| lx_assign (.bool b2) rfl rfl <| lx_assign (.int .i64 (chkNet validC (((m : Nat) : Int)) ms)) rfl rfl <| lx_nil <| wi_seq <| wi_seq <| wi_reg rfl <| ?_
      have hfa2 := good_ hf_2 hchk2
      rw [Int.toNat_natCast] at hfa2
      obtain rfl := fails_no hfa2 (by rw [hme]; exact merge_sorts hm1.1 hm1.2)
      refine lx_move (.int .i64 (chkNet validC (((m : Nat) : Int)) net)) rfl rfl <| lx_neqF rfl rfl rfl (fun h => h hchk) <| lx_move (.bool false) rfl rfl <| lx_move (.int .i64 (runE (((m : Nat) : Int)) net (valuesF m ([])))) rfl rfl <| lx_neqF rfl rfl rfl (fun h => h hre) <| lx_pick false (.bool false) rfl rfl rfl <| lx_move (.bool false) rfl rfl <| lx_move (.int .i64 (if (((m : Nat) : Int)) < 1 ∨ 10 < (((m : Nat) : Int)) then 1 else 0)) rfl rfl <| lx_neqF rfl rfl rfl (by rw [if_neg (by omega)]; decide) <| lx_pick false (.bool false) rfl rfl rfl <| lx_move (.bool false) rfl rfl <| lx_move (.int .i64 (chkNet validC (((m : Nat) : Int)) ms)) rfl rfl <| lx_neqF rfl rfl rfl (fun h => h hchk2) <| lx_pick false (.bool false) rfl rfl rfl <| lx_move (.bool false) rfl rfl <| lx_move (.bool bf) rfl rfl <| lx_move (vx) rfl rfl <| lx_call [vx] rfl rfl Try.call19 rfl (inOrder_spec h21 vx yr ho74.rd (by omega)) (fun _ _ _ => trivial) ?_
      rintro _ h22 ⟨rfl, rfl⟩
      refine lx_eqlBool false rfl Try.underlying4 rfl rfl (by rw [hpl, ← hrv]; cases inOrd yr <;> rfl) <| lx_pick false (.bool false) rfl rfl rfl <| lx_move (.bool false) rfl rfl <| lx_move (.bool false) rfl rfl <| lx_pick false (.bool false) rfl rfl rfl <| lx_nil <| wi_false rfl <| wi_skip <| wi_seq <| wi_reg rfl <| lx_move (.int .i64 ((m : Nat) : Int)) rfl rfl <| lx_move (vo) rfl rfl <| lx_call [.int .i64 ((m : Nat) : Int), vo] rfl rfl Try.call38 rfl (layers_spec h21 (((m : Nat) : Int)) vo net ho72.rd (by omega)) (fun _ _ _ => trivial) ?_
      rintro _ h23 ⟨vly, hsl, ylay, rfl, ho76, hot9, hly_1, hx15⟩
      have hx0_28 := hx0_27.trans2 hx15 hx0_27.size
      have ho77 := ho72.extS hx15
      have ho78 := ho73.extS hx15
      have ho79 := ho74.extS hx15
      have ho80 := ho75.extS hx15
      have ho81 := ho76.base hx0_27.size
      have hot10 := hot9.base hx0_27.size
      have hl_hot10 := hot10.1
      refine lx_move (.tuple #[vly, .int .i64 (chkNet validC (((m : Nat) : Int)) net)]) rfl rfl <| lx_extract (vly) rfl rfl rfl <| lx_extract (.int .i64 (chkNet validC (((m : Nat) : Int)) net)) rfl rfl rfl <| lx_assign (vly) rfl rfl <| lx_assign (.int .i64 (chkNet validC (((m : Nat) : Int)) net)) rfl rfl <| lx_nil <| wi_seq <| wi_reg rfl <| ?_
      have hlye := good_ hly_1 hchk
      have hli := layI (Nat.le_refl net.length)
      rw [← hlye] at hli
      have hlil := hli.len
      have holy := outY_le net net.length
      rw [← hlye] at holy
      refine lx_assign (.slice none 0 0) rfl rfl <| lx_nil <| wi_seq <| wi_seq <| wi_reg rfl <| lx_assign (.int .i64 0) rfl rfl <| lx_nil <| wi_block <| ?_
      refine wi_loop (σ := Nat × Value × (List (Int × Int))) (rngB 145 198 [4, 22, 23, 24, 25, 26]) (fun (ss : Nat × Value × (List (Int × Int))) => [(23, .int .i64 ((ss.1 : Nat) : Int)), (22, ss.2.1)]) (fun (ss : Nat × Value × (List (Int × Int))) (hh : Heap) => OwE encHd hh h.size 38 vly hsl ∧ OT encP hh h.size 60 hsl ylay ∧ OwE encP hh h.size 60 vo net ∧ OwE encP hh h.size 60 ss.2.1 ss.2.2 ∧ Ext h.size h hh ∧ Dj ss.2.1 vo ∧ Djt hsl ss.2.1 ∧ Djt hsl vo ∧ (ss.1 ≤ ylay.length) ∧ (ss.2.2 = flatF ylay ss.1 0)) (fun (ss : Nat × Value × (List (Int × Int))) => ylay.length - ss.1) (0, .slice none 0 0, []) ⟨rfl, rfl, trivial⟩ ⟨?_, ?_, ?_, ?_, hx0_28, (dj_nil_l _), (djt_nil _), (djt_newT ho72 hot9), ?_, ?_⟩ ?_
      · first | exact ho81 | (simpa using ho81)
      · first | exact hot10 | (simpa using hot10)
      · first | exact ho77 | (simpa using ho77)
      · first | exact (owE_nil encP _ h.size 60) | (simpa using (owE_nil encP _ h.size 60))
      · try dsimp only
        omega
      · try dsimp only
        first | done | rfl
      rintro g10 ⟨k, v, flat⟩ hh10 ⟨ho82, hot11, ho83, ho84, hx0_29, hdj3, hdt5, hdt6, hk, hfl1⟩ IH8
      dsimp only at *
      have hl_hot11 := hot11.1
      refine wi_seq <| wi_seq <| wi_reg rfl <| lx_move (.int .i64 ((k : Nat) : Int)) rfl rfl <| lx_move (vly) rfl rfl <| lx_len rfl Try.underlying65 ho82.rd rfl <| lx_lssS rfl rfl rfl (fun c12 => ?_) (fun c12 => ?_)
      · refine lx_nil <| wi_true rfl <| wi_skip <| wi_seq <| wi_block <| wi_seq <| wi_reg rfl <| lx_assign (.int .i64 0) rfl rfl <| lx_nil <| wi_seq <| wi_reg rfl <| lx_assign (.int .i64 0) rfl rfl <| lx_nil <| wi_block <| ?_
        refine wi_loop (σ := Nat × Nat × Value × (List (Int × Int))) (rngB 151 198 [4, 22, 24, 25, 26]) (fun (ss : Nat × Nat × Value × (List (Int × Int))) => [(25, .int .i64 ((ss.1 : Nat) : Int)), (24, .int .i64 ((ss.2.1 : Nat) : Int)), (22, ss.2.2.1)]) (fun (ss : Nat × Nat × Value × (List (Int × Int))) (hh : Heap) => OwE encHd hh h.size 38 vly hsl ∧ OT encP hh h.size 60 hsl ylay ∧ OwE encP hh h.size 60 vo net ∧ OwE encP hh h.size 60 ss.2.2.1 ss.2.2.2 ∧ Ext h.size h hh ∧ Dj ss.2.2.1 vo ∧ Djt hsl ss.2.2.1 ∧ Djt hsl vo ∧ (ss.1 ≤ (gt ylay k).length) ∧ (ss.2.1 = usedF (gt ylay k) ss.1) ∧ (ss.2.2.2 = flatF ylay k ss.1)) (fun (ss : Nat × Nat × Value × (List (Int × Int))) => (gt ylay k).length - ss.1) (0, 0, v, flat) ⟨rfl, rfl, rfl, trivial⟩ ⟨?_, ?_, ?_, ?_, hx0_29, hdj3, hdt5, hdt6, ?_, ?_, ?_⟩ ?_
        · first | exact ho82 | (simpa using ho82)
        · first | exact hot11 | (simpa using hot11)
        · first | exact ho83 | (simpa using ho83)
        · first | exact ho84 | (simpa using ho84)
        · try dsimp only
          omega
        · try dsimp only
          first | done | rfl
        · try dsimp only
          exact hfl1
        rintro g11 ⟨j, u, v, flat⟩ hh11 ⟨ho85, hot12, ho86, ho87, hx0_30, hdj4, hdt7, hdt8, hj, hu, hfl2⟩ IH9
        dsimp only at *
        have hfl9 := flatF_len (Y := ylay) (show k < ylay.length by omega) (show j ≤ (gt ylay k).length by omega)
        rw [← hfl2, hlil] at hfl9
        have hl_hot12 := hot12.1
        refine wi_seq <| wi_seq <| wi_reg rfl <| ?_
        refine lx_move (.int .i64 ((j : Nat) : Int)) rfl rfl <| lx_move (vly) rfl rfl <| lx_move (.int .i64 ((k : Nat) : Int)) rfl rfl <| lx_ix (i := k) rfl eT65 ho85.rd rfl rfl (by first | omega | (simp only [List.length_set, List.length_append, List.length_cons, List.length_nil, List.length_replicate, List.length_take, swp_length, exch_length]; omega)) <| lx_ld (i := k) (j := 0) ((gt hsl k).v) rfl rfl fl38 ho85.rd (by first | omega | (simp only [List.length_set, List.length_append, List.length_cons, List.length_nil, List.length_replicate, List.length_take, swp_length, exch_length]; omega)) rfl rfl <| lx_len rfl Try.underlying38 (hot12.2.1 k (by first | omega | (simp only [List.length_set, List.length_append, List.length_cons, List.length_nil, List.length_replicate, List.length_take, swp_length, exch_length]; omega))).rd rfl <| lx_lssS rfl rfl rfl (fun c13 => ?_) (fun c13 => ?_)
        · refine lx_nil <| wi_true rfl <| wi_skip <| wi_seq <| wi_block <| wi_seq <| wi_draw mo rfl (by decide +kernel) <| ?_
          have hjl9 : j < (gt ylay k).length := by omega
          have hrl9 := rowY_len net net.length k
          rw [← hlye] at hrl9
          obtain ⟨a, b, hgc, hab, hb⟩ := hnn _ (hli.mem k _ (gt_mem hjl9))
          have hpa := pow10 (show a ≤ 10 by omega)
          have hpb := pow10 (show b ≤ 10 by omega)
          have hpor : 1 * 2 ^ a ||| 1 * 2 ^ b < 2 ^ 11 := Nat.or_lt_two_pow (by omega) (by omega)
          have hz := used_and hjl9 (fun p q h1 h2 => hli.disj k p q h1 h2) hgc
          have hul := usedF_lt (l := gt ylay k) (fun p hp => by obtain ⟨a, b, e, h1, h2⟩ := hnn _ (hli.mem k _ (gt_mem hp)); rw [e]; simp only [Int.toNat_natCast]; omega) (k := j) (by omega)
          rw [← hu] at hz hul
          have hor2 : u ||| (1 * 2 ^ a ||| 1 * 2 ^ b) < 2 ^ 11 := Nat.or_lt_two_pow (by omega) (by omega)
          have hfl := flatF_len (Y := ylay) (show k < ylay.length by omega) (show j ≤ (gt ylay k).length by omega)
          refine lx_move (vly) rfl rfl <| lx_move (.int .i64 ((k : Nat) : Int)) rfl rfl <| lx_ix (i := k) rfl eT65 ho85.rd rfl rfl (by first | omega | (simp only [List.length_set, List.length_append, List.length_cons, List.length_nil, List.length_replicate, List.length_take, swp_length, exch_length]; omega)) <| lx_ld (i := k) (j := 0) ((gt hsl k).v) rfl rfl fl38 ho85.rd (by first | omega | (simp only [List.length_set, List.length_append, List.length_cons, List.length_nil, List.length_replicate, List.length_take, swp_length, exch_length]; omega)) rfl rfl <| lx_move (.int .i64 ((j : Nat) : Int)) rfl rfl <| lx_ix (i := j) rfl eT38 (hot12.2.1 k (by first | omega | (simp only [List.length_set, List.length_append, List.length_cons, List.length_nil, List.length_replicate, List.length_take, swp_length, exch_length]; omega))).rd rfl rfl (by first | omega | (simp only [List.length_set, List.length_append, List.length_cons, List.length_nil, List.length_replicate, List.length_take, swp_length, exch_length]; omega)) <| lx_ixP (i := j) (c := 0) rfl Try.underlying60 Try.sizeOf3 (hot12.2.1 k (by first | omega | (simp only [List.length_set, List.length_append, List.length_cons, List.length_nil, List.length_replicate, List.length_take, swp_length, exch_length]; omega))).rd (by first | omega | (simp only [List.length_set, List.length_append, List.length_cons, List.length_nil, List.length_replicate, List.length_take, swp_length, exch_length]; omega)) rfl rfl (by decide) <| lx_ld (i := j) (j := 0) (.int .i64 ((a : Nat) : Int)) rfl rfl fl3 (hot12.2.1 k (by first | omega | (simp only [List.length_set, List.length_append, List.length_cons, List.length_nil, List.length_replicate, List.length_take, swp_length, exch_length]; omega))).rd (by first | omega | (simp only [List.length_set, List.length_append, List.length_cons, List.length_nil, List.length_replicate, List.length_take, swp_length, exch_length]; omega)) (by rw [hgc]; rfl) rfl <| lx_conv ((a : Nat) : Int) rfl Try.underlying3 Try.underlying26 rfl (wrap_u64 (by omega) (by omega)) <| lx_shl (m := 1) (n := a) rfl rfl rfl (by show _ ≤ 64; omega) (wrap_i64 (by omega) (by omega)) <| lx_move (vly) rfl rfl <| lx_move (.int .i64 ((k : Nat) : Int)) rfl rfl <| lx_ix (i := k) rfl eT65 ho85.rd rfl rfl (by first | omega | (simp only [List.length_set, List.length_append, List.length_cons, List.length_nil, List.length_replicate, List.length_take, swp_length, exch_length]; omega)) <| lx_ld (i := k) (j := 0) ((gt hsl k).v) rfl rfl fl38 ho85.rd (by first | omega | (simp only [List.length_set, List.length_append, List.length_cons, List.length_nil, List.length_replicate, List.length_take, swp_length, exch_length]; omega)) rfl rfl <| lx_move (.int .i64 ((j : Nat) : Int)) rfl rfl <| lx_ix (i := j) rfl eT38 (hot12.2.1 k (by first | omega | (simp only [List.length_set, List.length_append, List.length_cons, List.length_nil, List.length_replicate, List.length_take, swp_length, exch_length]; omega))).rd rfl rfl (by first | omega | (simp only [List.length_set, List.length_append, List.length_cons, List.length_nil, List.length_replicate, List.length_take, swp_length, exch_length]; omega)) <| lx_ixP (i := j) (c := 1) rfl Try.underlying60 Try.sizeOf3 (hot12.2.1 k (by first | omega | (simp only [List.length_set, List.length_append, List.length_cons, List.length_nil, List.length_replicate, List.length_take, swp_length, exch_length]; omega))).rd (by first | omega | (simp only [List.length_set, List.length_append, List.length_cons, List.length_nil, List.length_replicate, List.length_take, swp_length, exch_length]; omega)) rfl rfl (by decide) <| lx_ld (i := j) (j := 1) (.int .i64 ((b : Nat) : Int)) rfl rfl fl3 (hot12.2.1 k (by first | omega | (simp only [List.length_set, List.length_append, List.length_cons, List.length_nil, List.length_replicate, List.length_take, swp_length, exch_length]; omega))).rd (by first | omega | (simp only [List.length_set, List.length_append, List.length_cons, List.length_nil, List.length_replicate, List.length_take, swp_length, exch_length]; omega)) (by rw [hgc]; rfl) rfl <| lx_conv ((b : Nat) : Int) rfl Try.underlying3 Try.underlying26 rfl (wrap_u64 (by omega) (by omega)) <| lx_shl (m := 1) (n := b) rfl rfl rfl (by show _ ≤ 64; omega) (wrap_i64 (by omega) (by omega)) <| lx_or (m := 1 * 2 ^ a) (n := 1 * 2 ^ b) rfl rfl rfl (by show _ < 2 ^ 64; omega) (by show _ < 2 ^ 64; omega) (wrap_i64 (by omega) (by omega)) <| lx_assign (.int .i64 (((1 * 2 ^ a) ||| (1 * 2 ^ b) : Nat) : Int)) rfl rfl <| lx_nil <| wi_seq <| wi_seq <| wi_reg rfl <| lx_move (.int .i64 ((u : Nat) : Int)) rfl rfl <| lx_move (.int .i64 (((1 * 2 ^ a) ||| (1 * 2 ^ b) : Nat) : Int)) rfl rfl <| lx_and (m := u) (n := (1 * 2 ^ a) ||| (1 * 2 ^ b)) rfl rfl rfl (by show _ < 2 ^ 64; omega) (by show _ < 2 ^ 64; omega) (by rw [hz]; rfl) <| lx_neqF rfl rfl rfl (fun h => h (by rw [hz]; rfl)) <| lx_nil <| wi_false rfl <| wi_skip <| wi_seq <| wi_reg rfl <| lx_move (.int .i64 ((u : Nat) : Int)) rfl rfl <| lx_move (.int .i64 (((1 * 2 ^ a) ||| (1 * 2 ^ b) : Nat) : Int)) rfl rfl <| lx_or (m := u) (n := (1 * 2 ^ a) ||| (1 * 2 ^ b)) rfl rfl rfl (by show _ < 2 ^ 64; omega) (by show _ < 2 ^ 64; omega) (wrap_i64 (by omega) (by omega)) <| lx_assign (.int .i64 ((u ||| ((1 * 2 ^ a) ||| (1 * 2 ^ b)) : Nat) : Int)) rfl rfl <| lx_nil <| wi_reg rfl <| lx_move (v) rfl rfl <| lx_move (vly) rfl rfl <| lx_move (.int .i64 ((k : Nat) : Int)) rfl rfl <| lx_ix (i := k) rfl eT65 ho85.rd rfl rfl (by first | omega | (simp only [List.length_set, List.length_append, List.length_cons, List.length_nil, List.length_replicate, List.length_take, swp_length, exch_length]; omega)) <| lx_ld (i := k) (j := 0) ((gt hsl k).v) rfl rfl fl38 ho85.rd (by first | omega | (simp only [List.length_set, List.length_append, List.length_cons, List.length_nil, List.length_replicate, List.length_take, swp_length, exch_length]; omega)) rfl rfl <| lx_move (.int .i64 ((j : Nat) : Int)) rfl rfl <| lx_ix (i := j) rfl eT38 (hot12.2.1 k (by first | omega | (simp only [List.length_set, List.length_append, List.length_cons, List.length_nil, List.length_replicate, List.length_take, swp_length, exch_length]; omega))).rd rfl rfl (by first | omega | (simp only [List.length_set, List.length_append, List.length_cons, List.length_nil, List.length_replicate, List.length_take, swp_length, exch_length]; omega)) <| lx_ldA (i := j) [.int .i64 ((gt (gt ylay k) j).1), .int .i64 ((gt (gt ylay k) j).2)] rfl rfl wd60 (hot12.2.1 k (by first | omega | (simp only [List.length_set, List.length_append, List.length_cons, List.length_nil, List.length_replicate, List.length_take, swp_length, exch_length]; omega))).rd (by first | omega | (simp only [List.length_set, List.length_append, List.length_cons, List.length_nil, List.length_replicate, List.length_take, swp_length, exch_length]; omega)) rfl rfl <| lx_appendL (E := encP) (B := h.size) [((gt (gt ylay k) j).1, (gt (gt ylay k) j).2)] [.agg #[.int .i64 ((gt (gt ylay k) j).1), .int .i64 ((gt (gt ylay k) j).2)]] rfl rfl (fun _ => rfl) rfl eT38 rfl rfl rfl rfl ho87 (fun _ => rfl) (by show flat.length + 1 ≤ _; omega) (by show (flat.length + 1) * 16 ≤ _; omega) hx0_30.size (fun _ _ => trivial) fun u5 v5 h24 ho88 hc5 hg5 => ?_
          have hx0_31 := hx0_30.trans (ho87.ext hc5 hx0_30.size)
          have ho89 := ho86.chg hc5 (Dj.symm hdj4)
          have ho90 := ho85.chg hc5 (dj_ty ho85 ho87 (by decide))
          have hot13 := hot12.chg hc5 hdt7
          refine lx_assign (v5) rfl rfl <| lx_nil <| wi_inBlock <| wi_reg rfl <| lx_move (.int .i64 ((j : Nat) : Int)) rfl rfl <| lx_add (((j + 1 : Nat) : Int)) rfl rfl rfl (by omega) (by omega) (by omega) <| lx_assign (.int .i64 ((j + 1 : Nat) : Int)) rfl rfl <| lx_nil <| ?_
          -- L8.1
          refine IH9 _ _ (j + 1, u ||| ((1 * 2 ^ a) ||| (1 * 2 ^ b)), v5, flat ++ [((gt (gt ylay k) j).1, (gt (gt ylay k) j).2)]) (agree_ups rfl agree_self) ⟨rfl, rfl, rfl, trivial⟩ ⟨?_, ?_, ?_, ?_, hx0_31, (Dj.symm (dj_app (Dj.symm hdj4) ho86 hg5)), (djt_app hdt7 hot12 hg5), hdt8, ?_, ?_, ?_⟩ ?_
          · first | exact ho90 | (simpa using ho90)
          · first | exact hot13 | (simpa using hot13)
          · first | exact ho89 | (simpa using ho89)
          · first | exact ho88 | (simpa using ho88)
          · try dsimp only
            omega
          · try dsimp only
            rw [hu]; show _ = usedF _ j ||| _
            rw [hgc]; rfl
          · try dsimp only
            rw [hfl2]; exact flatF_snoc hjl9
          · first | omega | (dsimp only; omega)
        · refine lx_nil <| wi_false rfl <| wi_exit rfl <| wi_inBlock <| wi_reg rfl <| lx_move (.int .i64 ((k : Nat) : Int)) rfl rfl <| lx_add (((k + 1 : Nat) : Int)) rfl rfl rfl (by omega) (by omega) (by omega) <| lx_assign (.int .i64 ((k + 1 : Nat) : Int)) rfl rfl <| lx_nil <| ?_
          -- L6.1
          refine IH8 _ _ (k + 1, v, flat) (agree_ups rfl (agree_mix (rngB_sub (by decide) (by decide) rfl) (agree_ups rfl agree_self))) ⟨rfl, rfl, trivial⟩ ⟨?_, ?_, ?_, ?_, hx0_30, hdj4, hdt7, hdt8, ?_, ?_⟩ ?_
          · first | exact ho85 | (simpa using ho85)
          · first | exact hot12 | (simpa using hot12)
          · first | exact ho86 | (simpa using ho86)
          · first | exact ho87 | (simpa using ho87)
          · try dsimp only
            omega
          · try dsimp only
            rw [hfl2, show j = (gt ylay k).length from by omega]; exact flatF_next (by omega)
          · first | omega | (dsimp only; omega)
      · refine lx_nil <| wi_false rfl <| wi_exit rfl <| wi_seq <| wi_reg rfl <| ?_
        have hkl : k = ylay.length := by omega
        have hff : flat = ylay.flatten := by rw [hfl1, hkl]; exact flatF_all
        have hfll : flat.length = net.length := by rw [hff]; exact hlil
        have hrun : ∀ f, runF net f = runF flat f := fun f => by rw [hff, hli.run, List.take_length]
        refine lx_move (.int .i64 ((m : Nat) : Int)) rfl rfl <| lx_move (vo) rfl rfl <| lx_call [.int .i64 ((m : Nat) : Int), vo] rfl rfl Try.call36 rfl (outputs_spec hh10 (((m : Nat) : Int)) vo net ho83.rd (by omega)) (fun _ _ _ => trivial) ?_
        rintro _ h25 ⟨vou, you, rfl, ho91, hou_1, hx16⟩
        have hx0_32 := hx0_29.trans2 hx16 hx0_29.size
        have ho92 := ho84.extS hx16
        have ho93 := ho83.extS hx16
        have ho94 := ho82.extS hx16
        have hot14 := hot11.extS hx16
        have ho95 := ho91.base hx0_29.size
        refine lx_move (.tuple #[vou, .int .i64 (chkNet validC (((m : Nat) : Int)) net)]) rfl rfl <| lx_extract (vou) rfl rfl rfl <| lx_extract (.int .i64 (chkNet validC (((m : Nat) : Int)) net)) rfl rfl rfl <| lx_assign (vou) rfl rfl <| lx_assign (.int .i64 (chkNet validC (((m : Nat) : Int)) net)) rfl rfl <| lx_nil <| wi_seq <| wi_reg rfl <| ?_
        have hfn : NetLt m flat := fun c hc => by
          rw [hff, List.mem_flatten] at hc
          obtain ⟨l, hl, hcl⟩ := hc
          obtain ⟨i, hi, rfl⟩ := mem_gt hl
          exact hnn c (hli.mem i c hcl)
        have hchk3 := netLt_chk hm1.1 hm1.2 (show flat.length ≤ 200 by omega) hfn
        have houe := good_ hou_1 hchk
        rw [Int.toNat_natCast] at houe
        have houl := filtF_length (2 ^ m) (outB m net)
        have houl2 : you.length ≤ 1024 := by rw [houe]; exact Nat.le_trans houl hpw
        refine lx_move (.int .i64 ((m : Nat) : Int)) rfl rfl <| lx_move (v) rfl rfl <| lx_call [.int .i64 ((m : Nat) : Int), v] rfl rfl Try.call36 rfl (outputs_spec h25 (((m : Nat) : Int)) v flat ho92.rd (by omega)) (fun _ _ _ => trivial) ?_
        rintro _ h26 ⟨vou2, you2, rfl, ho96, hou_2, hx17⟩
        have hx0_33 := hx0_32.trans2 hx17 hx0_32.size
        have ho97 := ho92.extS hx17
        have ho98 := ho93.extS hx17
        have ho99 := ho94.extS hx17
        have hot15 := hot14.extS hx17
        have ho100 := ho95.extS hx17
        have ho101 := ho96.base hx0_32.size
        refine lx_move (.tuple #[vou2, .int .i64 (chkNet validC (((m : Nat) : Int)) flat)]) rfl rfl <| lx_extract (vou2) rfl rfl rfl <| lx_extract (.int .i64 (chkNet validC (((m : Nat) : Int)) flat)) rfl rfl rfl <| lx_assign (vou2) rfl rfl <| lx_assign (.int .i64 (chkNet validC (((m : Nat) : Int)) flat)) rfl rfl <| lx_nil <| wi_seq <| wi_reg rfl <| ?_
        have houe2 := good_ hou_2 hchk3
        rw [Int.toNat_natCast] at houe2
        have hsame : you = you2 := by rw [houe, houe2]; exact outs_congr hrun
        have houl3 : you2.length ≤ 1024 := by rw [← hsame]; exact houl2
        refine lx_move (.int .i64 (chkNet validC (((m : Nat) : Int)) net)) rfl rfl <| lx_eqlT rfl rfl rfl hchk <| lx_move (.bool true) rfl rfl <| lx_move (.int .i64 (chkNet validC (((m : Nat) : Int)) net)) rfl rfl <| lx_eqlT rfl rfl rfl hchk <| lx_pick true (.bool true) rfl rfl rfl <| lx_move (.bool true) rfl rfl <| lx_move (.int .i64 (chkNet validC (((m : Nat) : Int)) flat)) rfl rfl <| lx_eqlT rfl rfl rfl hchk3 <| lx_pick true (.bool true) rfl rfl rfl <| lx_move (.bool true) rfl rfl <| lx_move (v) rfl rfl <| lx_len rfl Try.underlying38 ho97.rd rfl <| lx_move (vo) rfl rfl <| lx_len rfl Try.underlying38 ho98.rd rfl <| lx_eqlT rfl rfl rfl (by omega) <| lx_pick true (.bool true) rfl rfl rfl <| lx_move (.bool true) rfl rfl <| lx_move (vou) rfl rfl <| lx_move (vou2) rfl rfl <| lx_call [vou, vou2] rfl rfl Try.call27 rfl (ints_spec h26 vou you vou2 you2 ho100.rd ho101.rd (by omega) (by omega)) (fun _ _ _ => trivial) ?_
        rintro _ h27 ⟨rfl, rfl⟩
        rw [decide_eq_true hsame]
        refine lx_pick true (.bool true) rfl rfl rfl <| lx_move (.bool true) rfl rfl <| lx_call [] rfl rfl Try.call15 rfl (awake_spec h26 ) (fun _ _ _ => trivial) ?_
        rintro _ h28 ⟨rfl, hx18⟩
        have hx0_34 := hx0_33.trans2 hx18 hx0_33.size
        have ho102 := ho97.extS hx18
        have ho103 := ho98.extS hx18
        have ho104 := ho99.extS hx18
        have hot16 := hot15.extS hx18
        have ho105 := ho100.extS hx18
        have ho106 := ho101.extS hx18
        refine lx_pick true (.bool true) rfl rfl rfl <| lx_assign (.bool true) rfl rfl <| lx_nil <| ?_
        -- R2
        refine wi_ret ⟨.bool true, (res_one rfl rfl), ⟨rfl, hx0_34⟩⟩
  · refine lx_move (.bool false) rfl rfl <| lx_skip rfl <| lx_skip rfl <| lx_pick false (.bool false) rfl rfl rfl <| lx_move (.bool false) rfl rfl <| lx_skip rfl <| lx_skip rfl <| lx_pick false (.bool false) rfl rfl rfl <| lx_nil <| wi_false rfl <| wi_exit rfl <| wi_seq <| wi_seq <| wi_reg rfl <| lx_move (vl) rfl rfl <| lx_len rfl Try.underlying38 hr_vl rfl <| lx_rem (m := ls.length) (n := 3) rfl rfl rfl (by omega) <| lx_eql rfl rfl rfl <| lx_nil <| ?_
    refine wi_cutE (σ := Value × (List (Int × Int))) (rngB 69 89 [5, 8, 9]) (fun (ss : Value × (List (Int × Int))) => [(5, ss.1)]) (fun (ss : Value × (List (Int × Int))) (hh : Heap) => OwE encP hh h.size 60 ss.1 ss.2 ∧ Ext h.size h hh ∧ (ss.2.length ≤ 120) ∧ (PlainNet m ss.2)) (fun J3 => ?_) ?_
    · refine wi_condS (t := decide (((ls.length % 3 : Nat) : Int) = (0 : Int))) rfl (fun c14 => ?_) (fun c14 => ?_)
      · refine wi_seq <| wi_reg rfl <| lx_assign (.slice none 0 0) rfl rfl <| lx_nil <| wi_seq <| wi_reg rfl <| lx_assign (.int .i64 0) rfl rfl <| lx_nil <| wi_block <| ?_
        refine wi_loop (σ := Nat × Value × (List (Int × Int))) (rngB 69 89 [5, 8, 9]) (fun (ss : Nat × Value × (List (Int × Int))) => [(8, .int .i64 ((ss.1 : Nat) : Int)), (5, ss.2.1)]) (fun (ss : Nat × Value × (List (Int × Int))) (hh : Heap) => OwE encP hh h.size 60 ss.2.1 ss.2.2 ∧ Ext h.size h hh ∧ (ss.1 ≤ m) ∧ (ss.2.2.length ≤ 10 * ss.1) ∧ (PlainNet m ss.2.2)) (fun (ss : Nat × Value × (List (Int × Int))) => m - ss.1) (0, .slice none 0 0, []) ⟨rfl, rfl, trivial⟩ ⟨?_, hx0_1, ?_, ?_, ?_⟩ ?_
        · first | exact (owE_nil encP _ h.size 60) | (simpa using (owE_nil encP _ h.size 60))
        · try dsimp only
          omega
        · try dsimp only
          exact Nat.zero_le _
        · try dsimp only
          exact PlainNet.nil m
        rintro g12 ⟨i, v, out⟩ hh12 ⟨ho107, hx0_35, hi, hol, hpo⟩ IH10
        dsimp only at *
        refine wi_seq <| wi_seq <| wi_reg rfl <| lx_move (.int .i64 ((i : Nat) : Int)) rfl rfl <| lx_move (.int .i64 ((m : Nat) : Int)) rfl rfl <| lx_lssS rfl rfl rfl (fun c15 => ?_) (fun c15 => ?_)
        · refine lx_nil <| wi_true rfl <| wi_skip <| wi_seq <| wi_block <| wi_seq <| wi_reg rfl <| lx_assign (.int .i64 0) rfl rfl <| lx_nil <| wi_block <| ?_
          refine wi_loop (σ := Nat × Value × (List (Int × Int))) (rngB 74 89 [5, 9]) (fun (ss : Nat × Value × (List (Int × Int))) => [(9, .int .i64 ((ss.1 : Nat) : Int)), (5, ss.2.1)]) (fun (ss : Nat × Value × (List (Int × Int))) (hh : Heap) => OwE encP hh h.size 60 ss.2.1 ss.2.2 ∧ Ext h.size h hh ∧ (ss.1 ≤ 10) ∧ (ss.2.2.length ≤ 10 * i + ss.1) ∧ (PlainNet m ss.2.2)) (fun (ss : Nat × Value × (List (Int × Int))) => m - ss.1) (0, v, out) ⟨rfl, rfl, trivial⟩ ⟨?_, hx0_35, ?_, ?_, ?_⟩ ?_
          · first | exact ho107 | (simpa using ho107)
          · try dsimp only
            omega
          · try dsimp only
            omega
          · try dsimp only
            exact hpo
          rintro g13 ⟨k, v, out⟩ hh13 ⟨ho108, hx0_36, hk, hol2, hpo2⟩ IH11
          dsimp only at *
          refine wi_seq <| wi_seq <| wi_reg rfl <| lx_move (.int .i64 ((k : Nat) : Int)) rfl rfl <| lx_add (((k + 1 : Nat) : Int)) rfl rfl rfl (by omega) (by omega) (by omega) <| lx_move (.int .i64 ((m : Nat) : Int)) rfl rfl <| lx_move (.int .i64 ((i : Nat) : Int)) rfl rfl <| lx_sub (((m - i : Nat) : Int)) rfl rfl rfl (by omega) (by omega) (by omega) <| lx_lssS rfl rfl rfl (fun c16 => ?_) (fun c16 => ?_)
          · refine lx_nil <| wi_true rfl <| wi_skip <| wi_seq <| wi_block <| wi_reg rfl <| lx_move (v) rfl rfl <| lx_move (.int .i64 ((k : Nat) : Int)) rfl rfl <| lx_move (.int .i64 ((k : Nat) : Int)) rfl rfl <| lx_add (((k + 1 : Nat) : Int)) rfl rfl rfl (by omega) (by omega) (by omega) <| lx_build (.agg #[.int .i64 ((k : Nat) : Int), .int .i64 ((k + 1 : Nat) : Int)]) [(0, .int .i64 ((k : Nat) : Int)), (1, .int .i64 ((k + 1 : Nat) : Int))] rfl rfl (fun w => bld60_2 _ _ w) <| lx_appendL (E := encP) (B := h.size) [(((k : Nat) : Int), ((k + 1 : Nat) : Int))] [.agg #[.int .i64 ((k : Nat) : Int), .int .i64 ((k + 1 : Nat) : Int)]] rfl rfl (fun _ => rfl) rfl eT38 rfl rfl rfl rfl ho108 (fun _ => rfl) (by show out.length + 1 ≤ _; omega) (by show (out.length + 1) * 16 ≤ _; omega) hx0_36.size (fun _ _ => trivial) fun u6 v6 h29 ho109 hc6 hg6 => ?_
            have hx0_37 := hx0_36.trans (ho108.ext hc6 hx0_36.size)
            refine lx_assign (v6) rfl rfl <| lx_nil <| wi_inBlock <| wi_reg rfl <| lx_move (.int .i64 ((k : Nat) : Int)) rfl rfl <| lx_add (((k + 1 : Nat) : Int)) rfl rfl rfl (by omega) (by omega) (by omega) <| lx_assign (.int .i64 ((k + 1 : Nat) : Int)) rfl rfl <| lx_nil <| ?_
            -- L4.1
            refine IH11 _ _ (k + 1, v6, out ++ [(((k : Nat) : Int), ((k + 1 : Nat) : Int))]) (agree_ups rfl agree_self) ⟨rfl, rfl, trivial⟩ ⟨?_, hx0_37, ?_, ?_, ?_⟩ ?_
            · first | exact ho109 | (simpa using ho109)
            · try dsimp only
              omega
            · try dsimp only
              rw [List.length_append]; show _ + 1 ≤ _; omega
            · try dsimp only
              exact hpo2.snoc (by omega)
            · first | omega | (dsimp only; omega)
          · refine lx_nil <| wi_false rfl <| wi_exit rfl <| wi_inBlock <| wi_reg rfl <| lx_move (.int .i64 ((i : Nat) : Int)) rfl rfl <| lx_add (((i + 1 : Nat) : Int)) rfl rfl rfl (by omega) (by omega) (by omega) <| lx_assign (.int .i64 ((i + 1 : Nat) : Int)) rfl rfl <| lx_nil <| ?_
            -- L2.1
            refine IH10 _ _ (i + 1, v, out) (agree_ups rfl (agree_mix (rngB_sub (by decide) (by decide) rfl) (agree_ups rfl agree_self))) ⟨rfl, rfl, trivial⟩ ⟨?_, hx0_36, ?_, ?_, ?_⟩ ?_
            · first | exact ho108 | (simpa using ho108)
            · try dsimp only
              omega
            · try dsimp only
              omega
            · try dsimp only
              exact hpo2
            · first | omega | (dsimp only; omega)
        · refine lx_nil <| wi_false rfl <| wi_exit rfl <| ?_
          -- Jt68.1
          refine J3 _ _ (v, out) (agree_ups rfl (agree_mix (rngB_sub (by decide) (by decide) rfl) (agree_ups rfl agree_upsJ))) ⟨rfl, trivial⟩ ⟨?_, hx0_35, ?_, ?_⟩
          · first | exact ho107 | (simpa using ho107)
          · try dsimp only
            omega
          · try dsimp only
            exact hpo
      · refine wi_skip <| ?_
        -- Jt68.2
        refine J3 _ _ (v, out) (agree_ups rfl agree_upsJ) ⟨rfl, trivial⟩ ⟨?_, hx0_1, ?_, ?_⟩
        · first | exact ho1 | (simpa using ho1)
        · try dsimp only
          omega
        · try dsimp only
          exact hpo
    rintro g14 ⟨vo, net⟩ hh14 ⟨ho110, hx0_38, hnl, hpn⟩
    dsimp only at *
    refine wi_seq <| wi_reg rfl <| ?_
    have hnn := hpn.lt
    have hchk := netLt_chk hm1.1 hm1.2 (show net.length ≤ 200 by omega) hnn
    refine lx_move (.int .i64 ((m : Nat) : Int)) rfl rfl <| lx_move (vo) rfl rfl <| lx_call [.int .i64 ((m : Nat) : Int), vo] rfl rfl Try.call35 rfl (fails_spec hh14 (((m : Nat) : Int)) vo net ho110.rd (by omega)) (fun _ _ _ => trivial) ?_
    rintro _ h30 ⟨pf, bf, rfl, hf_1, hx19⟩
    have hx0_39 := hx0_38.trans2 hx19 hx0_38.size
    have ho111 := ho110.extS hx19
    refine lx_move (.tuple #[.int .i64 ((pf : Nat) : Int), .bool bf, .int .i64 (chkNet validC (((m : Nat) : Int)) net)]) rfl rfl <| lx_extract (.int .i64 ((pf : Nat) : Int)) rfl rfl rfl <| lx_extract (.bool bf) rfl rfl rfl <| lx_extract (.int .i64 (chkNet validC (((m : Nat) : Int)) net)) rfl rfl rfl <| lx_assign (.int .i64 ((pf : Nat) : Int)) rfl rfl <| lx_assign (.bool bf) rfl rfl <| lx_assign (.int .i64 (chkNet validC (((m : Nat) : Int)) net)) rfl rfl <| lx_nil <| wi_seq <| wi_reg rfl <| ?_
    have hfa := good_ hf_1 hchk
    rw [Int.toNat_natCast] at hfa
    have hpl := plain_law hpn hfa
    have hl3 := valuesF_length m []
    have hre := runE_zero hchk hl3
    refine lx_move (.int .i64 ((m : Nat) : Int)) rfl rfl <| lx_move (vo) rfl rfl <| lx_move (.int .i64 ((m : Nat) : Int)) rfl rfl <| lx_call [.int .i64 ((m : Nat) : Int), .slice none 0 0] rfl rfl Try.call33 rfl (values_spec h30 m ((.slice none 0 0)) ([]) (owE_nil encI _ 0 0).rd (by omega) (Nat.zero_le _)) (fun _ _ _ => trivial) ?_
    rintro vin h31 ⟨_, rfl, ho112, hx20⟩
    have hx0_40 := hx0_39.trans2 hx20 hx0_39.size
    have ho113 := ho111.extS hx20
    have ho114 := ho112.base hx0_39.size
    refine lx_call [.int .i64 ((m : Nat) : Int), vo, vin] rfl rfl Try.call34 rfl (run_spec2 h31 (((m : Nat) : Int)) vo net vin (valuesF m ([])) ho113.rd ho114.rd (by omega) (by omega)) (fun _ _ _ => trivial) ?_
    rintro _ h32 ⟨vx, yr, rfl, ho115, hrv_1, hx21⟩
    have hx0_41 := hx0_40.trans2 hx21 hx0_40.size
    have ho116 := ho113.extS hx21
    have ho117 := ho114.extS hx21
    have ho118 := ho115.base hx0_40.size
    refine lx_move (.tuple #[vx, .int .i64 (runE (((m : Nat) : Int)) net (valuesF m ([])))]) rfl rfl <| lx_extract (vx) rfl rfl rfl <| lx_extract (.int .i64 (runE (((m : Nat) : Int)) net (valuesF m ([])))) rfl rfl rfl <| lx_assign (vx) rfl rfl <| lx_assign (.int .i64 (runE (((m : Nat) : Int)) net (valuesF m ([])))) rfl rfl <| lx_nil <| wi_seq <| wi_reg rfl <| ?_
    have hrv := good_ hrv_1 hre
    have hyl : yr.length = m := by rw [hrv, runV_length]; exact hl3
    refine lx_move (.int .i64 ((m : Nat) : Int)) rfl rfl <| lx_call [.int .i64 ((m : Nat) : Int)] rfl rfl Try.call20 rfl (merge_spec h32 (((m : Nat) : Int)) ) (fun _ _ _ => trivial) ?_
    rintro _ h33 ⟨vm, ms, rfl, ho119, hm_1, hx22⟩
    have hx0_42 := hx0_41.trans2 hx22 hx0_41.size
    have ho120 := ho116.extS hx22
    have ho121 := ho117.extS hx22
    have ho122 := ho118.extS hx22
    have ho123 := ho119.base hx0_41.size
    refine lx_move (.tuple #[vm, .int .i64 (if (((m : Nat) : Int)) < 1 ∨ 10 < (((m : Nat) : Int)) then 1 else 0)]) rfl rfl <| lx_extract (vm) rfl rfl rfl <| lx_extract (.int .i64 (if (((m : Nat) : Int)) < 1 ∨ 10 < (((m : Nat) : Int)) then 1 else 0)) rfl rfl rfl <| lx_assign (vm) rfl rfl <| lx_assign (.int .i64 (if (((m : Nat) : Int)) < 1 ∨ 10 < (((m : Nat) : Int)) then 1 else 0)) rfl rfl <| lx_nil <| wi_seq <| wi_reg rfl <| ?_
    have hme : ms = mergeF m := by rw [hm_1, if_neg (by omega), Int.toNat_natCast]
    have hml : ms.length ≤ 31 := by rw [hme]; exact mergeF_short m (by omega)
    have hchk2 : chkNet validC ((m : Nat) : Int) ms = 0 := by rw [hme]; exact merge_chk m hm1.1 hm1.2
    refine lx_move (.int .i64 ((m : Nat) : Int)) rfl rfl <| lx_move (vm) rfl rfl <| lx_call [.int .i64 ((m : Nat) : Int), vm] rfl rfl Try.call35 rfl (fails_spec h33 (((m : Nat) : Int)) vm ms ho123.rd (by omega)) (fun _ _ _ => trivial) ?_
    rintro _ h34 ⟨p2, b2, rfl, hf_2, hx23⟩
    have hx0_43 := hx0_42.trans2 hx23 hx0_42.size
    have ho124 := ho120.extS hx23
    have ho125 := ho121.extS hx23
    have ho126 := ho122.extS hx23
    have ho127 := ho123.extS hx23
    refine lx_move (.tuple #[.int .i64 ((p2 : Nat) : Int), .bool b2, .int .i64 (chkNet validC (((m : Nat) : Int)) ms)]) rfl rfl <| lx_extract (.int .i64 ((p2 : Nat) : Int)) rfl rfl rfl <| lx_extract (.bool b2) rfl rfl rfl <| lx_extract (.int .i64 (chkNet validC (((m : Nat) : Int)) ms)) rfl rfl rfl <| lx_assign (.int .i64 ((p2 : Nat) : Int)) rfl rfl <| lx_assign (.bool b2) rfl rfl <| lx_assign (.int .i64 (chkNet validC (((m : Nat) : Int)) ms)) rfl rfl <| lx_nil <| wi_seq <| wi_seq <| wi_reg rfl <| ?_
    have hfa2 := good_ hf_2 hchk2
    rw [Int.toNat_natCast] at hfa2
    obtain rfl := fails_no hfa2 (by rw [hme]; exact merge_sorts hm1.1 hm1.2)
    refine lx_move (.int .i64 (chkNet validC (((m : Nat) : Int)) net)) rfl rfl <| lx_neqF rfl rfl rfl (fun h => h hchk) <| lx_move (.bool false) rfl rfl <| lx_move (.int .i64 (runE (((m : Nat) : Int)) net (valuesF m ([])))) rfl rfl <| lx_neqF rfl rfl rfl (fun h => h hre) <| lx_pick false (.bool false) rfl rfl rfl <| lx_move (.bool false) rfl rfl <| lx_move (.int .i64 (if (((m : Nat) : Int)) < 1 ∨ 10 < (((m : Nat) : Int)) then 1 else 0)) rfl rfl <| lx_neqF rfl rfl rfl (by rw [if_neg (by omega)]; decide) <| lx_pick false (.bool false) rfl rfl rfl <| lx_move (.bool false) rfl rfl <| lx_move (.int .i64 (chkNet validC (((m : Nat) : Int)) ms)) rfl rfl <| lx_neqF rfl rfl rfl (fun h => h hchk2) <| lx_pick false (.bool false) rfl rfl rfl <| lx_move (.bool false) rfl rfl <| lx_move (.bool bf) rfl rfl <| lx_move (vx) rfl rfl <| lx_call [vx] rfl rfl Try.call19 rfl (inOrder_spec h34 vx yr ho126.rd (by omega)) (fun _ _ _ => trivial) ?_
    rintro _ h35 ⟨rfl, rfl⟩
    refine lx_eqlBool false rfl Try.underlying4 rfl rfl (by rw [hpl, ← hrv]; cases inOrd yr <;> rfl) <| lx_pick false (.bool false) rfl rfl rfl <| lx_move (.bool false) rfl rfl <| lx_move (.bool false) rfl rfl <| lx_pick false (.bool false) rfl rfl rfl <| lx_nil <| wi_false rfl <| wi_skip <| wi_seq <| wi_reg rfl <| lx_move (.int .i64 ((m : Nat) : Int)) rfl rfl <| lx_move (vo) rfl rfl <| lx_call [.int .i64 ((m : Nat) : Int), vo] rfl rfl Try.call38 rfl (layers_spec h34 (((m : Nat) : Int)) vo net ho124.rd (by omega)) (fun _ _ _ => trivial) ?_
    rintro _ h36 ⟨vly, hsl, ylay, rfl, ho128, hot17, hly_1, hx24⟩
    have hx0_44 := hx0_43.trans2 hx24 hx0_43.size
    have ho129 := ho124.extS hx24
    have ho130 := ho125.extS hx24
    have ho131 := ho126.extS hx24
    have ho132 := ho127.extS hx24
    have ho133 := ho128.base hx0_43.size
    have hot18 := hot17.base hx0_43.size
    have hl_hot18 := hot18.1
    refine lx_move (.tuple #[vly, .int .i64 (chkNet validC (((m : Nat) : Int)) net)]) rfl rfl <| lx_extract (vly) rfl rfl rfl <| lx_extract (.int .i64 (chkNet validC (((m : Nat) : Int)) net)) rfl rfl rfl <| lx_assign (vly) rfl rfl <| lx_assign (.int .i64 (chkNet validC (((m : Nat) : Int)) net)) rfl rfl <| lx_nil <| wi_seq <| wi_reg rfl <| ?_
    have hlye := good_ hly_1 hchk
    have hli := layI (Nat.le_refl net.length)
    rw [← hlye] at hli
    have hlil := hli.len
    have holy := outY_le net net.length
    rw [← hlye] at holy
    refine lx_assign (.slice none 0 0) rfl rfl <| lx_nil <| wi_seq <| wi_seq <| wi_reg rfl <| lx_assign (.int .i64 0) rfl rfl <| lx_nil <| wi_block <| ?_
    refine wi_loop (σ := Nat × Value × (List (Int × Int))) (rngB 145 198 [4, 22, 23, 24, 25, 26]) (fun (ss : Nat × Value × (List (Int × Int))) => [(23, .int .i64 ((ss.1 : Nat) : Int)), (22, ss.2.1)]) (fun (ss : Nat × Value × (List (Int × Int))) (hh : Heap) => OwE encHd hh h.size 38 vly hsl ∧ OT encP hh h.size 60 hsl ylay ∧ OwE encP hh h.size 60 vo net ∧ OwE encP hh h.size 60 ss.2.1 ss.2.2 ∧ Ext h.size h hh ∧ Dj ss.2.1 vo ∧ Djt hsl ss.2.1 ∧ Djt hsl vo ∧ (ss.1 ≤ ylay.length) ∧ (ss.2.2 = flatF ylay ss.1 0)) (fun (ss : Nat × Value × (List (Int × Int))) => ylay.length - ss.1) (0, .slice none 0 0, []) ⟨rfl, rfl, trivial⟩ ⟨?_, ?_, ?_, ?_, hx0_44, (dj_nil_l _), (djt_nil _), (djt_newT ho124 hot17), ?_, ?_⟩ ?_
    · first | exact ho133 | (simpa using ho133)
    · first | exact hot18 | (simpa using hot18)
    · first | exact ho129 | (simpa using ho129)
    · first | exact (owE_nil encP _ h.size 60) | (simpa using (owE_nil encP _ h.size 60))
    · try dsimp only
      omega
    · try dsimp only
      first | done | rfl
    rintro g15 ⟨k, v, flat⟩ hh15 ⟨ho134, hot19, ho135, ho136, hx0_45, hdj5, hdt9, hdt10, hk, hfl1⟩ IH12
    dsimp only at *
    have hl_hot19 := hot19.1
    refine wi_seq <| wi_seq <| wi_reg rfl <| lx_move (.int .i64 ((k : Nat) : Int)) rfl rfl <| lx_move (vly) rfl rfl <| lx_len rfl Try.underlying65 ho134.rd rfl <| lx_lssS rfl rfl rfl (fun c17 => ?_) (fun c17 => ?_)
    · refine lx_nil <| wi_true rfl <| wi_skip <| wi_seq <| wi_block <| wi_seq <| wi_reg rfl <| lx_assign (.int .i64 0) rfl rfl <| lx_nil <| wi_seq <| wi_reg rfl <| lx_assign (.int .i64 0) rfl rfl <| lx_nil <| wi_block <| ?_
      refine wi_loop (σ := Nat × Nat × Value × (List (Int × Int))) (rngB 151 198 [4, 22, 24, 25, 26]) (fun (ss : Nat × Nat × Value × (List (Int × Int))) => [(25, .int .i64 ((ss.1 : Nat) : Int)), (24, .int .i64 ((ss.2.1 : Nat) : Int)), (22, ss.2.2.1)]) (fun (ss : Nat × Nat × Value × (List (Int × Int))) (hh : Heap) => OwE encHd hh h.size 38 vly hsl ∧ OT encP hh h.size 60 hsl ylay ∧ OwE encP hh h.size 60 vo net ∧ OwE encP hh h.size 60 ss.2.2.1 ss.2.2.2 ∧ Ext h.size h hh ∧ Dj ss.2.2.1 vo ∧ Djt hsl ss.2.2.1 ∧ Djt hsl vo ∧ (ss.1 ≤ (gt ylay k).length) ∧ (ss.2.1 = usedF (gt ylay k) ss.1) ∧ (ss.2.2.2 = flatF ylay k ss.1)) (fun (ss : Nat × Nat × Value × (List (Int × Int))) => (gt ylay k).length - ss.1) (0, 0, v, flat) ⟨rfl, rfl, rfl, trivial⟩ ⟨?_, ?_, ?_, ?_, hx0_45, hdj5, hdt9, hdt10, ?_, ?_, ?_⟩ ?_
      · first | exact ho134 | (simpa using ho134)
      · first | exact hot19 | (simpa using hot19)
      · first | exact ho135 | (simpa using ho135)
      · first | exact ho136 | (simpa using ho136)
      · try dsimp only
        omega
      · try dsimp only
        first | done | rfl
      · try dsimp only
        exact hfl1
      rintro g16 ⟨j, u, v, flat⟩ hh16 ⟨ho137, hot20, ho138, ho139, hx0_46, hdj6, hdt11, hdt12, hj, hu, hfl2⟩ IH13
      dsimp only at *
      have hfl9 := flatF_len (Y := ylay) (show k < ylay.length by omega) (show j ≤ (gt ylay k).length by omega)
      rw [← hfl2, hlil] at hfl9
      have hl_hot20 := hot20.1
      refine wi_seq <| wi_seq <| wi_reg rfl <| ?_
      refine lx_move (.int .i64 ((j : Nat) : Int)) rfl rfl <| lx_move (vly) rfl rfl <| lx_move (.int .i64 ((k : Nat) : Int)) rfl rfl <| lx_ix (i := k) rfl eT65 ho137.rd rfl rfl (by first | omega | (simp only [List.length_set, List.length_append, List.length_cons, List.length_nil, List.length_replicate, List.length_take, swp_length, exch_length]; omega)) <| lx_ld (i := k) (j := 0) ((gt hsl k).v) rfl rfl fl38 ho137.rd (by first | omega | (simp only [List.length_set, List.length_append, List.length_cons, List.length_nil, List.length_replicate, List.length_take, swp_length, exch_length]; omega)) rfl rfl <| lx_len rfl Try.underlying38 (hot20.2.1 k (by first | omega | (simp only [List.length_set, List.length_append, List.length_cons, List.length_nil, List.length_replicate, List.length_take, swp_length, exch_length]; omega))).rd rfl <| lx_lssS rfl rfl rfl (fun c18 => ?_) (fun c18 => ?_)
      · refine lx_nil <| wi_true rfl <| wi_skip <| wi_seq <| wi_block <| wi_seq <| wi_draw mo rfl (by decide +kernel) <| ?_
        have hjl9 : j < (gt ylay k).length := by omega
        have hrl9 := rowY_len net net.length k
        rw [← hlye] at hrl9
        obtain ⟨a, b, hgc, hab, hb⟩ := hnn _ (hli.mem k _ (gt_mem hjl9))
        have hpa := pow10 (show a ≤ 10 by omega)
        have hpb := pow10 (show b ≤ 10 by omega)
        have hpor : 1 * 2 ^ a ||| 1 * 2 ^ b < 2 ^ 11 := Nat.or_lt_two_pow (by omega) (by omega)
        have hz := used_and hjl9 (fun p q h1 h2 => hli.disj k p q h1 h2) hgc
        have hul := usedF_lt (l := gt ylay k) (fun p hp => by obtain ⟨a, b, e, h1, h2⟩ := hnn _ (hli.mem k _ (gt_mem hp)); rw [e]; simp only [Int.toNat_natCast]; omega) (k := j) (by omega)
        rw [← hu] at hz hul
        have hor2 : u ||| (1 * 2 ^ a ||| 1 * 2 ^ b) < 2 ^ 11 := Nat.or_lt_two_pow (by omega) (by omega)
        have hfl := flatF_len (Y := ylay) (show k < ylay.length by omega) (show j ≤ (gt ylay k).length by omega)
        refine lx_move (vly) rfl rfl <| lx_move (.int .i64 ((k : Nat) : Int)) rfl rfl <| lx_ix (i := k) rfl eT65 ho137.rd rfl rfl (by first | omega | (simp only [List.length_set, List.length_append, List.length_cons, List.length_nil, List.length_replicate, List.length_take, swp_length, exch_length]; omega)) <| lx_ld (i := k) (j := 0) ((gt hsl k).v) rfl rfl fl38 ho137.rd (by first | omega | (simp only [List.length_set, List.length_append, List.length_cons, List.length_nil, List.length_replicate, List.length_take, swp_length, exch_length]; omega)) rfl rfl <| lx_move (.int .i64 ((j : Nat) : Int)) rfl rfl <| lx_ix (i := j) rfl eT38 (hot20.2.1 k (by first | omega | (simp only [List.length_set, List.length_append, List.length_cons, List.length_nil, List.length_replicate, List.length_take, swp_length, exch_length]; omega))).rd rfl rfl (by first | omega | (simp only [List.length_set, List.length_append, List.length_cons, List.length_nil, List.length_replicate, List.length_take, swp_length, exch_length]; omega)) <| lx_ixP (i := j) (c := 0) rfl Try.underlying60 Try.sizeOf3 (hot20.2.1 k (by first | omega | (simp only [List.length_set, List.length_append, List.length_cons, List.length_nil, List.length_replicate, List.length_take, swp_length, exch_length]; omega))).rd (by first | omega | (simp only [List.length_set, List.length_append, List.length_cons, List.length_nil, List.length_replicate, List.length_take, swp_length, exch_length]; omega)) rfl rfl (by decide) <| lx_ld (i := j) (j := 0) (.int .i64 ((a : Nat) : Int)) rfl rfl fl3 (hot20.2.1 k (by first | omega | (simp only [List.length_set, List.length_append, List.length_cons, List.length_nil, List.length_replicate, List.length_take, swp_length, exch_length]; omega))).rd (by first | omega | (simp only [List.length_set, List.length_append, List.length_cons, List.length_nil, List.length_replicate, List.length_take, swp_length, exch_length]; omega)) (by rw [hgc]; rfl) rfl <| lx_conv ((a : Nat) : Int) rfl Try.underlying3 Try.underlying26 rfl (wrap_u64 (by omega) (by omega)) <| lx_shl (m := 1) (n := a) rfl rfl rfl (by show _ ≤ 64; omega) (wrap_i64 (by omega) (by omega)) <| lx_move (vly) rfl rfl <| lx_move (.int .i64 ((k : Nat) : Int)) rfl rfl <| lx_ix (i := k) rfl eT65 ho137.rd rfl rfl (by first | omega | (simp only [List.length_set, List.length_append, List.length_cons, List.length_nil, List.length_replicate, List.length_take, swp_length, exch_length]; omega)) <| lx_ld (i := k) (j := 0) ((gt hsl k).v) rfl rfl fl38 ho137.rd (by first | omega | (simp only [List.length_set, List.length_append, List.length_cons, List.length_nil, List.length_replicate, List.length_take, swp_length, exch_length]; omega)) rfl rfl <| lx_move (.int .i64 ((j : Nat) : Int)) rfl rfl <| lx_ix (i := j) rfl eT38 (hot20.2.1 k (by first | omega | (simp only [List.length_set, List.length_append, List.length_cons, List.length_nil, List.length_replicate, List.length_take, swp_length, exch_length]; omega))).rd rfl rfl (by first | omega | (simp only [List.length_set, List.length_append, List.length_cons, List.length_nil, List.length_replicate, List.length_take, swp_length, exch_length]; omega)) <| lx_ixP (i := j) (c := 1) rfl Try.underlying60 Try.sizeOf3 (hot20.2.1 k (by first | omega | (simp only [List.length_set, List.length_append, List.length_cons, List.length_nil, List.length_replicate, List.length_take, swp_length, exch_length]; omega))).rd (by first | omega | (simp only [List.length_set, List.length_append, List.length_cons, List.length_nil, List.length_replicate, List.length_take, swp_length, exch_length]; omega)) rfl rfl (by decide) <| lx_ld (i := j) (j := 1) (.int .i64 ((b : Nat) : Int)) rfl rfl fl3 (hot20.2.1 k (by first | omega | (simp only [List.length_set, List.length_append, List.length_cons, List.length_nil, List.length_replicate, List.length_take, swp_length, exch_length]; omega))).rd (by first | omega | (simp only [List.length_set, List.length_append, List.length_cons, List.length_nil, List.length_replicate, List.length_take, swp_length, exch_length]; omega)) (by rw [hgc]; rfl) rfl <| lx_conv ((b : Nat) : Int) rfl Try.underlying3 Try.underlying26 rfl (wrap_u64 (by omega) (by omega)) <| lx_shl (m := 1) (n := b) rfl rfl rfl (by show _ ≤ 64; omega) (wrap_i64 (by omega) (by omega)) <| lx_or (m := 1 * 2 ^ a) (n := 1 * 2 ^ b) rfl rfl rfl (by show _ < 2 ^ 64; omega) (by show _ < 2 ^ 64; omega) (wrap_i64 (by omega) (by omega)) <| lx_assign (.int .i64 (((1 * 2 ^ a) ||| (1 * 2 ^ b) : Nat) : Int)) rfl rfl <| lx_nil <| wi_seq <| wi_seq <| wi_reg rfl <| lx_move (.int .i64 ((u : Nat) : Int)) rfl rfl <| lx_move (.int .i64 (((1 * 2 ^ a) ||| (1 * 2 ^ b) : Nat) : Int)) rfl rfl <| lx_and (m := u) (n := (1 * 2 ^ a) ||| (1 * 2 ^ b)) rfl rfl rfl (by show _ < 2 ^ 64; omega) (by show _ < 2 ^ 64; omega) (by rw [hz]; rfl) <| lx_neqF rfl rfl rfl (fun h => h (by rw [hz]; rfl)) <| lx_nil <| wi_false rfl <| wi_skip <| wi_seq <| wi_reg rfl <| lx_move (.int .i64 ((u : Nat) : Int)) rfl rfl <| lx_move (.int .i64 (((1 * 2 ^ a) ||| (1 * 2 ^ b) : Nat) : Int)) rfl rfl <| lx_or (m := u) (n := (1 * 2 ^ a) ||| (1 * 2 ^ b)) rfl rfl rfl (by show _ < 2 ^ 64; omega) (by show _ < 2 ^ 64; omega) (wrap_i64 (by omega) (by omega)) <| lx_assign (.int .i64 ((u ||| ((1 * 2 ^ a) ||| (1 * 2 ^ b)) : Nat) : Int)) rfl rfl <| lx_nil <| wi_reg rfl <| lx_move (v) rfl rfl <| lx_move (vly) rfl rfl <| lx_move (.int .i64 ((k : Nat) : Int)) rfl rfl <| lx_ix (i := k) rfl eT65 ho137.rd rfl rfl (by first | omega | (simp only [List.length_set, List.length_append, List.length_cons, List.length_nil, List.length_replicate, List.length_take, swp_length, exch_length]; omega)) <| lx_ld (i := k) (j := 0) ((gt hsl k).v) rfl rfl fl38 ho137.rd (by first | omega | (simp only [List.length_set, List.length_append, List.length_cons, List.length_nil, List.length_replicate, List.length_take, swp_length, exch_length]; omega)) rfl rfl <| lx_move (.int .i64 ((j : Nat) : Int)) rfl rfl <| lx_ix (i := j) rfl eT38 (hot20.2.1 k (by first | omega | (simp only [List.length_set, List.length_append, List.length_cons, List.length_nil, List.length_replicate, List.length_take, swp_length, exch_length]; omega))).rd rfl rfl (by first | omega | (simp only [List.length_set, List.length_append, List.length_cons, List.length_nil, List.length_replicate, List.length_take, swp_length, exch_length]; omega)) <| lx_ldA (i := j) [.int .i64 ((gt (gt ylay k) j).1), .int .i64 ((gt (gt ylay k) j).2)] rfl rfl wd60 (hot20.2.1 k (by first | omega | (simp only [List.length_set, List.length_append, List.length_cons, List.length_nil, List.length_replicate, List.length_take, swp_length, exch_length]; omega))).rd (by first | omega | (simp only [List.length_set, List.length_append, List.length_cons, List.length_nil, List.length_replicate, List.length_take, swp_length, exch_length]; omega)) rfl rfl <| lx_appendL (E := encP) (B := h.size) [((gt (gt ylay k) j).1, (gt (gt ylay k) j).2)] [.agg #[.int .i64 ((gt (gt ylay k) j).1), .int .i64 ((gt (gt ylay k) j).2)]] rfl rfl (fun _ => rfl) rfl eT38 rfl rfl rfl rfl ho139 (fun _ => rfl) (by show flat.length + 1 ≤ _; omega) (by show (flat.length + 1) * 16 ≤ _; omega) hx0_46.size (fun _ _ => trivial) fun u7 v7 h37 ho140 hc7 hg7 => ?_
        have hx0_47 := hx0_46.trans (ho139.ext hc7 hx0_46.size)
        have ho141 := ho138.chg hc7 (Dj.symm hdj6)
        have ho142 := ho137.chg hc7 (dj_ty ho137 ho139 (by decide))
        have hot21 := hot20.chg hc7 hdt11
        refine lx_assign (v7) rfl rfl <| lx_nil <| wi_inBlock <| wi_reg rfl <| lx_move (.int .i64 ((j : Nat) : Int)) rfl rfl <| lx_add (((j + 1 : Nat) : Int)) rfl rfl rfl (by omega) (by omega) (by omega) <| lx_assign (.int .i64 ((j + 1 : Nat) : Int)) rfl rfl <| lx_nil <| ?_
        -- L8.1
        refine IH13 _ _ (j + 1, u ||| ((1 * 2 ^ a) ||| (1 * 2 ^ b)), v7, flat ++ [((gt (gt ylay k) j).1, (gt (gt ylay k) j).2)]) (agree_ups rfl agree_self) ⟨rfl, rfl, rfl, trivial⟩ ⟨?_, ?_, ?_, ?_, hx0_47, (Dj.symm (dj_app (Dj.symm hdj6) ho138 hg7)), (djt_app hdt11 hot20 hg7), hdt12, ?_, ?_, ?_⟩ ?_
        · first | exact ho142 | (simpa using ho142)
        · first | exact hot21 | (simpa using hot21)
        · first | exact ho141 | (simpa using ho141)
        · first | exact ho140 | (simpa using ho140)
        · try dsimp only
          omega
        · try dsimp only
          rw [hu]; show _ = usedF _ j ||| _
          rw [hgc]; rfl
        · try dsimp only
          rw [hfl2]; exact flatF_snoc hjl9
        · first | omega | (dsimp only; omega)
      · refine lx_nil <| wi_false rfl <| wi_exit rfl <| wi_inBlock <| wi_reg rfl <| lx_move (.int .i64 ((k : Nat) : Int)) rfl rfl <| lx_add (((k + 1 : Nat) : Int)) rfl rfl rfl (by omega) (by omega) (by omega) <| lx_assign (.int .i64 ((k + 1 : Nat) : Int)) rfl rfl <| lx_nil <| ?_
        -- L6.1
        refine IH12 _ _ (k + 1, v, flat) (agree_ups rfl (agree_mix (rngB_sub (by decide) (by decide) rfl) (agree_ups rfl agree_self))) ⟨rfl, rfl, trivial⟩ ⟨?_, ?_, ?_, ?_, hx0_46, hdj6, hdt11, hdt12, ?_, ?_⟩ ?_
        · first | exact ho137 | (simpa using ho137)
        · first | exact hot20 | (simpa using hot20)
        · first | exact ho138 | (simpa using ho138)
        · first | exact ho139 | (simpa using ho139)
        · try dsimp only
          omega
        · try dsimp only
          rw [hfl2, show j = (gt ylay k).length from by omega]; exact flatF_next (by omega)
        · first | omega | (dsimp only; omega)
    · refine lx_nil <| wi_false rfl <| wi_exit rfl <| wi_seq <| wi_reg rfl <| ?_
      have hkl : k = ylay.length := by omega
      have hff : flat = ylay.flatten := by rw [hfl1, hkl]; exact flatF_all
      have hfll : flat.length = net.length := by rw [hff]; exact hlil
      have hrun : ∀ f, runF net f = runF flat f := fun f => by rw [hff, hli.run, List.take_length]
      refine lx_move (.int .i64 ((m : Nat) : Int)) rfl rfl <| lx_move (vo) rfl rfl <| lx_call [.int .i64 ((m : Nat) : Int), vo] rfl rfl Try.call36 rfl (outputs_spec hh15 (((m : Nat) : Int)) vo net ho135.rd (by omega)) (fun _ _ _ => trivial) ?_
      rintro _ h38 ⟨vou, you, rfl, ho143, hou_1, hx25⟩
      have hx0_48 := hx0_45.trans2 hx25 hx0_45.size
      have ho144 := ho136.extS hx25
      have ho145 := ho135.extS hx25
      have ho146 := ho134.extS hx25
      have hot22 := hot19.extS hx25
      have ho147 := ho143.base hx0_45.size
      refine lx_move (.tuple #[vou, .int .i64 (chkNet validC (((m : Nat) : Int)) net)]) rfl rfl <| lx_extract (vou) rfl rfl rfl <| lx_extract (.int .i64 (chkNet validC (((m : Nat) : Int)) net)) rfl rfl rfl <| lx_assign (vou) rfl rfl <| lx_assign (.int .i64 (chkNet validC (((m : Nat) : Int)) net)) rfl rfl <| lx_nil <| wi_seq <| wi_reg rfl <| ?_
      have hfn : NetLt m flat := fun c hc => by
        rw [hff, List.mem_flatten] at hc
        obtain ⟨l, hl, hcl⟩ := hc
        obtain ⟨i, hi, rfl⟩ := mem_gt hl
        exact hnn c (hli.mem i c hcl)
      have hchk3 := netLt_chk hm1.1 hm1.2 (show flat.length ≤ 200 by omega) hfn
      have houe := good_ hou_1 hchk
      rw [Int.toNat_natCast] at houe
      have houl := filtF_length (2 ^ m) (outB m net)
      have houl2 : you.length ≤ 1024 := by rw [houe]; exact Nat.le_trans houl hpw
      refine lx_move (.int .i64 ((m : Nat) : Int)) rfl rfl <| lx_move (v) rfl rfl <| lx_call [.int .i64 ((m : Nat) : Int), v] rfl rfl Try.call36 rfl (outputs_spec h38 (((m : Nat) : Int)) v flat ho144.rd (by omega)) (fun _ _ _ => trivial) ?_
      rintro _ h39 ⟨vou2, you2, rfl, ho148, hou_2, hx26⟩
      have hx0_49 := hx0_48.trans2 hx26 hx0_48.size
      have ho149 := ho144.extS hx26
      have ho150 := ho145.extS hx26
      have ho151 := ho146.extS hx26
      have hot23 := hot22.extS hx26
      have ho152 := ho147.extS hx26
      have ho153 := ho148.base hx0_48.size
      refine lx_move (.tuple #[vou2, .int .i64 (chkNet validC (((m : Nat) : Int)) flat)]) rfl rfl <| lx_extract (vou2) rfl rfl rfl <| lx_extract (.int .i64 (chkNet validC (((m : Nat) : Int)) flat)) rfl rfl rfl <| lx_assign (vou2) rfl rfl <| lx_assign (.int .i64 (chkNet validC (((m : Nat) : Int)) flat)) rfl rfl <| lx_nil <| wi_seq <| wi_reg rfl <| ?_
      have houe2 := good_ hou_2 hchk3
      rw [Int.toNat_natCast] at houe2
      have hsame : you = you2 := by rw [houe, houe2]; exact outs_congr hrun
      have houl3 : you2.length ≤ 1024 := by rw [← hsame]; exact houl2
      refine lx_move (.int .i64 (chkNet validC (((m : Nat) : Int)) net)) rfl rfl <| lx_eqlT rfl rfl rfl hchk <| lx_move (.bool true) rfl rfl <| lx_move (.int .i64 (chkNet validC (((m : Nat) : Int)) net)) rfl rfl <| lx_eqlT rfl rfl rfl hchk <| lx_pick true (.bool true) rfl rfl rfl <| lx_move (.bool true) rfl rfl <| lx_move (.int .i64 (chkNet validC (((m : Nat) : Int)) flat)) rfl rfl <| lx_eqlT rfl rfl rfl hchk3 <| lx_pick true (.bool true) rfl rfl rfl <| lx_move (.bool true) rfl rfl <| lx_move (v) rfl rfl <| lx_len rfl Try.underlying38 ho149.rd rfl <| lx_move (vo) rfl rfl <| lx_len rfl Try.underlying38 ho150.rd rfl <| lx_eqlT rfl rfl rfl (by omega) <| lx_pick true (.bool true) rfl rfl rfl <| lx_move (.bool true) rfl rfl <| lx_move (vou) rfl rfl <| lx_move (vou2) rfl rfl <| lx_call [vou, vou2] rfl rfl Try.call27 rfl (ints_spec h39 vou you vou2 you2 ho152.rd ho153.rd (by omega) (by omega)) (fun _ _ _ => trivial) ?_
      rintro _ h40 ⟨rfl, rfl⟩
      rw [decide_eq_true hsame]
      refine lx_pick true (.bool true) rfl rfl rfl <| lx_move (.bool true) rfl rfl <| lx_call [] rfl rfl Try.call15 rfl (awake_spec h39 ) (fun _ _ _ => trivial) ?_
      rintro _ h41 ⟨rfl, hx27⟩
      have hx0_50 := hx0_49.trans2 hx27 hx0_49.size
      have ho154 := ho149.extS hx27
      have ho155 := ho150.extS hx27
      have ho156 := ho151.extS hx27
      have hot24 := hot23.extS hx27
      have ho157 := ho152.extS hx27
      have ho158 := ho153.extS hx27
      refine lx_pick true (.bool true) rfl rfl rfl <| lx_assign (.bool true) rfl rfl <| lx_nil <| ?_
      -- R3
      refine wi_ret ⟨.bool true, (res_one rfl rfl), ⟨rfl, hx0_50⟩⟩

end Go.Proofs.Ytjfickfgpkejpaa
