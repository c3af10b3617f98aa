/-
  Walk: SortMakes.
-/
import Derived.Test.YtjfickfgpkejpaaSI
set_option linter.unusedSimpArgs false
set_option linter.unusedVariables false
namespace Go.Proofs.Ytjfickfgpkejpaa
open Go Go.X

set_option maxRecDepth 10000 in
theorem sortMakes_spec (h : Heap) (n0 : Int) (vl : Value) (ls : List (Int × Int)) (hr_vl : RdE encP h vl ls) (hp1 : -9223372036854775808 ≤ n0) (hp2 : n0 ≤ 9223372036854775807) (hp3 : ls.length ≤ 9223372036854775807) : Fx Try.prog 5 [.int .i64 n0, vl] h (fun v h' => v = .bool true ∧ Ext h.size h h') := by
  refine fx_intro (n := 78) [(0, .int .i64 n0), (1, vl)] Try.func5 rfl rfl (by simp) ⟨rfl, rfl, trivial⟩ fun g0 => ?_
  refine wi_seq <| wi_reg rfl <| lx_assign (.bool false) rfl rfl <| lx_nil <| wi_seq <| wi_seq <| wi_reg rfl <| lx_assign (.int .i64 0) rfl rfl <| lx_nil <| wi_block <| ?_
  refine wi_loop (σ := Nat × Int) (rngB 14 47 [0, 4, 5, 6, 7]) (fun (ss : Nat × Int) => [(5, .int .i64 ((ss.1 : Nat) : Int)), (0, .int .i64 ss.2)]) (fun (ss : Nat × Int) (hh : Heap) => Ext h.size h hh ∧ (ss.1 ≤ 2) ∧ (-9223372036854775808 ≤ ss.2 ∧ ss.2 ≤ 9223372036854775807) ∧ (1 ≤ ss.1 → 1 ≤ ss.2 ∧ ss.2 ≤ 10)) (fun (ss : Nat × Int) => 2 - ss.1) (0, n0) ⟨rfl, rfl, trivial⟩ ⟨(Ext.refl _ _), ?_, ?_, ?_⟩ ?_
  · try dsimp only
    omega
  · try dsimp only
    omega
  · try dsimp only
    omega
  rintro g1 ⟨k, n⟩ hh1 ⟨hx0_1, hk, hnb, hk2⟩ IH1
  dsimp only at *
  refine wi_seq <| wi_seq <| wi_reg rfl <| lx_move (.int .i64 ((k : Nat) : Int)) rfl rfl <| lx_lssS rfl rfl rfl (fun c1 => ?_) (fun c1 => ?_)
  · refine lx_nil <| wi_true rfl <| wi_skip <| wi_seq <| wi_block <| wi_seq <| wi_reg rfl <| lx_move (.int .i64 n) rfl rfl <| lx_call [.int .i64 n] rfl rfl Try.call20 rfl (merge_spec hh1 n ) (fun _ _ _ => trivial) ?_
    rintro _ h1 ⟨vm, ms, rfl, ho1, hm_1, hx1⟩
    have hx0_2 := hx0_1.trans2 hx1 hx0_1.size
    have ho2 := ho1.base hx0_1.size
    refine lx_move (.tuple #[vm, .int .i64 (if n < 1 ∨ 10 < n then 1 else 0)]) rfl rfl <| lx_extract (vm) rfl rfl rfl <| lx_extract (.int .i64 (if n < 1 ∨ 10 < n then 1 else 0)) rfl rfl rfl <| lx_assign (vm) rfl rfl <| lx_assign (.int .i64 (if n < 1 ∨ 10 < n then 1 else 0)) rfl rfl <| lx_nil <| wi_seq <| wi_seq <| wi_reg rfl <| lx_move (.int .i64 n) rfl rfl <| lx_lssS rfl rfl rfl (fun c2 => ?_) (fun c2 => ?_)
    · refine lx_move (.bool true) rfl rfl <| lx_skip rfl <| lx_skip rfl <| lx_pick true (.bool true) rfl rfl rfl <| lx_nil <| wi_true rfl <| wi_seq <| wi_reg rfl <| lx_move (.int .i64 (if n < 1 ∨ 10 < n then 1 else 0)) rfl rfl <| lx_neqF rfl rfl rfl (by rw [if_pos (by omega)]; decide) <| lx_move (.bool false) rfl rfl <| lx_move (vm) rfl rfl <| lx_len rfl Try.underlying38 ho2.rd rfl <| lx_neqF rfl rfl rfl (by rw [hm_1, if_pos (by omega)]; simp) <| lx_pick false (.bool false) rfl rfl rfl <| lx_nil <| wi_false rfl <| wi_skip <| wi_reg rfl <| lx_move (.int .i64 n) rfl rfl <| lx_call [.int .i64 n] rfl rfl Try.call23 rfl (wires_spec h1 n ) (fun _ _ _ => trivial) ?_
      rintro _ h2 ⟨rfl, rfl⟩
      refine lx_assign (.int .i64 ((1 + ur n % 10 : Nat) : Int)) rfl rfl <| lx_nil <| wi_inBlock <| wi_reg rfl <| lx_move (.int .i64 ((k : Nat) : Int)) rfl rfl <| lx_add (((k + 1 : Nat) : Int)) rfl rfl rfl (by omega) (by omega) (by omega) <| lx_assign (.int .i64 ((k + 1 : Nat) : Int)) rfl rfl <| lx_nil <| ?_
      -- L0.1
      refine IH1 _ _ (k + 1, ((1 + ur n % 10 : Nat) : Int)) (agree_ups rfl agree_self) ⟨rfl, rfl, trivial⟩ ⟨hx0_2, ?_, ?_, ?_⟩ ?_
      · try dsimp only
        omega
      · try dsimp only
        omega
      · try dsimp only
        omega
      · first | omega | (dsimp only; omega)
    · refine lx_move (.bool false) rfl rfl <| lx_move (.int .i64 n) rfl rfl <| lx_gtrS rfl rfl rfl (fun c3 => ?_) (fun c3 => ?_)
      · refine lx_pick false (.bool true) rfl rfl rfl <| lx_nil <| wi_true rfl <| wi_seq <| wi_reg rfl <| lx_move (.int .i64 (if n < 1 ∨ 10 < n then 1 else 0)) rfl rfl <| lx_neqF rfl rfl rfl (by rw [if_pos (by omega)]; decide) <| lx_move (.bool false) rfl rfl <| lx_move (vm) rfl rfl <| lx_len rfl Try.underlying38 ho2.rd rfl <| lx_neqF rfl rfl rfl (by rw [hm_1, if_pos (by omega)]; simp) <| lx_pick false (.bool false) rfl rfl rfl <| lx_nil <| wi_false rfl <| wi_skip <| wi_reg rfl <| lx_move (.int .i64 n) rfl rfl <| lx_call [.int .i64 n] rfl rfl Try.call23 rfl (wires_spec h1 n ) (fun _ _ _ => trivial) ?_
        rintro _ h3 ⟨rfl, rfl⟩
        refine lx_assign (.int .i64 ((1 + ur n % 10 : Nat) : Int)) rfl rfl <| lx_nil <| wi_inBlock <| wi_reg rfl <| lx_move (.int .i64 ((k : Nat) : Int)) rfl rfl <| lx_add (((k + 1 : Nat) : Int)) rfl rfl rfl (by omega) (by omega) (by omega) <| lx_assign (.int .i64 ((k + 1 : Nat) : Int)) rfl rfl <| lx_nil <| ?_
        -- L0.2
        refine IH1 _ _ (k + 1, ((1 + ur n % 10 : Nat) : Int)) (agree_ups rfl agree_self) ⟨rfl, rfl, trivial⟩ ⟨hx0_2, ?_, ?_, ?_⟩ ?_
        · try dsimp only
          omega
        · try dsimp only
          omega
        · try dsimp only
          omega
        · first | omega | (dsimp only; omega)
      · refine lx_pick false (.bool false) rfl rfl rfl <| lx_nil <| wi_false rfl <| wi_seq <| wi_reg rfl <| ?_
        obtain ⟨m, rfl⟩ : ∃ m : Nat, n = ((m : Nat) : Int) := ⟨n.toNat, by omega⟩
        have hme : ms = mergeF m := by rw [hm_1, if_neg (by omega), Int.toNat_natCast]
        have hml := mergeF_short m (by omega)
        have hml2 : ms.length ≤ 31 := by rw [hme]; exact hml
        refine lx_move (.int .i64 (if ((m : Nat) : Int) < 1 ∨ 10 < ((m : Nat) : Int) then 1 else 0)) rfl rfl <| lx_neqF rfl rfl rfl (by rw [if_neg (by omega)]; decide) <| lx_move (.bool false) rfl rfl <| lx_move (vm) rfl rfl <| lx_move (.int .i64 ((m : Nat) : Int)) rfl rfl <| lx_call [.int .i64 ((m : Nat) : Int)] rfl rfl Try.call22 rfl (rmerge_spec h1 m (by omega)) (fun _ _ _ => trivial) ?_
        rintro v1 h4 ⟨_, rfl, ho3, hx2⟩
        have hx0_3 := hx0_2.trans2 hx2 hx0_2.size
        have ho4 := ho2.extS hx2
        have ho5 := ho3.base hx0_2.size
        refine lx_call [vm, v1] rfl rfl Try.call21 rfl (nets_spec h4 vm ms v1 (mergeF m) ho4.rd ho5.rd (by omega) (by omega)) (fun _ _ _ => trivial) ?_
        rintro _ h5 ⟨rfl, rfl⟩
        rw [decide_eq_true hme]
        refine lx_notB false rfl rfl rfl <| lx_pick false (.bool false) rfl rfl rfl <| lx_nil <| wi_false rfl <| wi_skip <| wi_reg rfl <| lx_move (.int .i64 ((m : Nat) : Int)) rfl rfl <| lx_call [.int .i64 ((m : Nat) : Int)] rfl rfl Try.call23 rfl (wires_spec h4 (((m : Nat) : Int)) ) (fun _ _ _ => trivial) ?_
        rintro _ h6 ⟨rfl, rfl⟩
        refine lx_assign (.int .i64 ((1 + ur (((m : Nat) : Int)) % 10 : Nat) : Int)) rfl rfl <| lx_nil <| wi_inBlock <| wi_reg rfl <| lx_move (.int .i64 ((k : Nat) : Int)) rfl rfl <| lx_add (((k + 1 : Nat) : Int)) rfl rfl rfl (by omega) (by omega) (by omega) <| lx_assign (.int .i64 ((k + 1 : Nat) : Int)) rfl rfl <| lx_nil <| ?_
        -- L0.3
        refine IH1 _ _ (k + 1, ((1 + ur (((m : Nat) : Int)) % 10 : Nat) : Int)) (agree_ups rfl agree_self) ⟨rfl, rfl, trivial⟩ ⟨hx0_3, ?_, ?_, ?_⟩ ?_
        · try dsimp only
          omega
        · try dsimp only
          omega
        · try dsimp only
          omega
        · first | omega | (dsimp only; omega)
  · refine lx_nil <| wi_false rfl <| wi_exit rfl <| wi_seq <| wi_reg rfl <| ?_
    have hn9 := hk2 (by omega)
    obtain ⟨m, rfl⟩ : ∃ m : Nat, n = ((m : Nat) : Int) := ⟨n.toNat, by omega⟩
    refine lx_move (.int .i64 ((m : Nat) : Int)) rfl rfl <| lx_move (vl) rfl rfl <| lx_call [.int .i64 ((m : Nat) : Int), vl, .int .i64 40, .bool true] rfl rfl Try.call24 rfl (tame_spec hh1 m vl ls 40 true (hr_vl.extS hx0_1) (by omega) (by omega) (by omega)) (fun _ _ _ => trivial) ?_
    rintro v2 h7 ⟨_, rfl, ho6, hx3⟩
    have hx0_4 := hx0_1.trans2 hx3 hx0_1.size
    have ho7 := ho6.base hx0_1.size
    refine lx_assign (v2) rfl rfl <| lx_nil <| wi_seq <| wi_reg rfl <| ?_
    have htl := tameF_length (n := m) (most := 40) (loose := true) (ls := ls)
    have hv := tameF_validL (n := m) (most := 40) (ls := ls) true (by omega) (by omega) (by omega)
    refine lx_move (.int .i64 ((m : Nat) : Int)) rfl rfl <| lx_move (v2) rfl rfl <| lx_call [.int .i64 ((m : Nat) : Int), v2] rfl rfl Try.call25 rfl (straight_spec h7 (((m : Nat) : Int)) v2 (tameF m 40 true ls) ho7.rd (by omega)) (fun _ _ _ => trivial) ?_
    rintro _ h8 ⟨vs, vw, ms2, ws2, rfl, ho8, ho9, hst_1, hx4⟩
    have hx0_5 := hx0_4.trans2 hx4 hx0_4.size
    have ho10 := ho7.extS hx4
    have ho11 := ho8.base hx0_4.size
    have ho12 := ho9.base hx0_4.size
    refine lx_move (.tuple #[vs, vw, .int .i64 (chkNet validL (((m : Nat) : Int)) (tameF m 40 true ls))]) rfl rfl <| lx_extract (vs) rfl rfl rfl <| lx_extract (vw) rfl rfl rfl <| lx_extract (.int .i64 (chkNet validL (((m : Nat) : Int)) (tameF m 40 true ls))) rfl rfl rfl <| lx_assign (vs) rfl rfl <| lx_assign (vw) rfl rfl <| lx_assign (.int .i64 (chkNet validL (((m : Nat) : Int)) (tameF m 40 true ls))) rfl rfl <| lx_nil <| wi_seq <| wi_reg rfl <| ?_
    obtain ⟨hms, hws⟩ := good_ hst_1 hv
    rw [Int.toNat_natCast] at hms hws
    have hl1 : ms2.length = (tameF m 40 true ls).length := by rw [hms]; exact stO_length _ _ _
    have hl2 : ws2.length = m := by rw [hws]; exact stA_length _ _ _
    have hl3 := stO_length m (tameF m 40 true ls) (tameF m 40 true ls).length
    have hl4 := stA_length m (tameF m 40 true ls) (tameF m 40 true ls).length
    refine lx_move (.int .i64 ((m : Nat) : Int)) rfl rfl <| lx_move (v2) rfl rfl <| lx_call [.int .i64 ((m : Nat) : Int), v2] rfl rfl Try.call26 rfl (rstraight_spec h8 m v2 (tameF m 40 true ls) ho10.rd (by omega) (by omega) (chkNet_ok hv).2.2.2) (fun _ _ _ => trivial) ?_
    rintro _ h9 ⟨v3, v4, rfl, ho13, ho14, hx5⟩
    have hx0_6 := hx0_5.trans2 hx5 hx0_5.size
    have ho15 := ho10.extS hx5
    have ho16 := ho11.extS hx5
    have ho17 := ho12.extS hx5
    have ho18 := ho13.base hx0_5.size
    have ho19 := ho14.base hx0_5.size
    refine lx_move (.tuple #[v3, v4]) rfl rfl <| lx_extract (v3) rfl rfl rfl <| lx_extract (v4) rfl rfl rfl <| lx_assign (v3) rfl rfl <| lx_assign (v4) rfl rfl <| lx_nil <| wi_seq <| wi_reg rfl <| lx_move (.int .i64 (chkNet validL (((m : Nat) : Int)) (tameF m 40 true ls))) rfl rfl <| lx_eqlT rfl rfl rfl hv <| lx_move (.bool true) rfl rfl <| lx_move (vs) rfl rfl <| lx_move (v3) rfl rfl <| lx_call [vs, v3] rfl rfl Try.call21 rfl (nets_spec h9 vs ms2 v3 (stO m (tameF m 40 true ls) (tameF m 40 true ls).length) ho16.rd ho18.rd (by omega) (by omega)) (fun _ _ _ => trivial) ?_
    rintro _ h10 ⟨rfl, rfl⟩
    rw [decide_eq_true hms]
    refine lx_pick true (.bool true) rfl rfl rfl <| lx_move (.bool true) rfl rfl <| lx_move (vw) rfl rfl <| lx_move (v4) rfl rfl <| lx_call [vw, v4] rfl rfl Try.call27 rfl (ints_spec h9 vw ws2 v4 (stA m (tameF m 40 true ls) (tameF m 40 true ls).length) ho17.rd ho19.rd (by omega) (by omega)) (fun _ _ _ => trivial) ?_
    rintro _ h11 ⟨rfl, rfl⟩
    rw [decide_eq_true hws]
    refine lx_pick true (.bool true) rfl rfl rfl <| lx_move (.bool true) rfl rfl <| lx_call [] rfl rfl Try.call15 rfl (awake_spec h9 ) (fun _ _ _ => trivial) ?_
    rintro _ h12 ⟨rfl, hx6⟩
    have hx0_7 := hx0_6.trans2 hx6 hx0_6.size
    have ho20 := ho15.extS hx6
    have ho21 := ho16.extS hx6
    have ho22 := ho17.extS hx6
    have ho23 := ho18.extS hx6
    have ho24 := ho19.extS hx6
    refine lx_pick true (.bool true) rfl rfl rfl <| lx_assign (.bool true) rfl rfl <| lx_nil <| ?_
    -- R1
    refine wi_ret ⟨.bool true, (res_one rfl rfl), ⟨rfl, hx0_7⟩⟩

end Go.Proofs.Ytjfickfgpkejpaa
