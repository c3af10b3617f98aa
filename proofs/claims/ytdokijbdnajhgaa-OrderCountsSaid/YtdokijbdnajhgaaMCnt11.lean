/-
  Of any integer, any pairs and any numbers: the law OrderCounts returns true (covers, numbers of Moebius, sums, differences, chains by their lengths, the number of Euler and the number of lists of any order are as the reference says, or the errors are), and nothing that was there turns.
  Conditions: none beyond the given statement's.
-/
import Derived.Test.YtdokijbdnajhgaaMCnt10
import Derived.Test.YtdokijbdnajhgaaRows
set_option linter.unusedSimpArgs false
set_option linter.unusedVariables false
namespace Go.Proofs.Ytdokijbdnajhgaa
open Go Go.X

set_option maxRecDepth 10000 in
set_option maxHeartbeats 2000000 in
theorem orderCounts_spec (h : Heap) (n : Int) (vl : Value) (ls : List (Int × Int)) (vf : Value) (fs : List Int) (hr_vl : RdE encP h vl ls) (hr_vf : RdE encI h vf fs) (hp1 : ls.length ≤ 9223372036854775807) (hp2 : fs.length ≤ 9223372036854775807) : Fx Try.prog 9 [.int .i64 n, vl, vf] h (fun v h' => v = .bool true ∧ Ext h.size h h') := by
  refine fx_intro (n := 270) [(0, .int .i64 n), (1, vl), (2, vf)] Try.func9 rfl rfl (by simp) ⟨rfl, rfl, rfl, trivial⟩ fun g0 => ?_
  refine wi_seq <| wi_reg rfl <| lx_assign (.bool false) rfl rfl <| lx_nil <| wi_seq <| wi_reg rfl <| lx_move (.int .i64 n) rfl rfl <| lx_move (vl) rfl rfl <| lx_call [.int .i64 n, vl, .int .i64 9] rfl rfl Try.call15 rfl (tame_spec h n vl ls 9 hr_vl (by omega) (by omega) (by omega)) (fun _ _ _ => trivial) ?_
  rintro vp h1 ⟨_, hsp, p, rfl, ho1, hot1, htm, hx1⟩
  have ho2 := ho1.base (Nat.le_refl h.size)
  have hot2 := hot1.base (Nat.le_refl h.size)
  have hl_hot2 := hot2.1
  refine lx_assign (vp) rfl rfl <| lx_nil <| wi_seq <| wi_reg rfl <| ?_
  obtain ⟨hpt, hp0, hpm⟩ := htm
  have hpq : Sq p p.length := isT_sq hpt
  have hio := isT_o hpt
  have hck : chkT p = 0 := chkT_zero hp0 (by omega) hpt
  have hle : ∀ i, i < p.length → (gt p i).length ≤ 1000000 := fun i hi => by rw [hpq.2 i hi]; omega
  refine lx_move (vp) rfl rfl <| lx_call [vp] rfl rfl Try.call52 rfl (ocovers_spec h1 vp hsp p ho2.rd hot2.rt (by omega) hle) (fun _ _ _ => trivial) ?_
  rintro _ h2 ⟨va, ca, rfl, ho3, hcv, hx2⟩
  have hx0_1 := hx1.trans2 hx2 hx1.size
  have ho4 := ho2.extS hx2
  have hot3 := hot2.extS hx2
  have ho5 := ho3.base hx1.size
  refine lx_move (.tuple #[va, .int .i64 (chkT p)]) rfl rfl <| lx_extract (va) rfl rfl rfl <| lx_extract (.int .i64 (chkT p)) rfl rfl rfl <| lx_assign (va) rfl rfl <| lx_assign (.int .i64 (chkT p)) rfl rfl <| lx_nil <| wi_seq <| wi_reg rfl <| lx_move (vp) rfl rfl <| lx_call [vp] rfl rfl Try.call49 rfl (omoebius_spec h2 vp hsp p ho4.rd hot3.rt (by omega) hle) (fun _ _ _ => trivial) ?_
  rintro _ h3 ⟨vm, hm9, rm, rfl, ho6, hot4, hmo, hx3⟩
  have hx0_2 := hx0_1.trans2 hx3 hx0_1.size
  have ho7 := ho4.extS hx3
  have hot5 := hot3.extS hx3
  have ho8 := ho5.extS hx3
  have ho9 := ho6.base hx0_1.size
  have hot6 := hot4.base hx0_1.size
  have hl_hot6 := hot6.1
  refine lx_move (.tuple #[vm, .int .i64 (chkT p)]) rfl rfl <| lx_extract (vm) rfl rfl rfl <| lx_extract (.int .i64 (chkT p)) rfl rfl rfl <| lx_assign (vm) rfl rfl <| lx_assign (.int .i64 (chkT p)) rfl rfl <| lx_nil <| wi_seq <| wi_reg rfl <| lx_move (vp) rfl rfl <| lx_call [vp] rfl rfl Try.call46 rfl (oeul_spec h3 vp hsp p ho7.rd hot5.rt (by omega) hle) (fun _ _ _ => trivial) ?_
  rintro _ h4 ⟨rfl, hx4⟩
  have hx0_3 := hx0_2.trans2 hx4 hx0_2.size
  have ho10 := ho7.extS hx4
  have hot7 := hot5.extS hx4
  have ho11 := ho8.extS hx4
  have ho12 := ho9.extS hx4
  have hot8 := hot6.extS hx4
  refine lx_move (.tuple #[.int .i64 (eulC p), .int .i64 (chkT p)]) rfl rfl <| lx_extract (.int .i64 (eulC p)) rfl rfl rfl <| lx_extract (.int .i64 (chkT p)) rfl rfl rfl <| lx_assign (.int .i64 (eulC p)) rfl rfl <| lx_assign (.int .i64 (chkT p)) rfl rfl <| lx_nil <| wi_seq <| wi_reg rfl <| lx_move (vp) rfl rfl <| lx_call [vp] rfl rfl Try.call45 rfl (olinear_spec h4 vp hsp p ho10.rd hot7.rt (by omega) hle) (fun _ _ _ => trivial) ?_
  rintro _ h5 ⟨rfl, hx5⟩
  have hx0_4 := hx0_3.trans2 hx5 hx0_3.size
  have ho13 := ho10.extS hx5
  have hot9 := hot7.extS hx5
  have ho14 := ho11.extS hx5
  have ho15 := ho12.extS hx5
  have hot10 := hot8.extS hx5
  refine lx_move (.tuple #[.int .i64 ((if chkT p = 0 then linN p.length (pb p) (2 ^ p.length - 1) else 0)), .int .i64 (chkT p)]) rfl rfl <| lx_extract (.int .i64 ((if chkT p = 0 then linN p.length (pb p) (2 ^ p.length - 1) else 0))) rfl rfl rfl <| lx_extract (.int .i64 (chkT p)) rfl rfl rfl <| lx_assign (.int .i64 ((if chkT p = 0 then linN p.length (pb p) (2 ^ p.length - 1) else 0))) rfl rfl <| lx_assign (.int .i64 (chkT p)) rfl rfl <| lx_nil <| wi_seq <| wi_reg rfl <| lx_move (vp) rfl rfl <| lx_call [vp] rfl rfl Try.call53 rfl (rcovers_spec h5 vp hsp p ho13.rd hot9.rt (by omega) hpq) (fun _ _ _ => trivial) ?_
  rintro vw h6 ⟨_, rfl, ho16, hx6⟩
  have hx0_5 := hx0_4.trans2 hx6 hx0_4.size
  have ho17 := ho13.extS hx6
  have hot11 := hot9.extS hx6
  have ho18 := ho14.extS hx6
  have ho19 := ho15.extS hx6
  have hot12 := hot10.extS hx6
  have ho20 := ho16.base hx0_4.size
  refine lx_assign (vw) rfl rfl <| lx_nil <| wi_seq <| wi_seq <| wi_reg rfl <| ?_
  have hca : ca = (covF p.length (pb p) p.length) := by rw [hcv, if_pos hck]
  subst hca
  have hcl : ((covF p.length (pb p) p.length)).length ≤ p.length * p.length := covF_len _ _
  have hcm : p.length * p.length ≤ 9 * 9 := Nat.mul_le_mul (by omega) (by omega)
  have hrm := goodA hmo hck
  have hml := muT_len p.length (pb p)
  have hmr : ∀ i, i < (muT p.length (pb p)).length → (gt (muT p.length (pb p)) i).length ≤ 4096 := fun i hi => by rw [gt_muT (by omega), mapR_len]; omega
  have heu : eulC p = eulN p.length (pb p) := if_pos hck
  have hln : (if chkT p = 0 then linN p.length (pb p) (2 ^ p.length - 1) else 0) = linN p.length (pb p) (2 ^ p.length - 1) := if_pos hck
  refine lx_move (.int .i64 (chkT p)) rfl rfl <| lx_neqF rfl rfl rfl (fun h9 => h9 hck) <| lx_move (.bool false) rfl rfl <| lx_move (.int .i64 (chkT p)) rfl rfl <| lx_neqF rfl rfl rfl (fun h9 => h9 hck) <| lx_pick false (.bool false) rfl rfl rfl <| lx_move (.bool false) rfl rfl <| lx_move (.int .i64 (chkT p)) rfl rfl <| lx_neqF rfl rfl rfl (fun h9 => h9 hck) <| lx_pick false (.bool false) rfl rfl rfl <| lx_move (.bool false) rfl rfl <| lx_move (.int .i64 (chkT p)) rfl rfl <| lx_neqF rfl rfl rfl (fun h9 => h9 hck) <| lx_pick false (.bool false) rfl rfl rfl <| lx_move (.bool false) rfl rfl <| lx_move (va) rfl rfl <| lx_len rfl Try.underlying22 ho18.rd rfl <| lx_move (vw) rfl rfl <| lx_len rfl Try.underlying22 ho20.rd rfl <| lx_neqF rfl rfl rfl (fun h9 => h9 rfl) <| lx_pick false (.bool false) rfl rfl rfl <| lx_move (.bool false) rfl rfl <| lx_move (vm) rfl rfl <| lx_move (vp) rfl rfl <| lx_call [vp] rfl rfl Try.call54 rfl (rmoebius_spec h6 vp hsp p ho17.rd hot11.rt (by omega) hpq hio) (fun _ _ _ => trivial) ?_
  rintro vr h7 ⟨_, hr9, rfl, ho21, hot13, hx7⟩
  have hx0_6 := hx0_5.trans2 hx7 hx0_5.size
  have ho22 := ho17.extS hx7
  have hot14 := hot11.extS hx7
  have ho23 := ho18.extS hx7
  have ho24 := ho19.extS hx7
  have hot15 := hot12.extS hx7
  have ho25 := ho20.extS hx7
  have ho26 := ho21.base hx0_5.size
  have hot16 := hot13.base hx0_5.size
  have hl_hot16 := hot16.1
  refine lx_call [vm, vr] rfl rfl Try.call39 rfl (rows9_spec h7 vm hm9 rm vr hr9 (muT p.length (pb p)) ho24.rd hot15.rt ho26.rd hot16.rt (by rw [hrm]; omega) (by omega) (by rw [hrm]; exact hmr) hmr) (fun _ _ _ => trivial) ?_
  rintro _ h8 ⟨rfl, rfl⟩
  rw [decide_eq_true hrm]
  refine lx_notB false rfl rfl rfl <| lx_pick false (.bool false) rfl rfl rfl <| lx_move (.bool false) rfl rfl <| lx_move (.int .i64 (eulC p)) rfl rfl <| lx_move (vp) rfl rfl <| lx_call [vp] rfl rfl Try.call55 rfl (reuler_spec h7 vp hsp p ho22.rd hot14.rt (by omega) hpq hio) (fun _ _ _ => trivial) ?_
  rintro _ h9 ⟨rfl, rfl⟩
  refine lx_neqF rfl rfl rfl (fun h9 => h9 heu) <| lx_pick false (.bool false) rfl rfl rfl <| lx_move (.bool false) rfl rfl <| lx_move (.int .i64 ((if chkT p = 0 then linN p.length (pb p) (2 ^ p.length - 1) else 0))) rfl rfl <| lx_move (vp) rfl rfl <| lx_call [vp] rfl rfl Try.call56 rfl (rlinear_spec h7 vp hsp p ho22.rd hot14.rt (by omega) hpq hio) (fun _ _ _ => trivial) ?_
  rintro _ h10 ⟨rfl, hx8⟩
  have hx0_7 := hx0_6.trans2 hx8 hx0_6.size
  have ho27 := ho22.extS hx8
  have hot17 := hot14.extS hx8
  have ho28 := ho23.extS hx8
  have ho29 := ho24.extS hx8
  have hot18 := hot15.extS hx8
  have ho30 := ho25.extS hx8
  have ho31 := ho26.extS hx8
  have hot19 := hot16.extS hx8
  refine lx_neqF rfl rfl rfl (fun h9 => h9 hln) <| lx_pick false (.bool false) rfl rfl rfl <| lx_nil <| wi_false rfl <| wi_skip <| wi_seq <| wi_seq <| wi_reg rfl <| lx_assign (.int .i64 0) rfl rfl <| lx_nil <| wi_block <| ?_
  refine wi_loop (σ := Nat) (rngB 95 110 [6, 17]) (fun (k : Nat) => [(17, .int .i64 ((k : Nat) : Int))]) (fun (k : Nat) (hh : Heap) => h10 = hh ∧ (k ≤ (covF p.length (pb p) p.length).length)) (fun (k : Nat) => (covF p.length (pb p) p.length).length - k) 0 ⟨rfl, trivial⟩ ⟨rfl, ?_⟩ ?_
  · try dsimp only
    omega
  rintro g1 k hh1 ⟨rfl, hk⟩ IH1
  refine wi_seq <| wi_seq <| wi_reg rfl <| lx_move (.int .i64 ((k : Nat) : Int)) rfl rfl <| lx_move (va) rfl rfl <| lx_len rfl Try.underlying22 ho28.rd rfl <| lx_lssS rfl rfl rfl (fun c1 => ?_) (fun c1 => ?_)
  · refine lx_nil <| wi_true rfl <| wi_skip <| wi_seq <| wi_block <| wi_seq <| wi_draw mo rfl (by decide +kernel) <| lx_move (va) rfl rfl <| lx_move (.int .i64 ((k : Nat) : Int)) rfl rfl <| lx_ix (i := k) rfl eT22 ho28.rd rfl rfl (by omega) <| lx_ldA (i := k) [.int .i64 ((gt ((covF p.length (pb p) p.length)) k).1), .int .i64 ((gt ((covF p.length (pb p) p.length)) k).2)] rfl rfl wd85 ho28.rd (by omega) rfl rfl <| lx_move (vw) rfl rfl <| lx_move (.int .i64 ((k : Nat) : Int)) rfl rfl <| lx_ix (i := k) rfl eT22 ho30.rd rfl rfl (by omega) <| lx_ldA (i := k) [.int .i64 ((gt (covF p.length (pb p) p.length) k).1), .int .i64 ((gt (covF p.length (pb p) p.length) k).2)] rfl rfl wd85 ho30.rd (by omega) rfl rfl <| lx_neqA2F rfl ar85 rfl rfl (fun h9 => h9 ⟨rfl, rfl⟩) <| lx_nil <| wi_false rfl <| wi_skip <| wi_inBlock <| wi_reg rfl <| lx_move (.int .i64 ((k : Nat) : Int)) rfl rfl <| lx_add (((k + 1 : Nat) : Int)) rfl rfl rfl (by omega) (by omega) (by omega) <| lx_assign (.int .i64 ((k + 1 : Nat) : Int)) rfl rfl <| lx_nil <| ?_
    -- L0.1
    refine IH1 _ _ (k + 1) (agree_ups rfl agree_self) ⟨rfl, trivial⟩ ⟨rfl, ?_⟩ ?_
    · try dsimp only
      omega
    · first | omega | (dsimp only; omega)
  · refine lx_nil <| wi_false rfl <| wi_exit rfl <| wi_seq <| wi_reg rfl <| lx_assign (.slice none 0 0) rfl rfl <| lx_nil <| wi_seq <| wi_reg rfl <| lx_move (.slice none 0 0) rfl rfl <| lx_move (vf) rfl rfl <| lx_move (vf) rfl rfl <| lx_len rfl Try.underlying58 hr_vf rfl <| lx_min (((min fs.length 14 : Nat) : Int)) rfl rfl rfl (by omega) <| lx_slice (E := encI) 0 (min fs.length 14) rfl eT58 rfl rfl ⟨_, rfl⟩ hr_vf (by omega) (by omega) fun v1 hs1 hso1 => ?_
    have hr1 := sl_rd (hr_vf.extS hx0_7) hs1 (by omega)
    refine lx_append (E := encI) (B := h.size) (xs := []) (ys := fs.take (min fs.length 14)) rfl rfl eT58 (owE_nil encI _ h.size 2) hr1 rfl rfl (by first | omega | (simp only [List.length_append, List.length_cons, List.length_nil, List.length_take]; omega)) (by first | omega | (simp only [List.length_append, List.length_cons, List.length_nil, List.length_take]; omega)) hx0_7.size (fun _ _ => trivial) fun v2 h11 ho32 hc1 hg1 => ?_
    have hx0_8 := hx0_7.trans ((owE_nil encI _ h.size 2).ext hc1 hx0_7.size)
    have ho33 := ho27.chg hc1 (dj_nil_r _)
    have ho34 := ho28.chg hc1 (dj_nil_r _)
    have ho35 := ho29.chg hc1 (dj_nil_r _)
    have ho36 := ho30.chg hc1 (dj_nil_r _)
    have ho37 := ho31.chg hc1 (dj_nil_r _)
    have hot20 := hot17.chg hc1 (djt_nil _)
    have hot21 := hot18.chg hc1 (djt_nil _)
    have hot22 := hot19.chg hc1 (djt_nil _)
    rw [List.nil_append] at ho32
    refine lx_assign (v2) rfl rfl <| lx_nil <| wi_seq <| wi_reg rfl <| ?_
    obtain ⟨os0, hos0⟩ : ∃ x, x = fs.take (min fs.length 14) := ⟨_, rfl⟩
    rw [← hos0] at ho32
    have h0l : os0.length ≤ 14 := by rw [hos0, List.length_take]; omega
    refine lx_move (.int .i64 n) rfl rfl <| lx_move (vl) rfl rfl <| lx_len rfl Try.underlying22 hr_vl rfl <| lx_sub ((((ls.length : Nat) : Int)) - ((1 : Int))) rfl rfl rfl (by omega) (by omega) (by omega) <| lx_assign (.int .i64 n) rfl rfl <| lx_assign (.int .i64 ((((ls.length : Nat) : Int)) - ((1 : Int)))) rfl rfl <| lx_nil <| wi_seq <| wi_seq <| wi_reg rfl <| lx_assign (.int .i64 0) rfl rfl <| lx_nil <| wi_block <| ?_
    refine wi_loop (σ := Nat × Value × (List Int) × Int × Int) (rngB 121 269 [6, 18, 19, 20, 21, 22, 23, 24, 25, 26, 27, 28, 29]) (fun (ss : Nat × Value × (List Int) × Int × Int) => [(21, .int .i64 ((ss.1 : Nat) : Int)), (18, ss.2.1), (19, .int .i64 ss.2.2.2.1), (20, .int .i64 ss.2.2.2.2)]) (fun (ss : Nat × Value × (List Int) × Int × Int) (hh : Heap) => OwE encHd hh h.size 70 vp hsp ∧ OT encB hh h.size 4 hsp p ∧ OwE encI hh h.size 2 ss.2.1 ss.2.2.1 ∧ Ext h.size h hh ∧ (ss.1 ≤ 2) ∧ (ss.2.2.1.length ≤ 14)) (fun (ss : Nat × Value × (List Int) × Int × Int) => 2 - ss.1) (0, v2, os0, n, (((ls.length : Nat) : Int)) - ((1 : Int))) ⟨rfl, rfl, rfl, rfl, trivial⟩ ⟨?_, ?_, ?_, hx0_8, ?_, ?_⟩ ?_
    · first | exact ho33 | (simpa using ho33)
    · first | exact hot20 | (simpa using hot20)
    · first | exact ho32 | (simpa using ho32)
    · try dsimp only
      omega
    · try dsimp only
      omega
    rintro g2 ⟨kk, v, os, x, y⟩ hh2 ⟨ho38, hot23, ho39, hx0_9, hkk, hol⟩ IH2
    dsimp only at *
    have hl_hot23 := hot23.1
    refine wi_seq <| wi_seq <| wi_reg rfl <| lx_move (.int .i64 ((kk : Nat) : Int)) rfl rfl <| lx_lssS rfl rfl rfl (fun c2 => ?_) (fun c2 => ?_)
    · refine lx_nil <| wi_true rfl <| wi_skip <| wi_seq <| wi_block <| wi_seq <| wi_reg rfl <| lx_move (vp) rfl rfl <| lx_move (v) rfl rfl <| lx_call [vp, v] rfl rfl Try.call47 rfl (osums_spec hh2 vp hsp p v os ho38.rd hot23.rt ho39.rd (by omega) hle (by omega)) (fun _ _ _ => trivial) ?_
      rintro _ h12 ⟨vsu, su, rfl, ho40, hsu, hx9⟩
      have hx0_10 := hx0_9.trans2 hx9 hx0_9.size
      have ho41 := ho38.extS hx9
      have hot24 := hot23.extS hx9
      have ho42 := ho39.extS hx9
      have ho43 := ho40.base hx0_9.size
      refine lx_move (.tuple #[vsu, .int .i64 (lisE p os)]) rfl rfl <| lx_extract (vsu) rfl rfl rfl <| lx_extract (.int .i64 (lisE p os)) rfl rfl rfl <| lx_assign (vsu) rfl rfl <| lx_assign (.int .i64 (lisE p os)) rfl rfl <| lx_nil <| wi_seq <| wi_reg rfl <| lx_move (vp) rfl rfl <| lx_move (v) rfl rfl <| lx_call [vp, v] rfl rfl Try.call48 rfl (odiff_spec h12 vp hsp p v os ho41.rd hot24.rt ho42.rd (by omega) hle (by omega) hpm) (fun _ _ _ => trivial) ?_
      rintro _ h13 ⟨vd, dl, rfl, ho44, hdi, hx10⟩
      have hx0_11 := hx0_10.trans2 hx10 hx0_10.size
      have ho45 := ho41.extS hx10
      have hot25 := hot24.extS hx10
      have ho46 := ho42.extS hx10
      have ho47 := ho43.extS hx10
      have ho48 := ho44.base hx0_10.size
      refine lx_move (.tuple #[vd, .int .i64 (lisE p os)]) rfl rfl <| lx_extract (vd) rfl rfl rfl <| lx_extract (.int .i64 (lisE p os)) rfl rfl rfl <| lx_assign (vd) rfl rfl <| lx_assign (.int .i64 (lisE p os)) rfl rfl <| lx_nil <| wi_seq <| wi_seq <| wi_reg rfl <| lx_move (vp) rfl rfl <| lx_move (v) rfl rfl <| lx_call [vp, v] rfl rfl Try.call57 rfl (rlist_spec h13 vp hsp p v os ho45.rd hot25.rt ho46.rd (by omega)) (fun _ _ _ => trivial) ?_
      rintro _ h14 ⟨rfl, rfl⟩
      refine lx_assign (.int .i64 (lstE p.length os)) rfl rfl <| lx_nil <| wi_seq <| wi_reg rfl <| lx_move (.int .i64 (lstE p.length os)) rfl rfl <| lx_neqS rfl rfl rfl (fun c3 => ?_) (fun c3 => ?_)
      · refine lx_nil <| ?_
        refine wi_cutE (σ := Unit) (rngB 142 180 [6]) (fun (_ : Unit) => []) (fun (_ : Unit) (hh : Heap) => OwE encHd hh h.size 70 vp hsp ∧ OT encB hh h.size 4 hsp p ∧ OwE encI hh h.size 2 v os ∧ Ext h.size h hh) (fun J1 => ?_) ?_
        · refine wi_true rfl <| wi_seq <| wi_reg rfl <| ?_
          have hl9 : lisE p os = lstE p.length os := if_pos hck
          have hs0 : su.length = 0 := by
            rcases hsu with ⟨_, h9⟩ | ⟨h9, _⟩
            · rw [h9]; rfl
            · omega
          have hd0 : dl.length = 0 := by
            rcases hdi with ⟨_, h9⟩ | ⟨h9, _⟩
            · rw [h9]; rfl
            · omega
          refine lx_move (.int .i64 (lisE p os)) rfl rfl <| lx_move (.int .i64 (lstE p.length os)) rfl rfl <| lx_neqF rfl rfl rfl (fun h9 => h9 hl9) <| lx_move (.bool false) rfl rfl <| lx_move (.int .i64 (lisE p os)) rfl rfl <| lx_move (.int .i64 (lstE p.length os)) rfl rfl <| lx_neqF rfl rfl rfl (fun h9 => h9 hl9) <| lx_pick false (.bool false) rfl rfl rfl <| lx_move (.bool false) rfl rfl <| lx_move (vsu) rfl rfl <| lx_len rfl Try.underlying58 ho47.rd rfl <| lx_move (vd) rfl rfl <| lx_len rfl Try.underlying58 ho48.rd rfl <| lx_add (((su.length + dl.length : Nat) : Int)) rfl rfl rfl (by omega) (by omega) (by omega) <| lx_neqF rfl rfl rfl (by omega) <| lx_pick false (.bool false) rfl rfl rfl <| lx_nil <| wi_false rfl <| wi_skip <| ?_
          -- Jt141.1
          refine J1 _ _ () (agree_ups rfl agree_upsJ) trivial ⟨?_, ?_, ?_, hx0_11⟩
          · first | exact ho45 | (simpa using ho45)
          · first | exact hot25 | (simpa using hot25)
          · first | exact ho46 | (simpa using ho46)
        rintro g3 _ hh3 ⟨ho49, hot26, ho50, hx0_12⟩
        have hl_hot26 := hot26.1
        refine wi_seq <| wi_reg rfl <| lx_move (vp) rfl rfl <| lx_move (.int .i64 x) rfl rfl <| lx_move (.int .i64 y) rfl rfl <| lx_call [vp, .int .i64 x, .int .i64 y] rfl rfl Try.call50 rfl (ochains_spec hh3 vp hsp p x y ho49.rd hot26.rt (by omega) hle) (fun _ _ _ => trivial) ?_
        rintro _ h15 ⟨vc, cs, rfl, ho51, hcr, hx11⟩
        have hx0_13 := hx0_12.trans2 hx11 hx0_12.size
        have ho52 := ho49.extS hx11
        have hot27 := hot26.extS hx11
        have ho53 := ho50.extS hx11
        have ho54 := ho51.base hx0_12.size
        refine lx_move (.tuple #[vc, .int .i64 (chaC p x y)]) rfl rfl <| lx_extract (vc) rfl rfl rfl <| lx_extract (.int .i64 (chaC p x y)) rfl rfl rfl <| lx_assign (vc) rfl rfl <| lx_assign (.int .i64 (chaC p x y)) rfl rfl <| lx_nil <| wi_seq <| wi_seq <| wi_reg rfl <| lx_move (.int .i64 x) rfl rfl <| lx_lssS rfl rfl rfl (fun c4 => ?_) (fun c4 => ?_)
        · refine lx_move (.bool true) rfl rfl <| lx_skip rfl <| lx_skip rfl <| lx_pick true (.bool true) rfl rfl rfl <| lx_move (.bool true) rfl rfl <| lx_skip rfl <| lx_skip rfl <| lx_skip rfl <| lx_skip rfl <| lx_pick true (.bool true) rfl rfl rfl <| lx_move (.bool true) rfl rfl <| lx_skip rfl <| lx_skip rfl <| lx_skip rfl <| lx_skip rfl <| lx_pick true (.bool true) rfl rfl rfl <| lx_nil <| wi_true rfl <| wi_seq <| wi_reg rfl <| ?_
          have hc1 : chaC p x y = 1 := by unfold chaC; rw [if_pos hck, if_neg (fun h9 => by omega)]
          have hcs0 : cs.length = 0 := by
            rcases hcr with ⟨_, h9⟩ | ⟨h9, _⟩
            · rw [h9]; rfl
            · omega
          refine lx_move (.int .i64 (chaC p x y)) rfl rfl <| lx_neqF rfl rfl rfl (fun h9 => h9 hc1) <| lx_move (.bool false) rfl rfl <| lx_move (vc) rfl rfl <| lx_len rfl Try.underlying58 ho54.rd rfl <| lx_neqF rfl rfl rfl (by omega) <| lx_pick false (.bool false) rfl rfl rfl <| lx_nil <| wi_false rfl <| wi_skip <| wi_seq <| wi_block <| ?_
          refine wi_loop (σ := Value × (List Int)) (rngB 223 237 [18]) (fun (ss : Value × (List Int)) => [(18, ss.1)]) (fun (ss : Value × (List Int)) (hh : Heap) => OwE encHd hh h.size 70 vp hsp ∧ OT encB hh h.size 4 hsp p ∧ OwE encI hh h.size 2 ss.1 ss.2 ∧ Ext h.size h hh ∧ (ss.2.length ≤ 14)) (fun (ss : Value × (List Int)) => p.length - ss.2.length) (v, os) ⟨rfl, trivial⟩ ⟨?_, ?_, ?_, hx0_13, ?_⟩ ?_
          · first | exact ho52 | (simpa using ho52)
          · first | exact hot27 | (simpa using hot27)
          · first | exact ho53 | (simpa using ho53)
          · try dsimp only
            exact hol
          rintro g4 ⟨vo2, os2⟩ hh4 ⟨ho55, hot28, ho56, hx0_14, h2l⟩ IH3
          dsimp only at *
          have hl_hot28 := hot28.1
          refine wi_seq <| wi_seq <| wi_reg rfl <| lx_move (vo2) rfl rfl <| lx_len rfl Try.underlying58 ho56.rd rfl <| lx_move (vp) rfl rfl <| lx_len rfl Try.underlying23 ho55.rd rfl <| lx_lssS rfl rfl rfl (fun c5 => ?_) (fun c5 => ?_)
          · refine lx_nil <| wi_true rfl <| wi_skip <| wi_block <| wi_reg rfl <| ?_
            have hmm : os2.length * os2.length ≤ 14 * 14 := Nat.mul_le_mul (by omega) (by omega)
            refine lx_move (vo2) rfl rfl <| lx_move (vo2) rfl rfl <| lx_len rfl Try.underlying58 ho56.rd rfl <| lx_move (vo2) rfl rfl <| lx_len rfl Try.underlying58 ho56.rd rfl <| lx_mul (((os2.length * os2.length : Nat) : Int)) rfl rfl rfl (by omega) (by omega) (by omega) <| lx_sub ((((os2.length * os2.length : Nat) : Int)) - ((3 : Int))) rfl rfl rfl (by omega) (by omega) (by omega) <| lx_appendL (E := encI) (B := h.size) [(((os2.length * os2.length : Nat) : Int)) - ((3 : Int))] [.int .i64 ((((os2.length * os2.length : Nat) : Int)) - ((3 : Int)))] rfl rfl (fun _ => rfl) rfl eT58 rfl rfl rfl rfl ho56 (fun _ => rfl) (by show os2.length + 1 ≤ _; omega) (by show (os2.length + 1) * 8 ≤ _; omega) hx0_14.size (fun _ _ => trivial) fun u1 v3 h16 ho57 hc2 hg2 => ?_
            have hx0_15 := hx0_14.trans (ho56.ext hc2 hx0_14.size)
            have ho58 := ho55.chg hc2 (dj_ty ho55 ho56 (by decide))
            have hot29 := hot28.chg hc2 (djt_ty hot28 ho56 (by decide))
            refine lx_assign (v3) rfl rfl <| lx_nil <| wi_inBlock <| ?_
            -- L4.1
            refine IH3 _ _ (v3, os2 ++ [(((os2.length * os2.length : Nat) : Int)) - ((3 : Int))]) (agree_ups rfl agree_self) ⟨rfl, trivial⟩ ⟨?_, ?_, ?_, hx0_15, ?_⟩ ?_
            · first | exact ho58 | (simpa using ho58)
            · first | exact hot29 | (simpa using hot29)
            · first | exact ho57 | (simpa using ho57)
            · try dsimp only
              rw [List.length_append]
              show os2.length + 1 ≤ 14
              omega
            · simp only [List.length_append, List.length_cons, List.length_nil]; omega
          · refine lx_nil <| wi_false rfl <| wi_exit rfl <| wi_seq <| wi_reg rfl <| lx_move (vo2) rfl rfl <| lx_move (vp) rfl rfl <| lx_len rfl Try.underlying23 ho55.rd rfl <| lx_slice (E := encI) 0 hsp.length rfl eT58 rfl rfl ⟨_, rfl⟩ ho56.rd (by omega) (by omega) fun vz hs2 hso2 => ?_
            have ho59 := sl_own ho56 (hso2 rfl).2 (by omega)
            refine lx_assign (vz) rfl rfl <| lx_nil <| wi_seq <| wi_seq <| wi_reg rfl <| ?_
            obtain ⟨os3, hos3⟩ : ∃ x, x = os2.take hsp.length := ⟨_, rfl⟩
            rw [← hos3] at ho59
            have h3l : os3.length = p.length := by rw [hos3, List.length_take]; omega
            refine lx_assign (.int .i64 0) rfl rfl <| lx_nil <| wi_block <| ?_
            refine wi_loop (σ := Nat × (List Int)) (rngB 241 255 [29]) (fun (ss : Nat × (List Int)) => [(29, .int .i64 ((ss.1 : Nat) : Int))]) (fun (ss : Nat × (List Int)) (hh : Heap) => OwE encHd hh h.size 70 vp hsp ∧ OT encB hh h.size 4 hsp p ∧ OwE encI hh h.size 2 vz ss.2 ∧ Ext h.size h hh ∧ (ss.1 ≤ p.length) ∧ (ss.2.length = p.length)) (fun (ss : Nat × (List Int)) => p.length - ss.1) (0, os3) ⟨rfl, trivial⟩ ⟨?_, ?_, ?_, hx0_14, ?_, ?_⟩ ?_
            · first | exact ho55 | (simpa using ho55)
            · first | exact hot28 | (simpa using hot28)
            · first | exact ho59 | (simpa using ho59)
            · try dsimp only
              omega
            · try dsimp only
              exact h3l
            rintro g5 ⟨t, os4⟩ hh5 ⟨ho60, hot30, ho61, hx0_16, ht, h4l⟩ IH4
            dsimp only at *
            have hl_hot30 := hot30.1
            refine wi_seq <| wi_seq <| wi_reg rfl <| lx_move (.int .i64 ((t : Nat) : Int)) rfl rfl <| lx_move (vz) rfl rfl <| lx_len rfl Try.underlying58 ho61.rd rfl <| lx_lssS rfl rfl rfl (fun c6 => ?_) (fun c6 => ?_)
            · refine lx_nil <| wi_true rfl <| wi_skip <| wi_seq <| wi_block <| wi_reg rfl <| lx_move (vz) rfl rfl <| lx_move (.int .i64 ((t : Nat) : Int)) rfl rfl <| lx_move (vz) rfl rfl <| lx_move (.int .i64 ((t : Nat) : Int)) rfl rfl <| lx_ix (i := t) rfl eT58 ho61.rd rfl rfl (by omega) <| lx_ld (i := t) (j := 0) (.int .i64 (gt os4 t)) rfl rfl fl2 ho61.rd (by omega) rfl rfl <| lx_remZ rfl rfl rfl (by omega) <| lx_ix (i := t) rfl eT58 ho61.rd rfl rfl (by omega) <| lx_st (i := t) ((gt os4 t).tmod ((1000000 : Int))) rfl rfl Try.sizeOf2 ho61 (by omega) rfl rfl (fun _ _ _ _ _ => trivial) fun h17 ho62 hc3 hsz1 => ?_
              have hx0_17 := hx0_16.trans (ho61.ext hc3 hx0_16.size)
              have ho63 := ho60.chg hc3 (dj_ty ho60 ho61 (by decide))
              have hot31 := hot30.chg hc3 (djt_ty hot30 ho61 (by decide))
              refine lx_nil <| wi_inBlock <| wi_reg rfl <| lx_move (.int .i64 ((t : Nat) : Int)) rfl rfl <| lx_add (((t + 1 : Nat) : Int)) rfl rfl rfl (by omega) (by omega) (by omega) <| lx_assign (.int .i64 ((t + 1 : Nat) : Int)) rfl rfl <| lx_nil <| ?_
              -- L6.1
              refine IH4 _ _ (t + 1, os4.set t ((gt os4 t).tmod ((1000000 : Int)))) (agree_ups rfl agree_self) ⟨rfl, trivial⟩ ⟨?_, ?_, ?_, hx0_17, ?_, ?_⟩ ?_
              · first | exact ho63 | (simpa using ho63)
              · first | exact hot31 | (simpa using hot31)
              · first | exact ho62 | (simpa using ho62)
              · try dsimp only
                omega
              · try dsimp only
                rw [List.length_set]; exact h4l
              · first | omega | (dsimp only; omega)
            · refine lx_nil <| wi_false rfl <| wi_exit rfl <| wi_draw mo rfl (by decide +kernel) <| ?_
              have hmd19 := Nat.mod_lt (ur x) (show 0 < hsp.length by omega)
              have hmd20 := Nat.mod_lt (ur y) (show 0 < hsp.length by omega)
              refine lx_move (.int .i64 x) rfl rfl <| lx_conv ((ur x : Nat) : Int) rfl Try.underlying3 Try.underlying45 rfl (wrap_ur _) <| lx_move (vp) rfl rfl <| lx_len rfl Try.underlying23 ho60.rd rfl <| lx_conv ((hsp.length : Nat) : Int) rfl Try.underlying3 Try.underlying45 rfl (wrap_u64 (by omega) (by omega)) <| lx_rem (m := ur x) (n := hsp.length) rfl rfl rfl (by omega) <| lx_conv (((ur x) % hsp.length : Nat) : Int) rfl Try.underlying45 Try.underlying3 rfl (wrap_i64 (by omega) (by omega)) <| lx_move (.int .i64 y) rfl rfl <| lx_conv ((ur y : Nat) : Int) rfl Try.underlying3 Try.underlying45 rfl (wrap_ur _) <| lx_move (vp) rfl rfl <| lx_len rfl Try.underlying23 ho60.rd rfl <| lx_conv ((hsp.length : Nat) : Int) rfl Try.underlying3 Try.underlying45 rfl (wrap_u64 (by omega) (by omega)) <| lx_rem (m := ur y) (n := hsp.length) rfl rfl rfl (by omega) <| lx_conv (((ur y) % hsp.length : Nat) : Int) rfl Try.underlying45 Try.underlying3 rfl (wrap_i64 (by omega) (by omega)) <| lx_assign (.int .i64 (((ur x) % hsp.length : Nat) : Int)) rfl rfl <| lx_assign (.int .i64 (((ur y) % hsp.length : Nat) : Int)) rfl rfl <| lx_nil <| wi_inBlock <| wi_reg rfl <| lx_move (.int .i64 ((kk : Nat) : Int)) rfl rfl <| lx_add (((kk + 1 : Nat) : Int)) rfl rfl rfl (by omega) (by omega) (by omega) <| lx_assign (.int .i64 ((kk + 1 : Nat) : Int)) rfl rfl <| lx_nil <| ?_
              -- L2.1
              refine IH2 _ _ (kk + 1, vz, os4, (((ur x) % hsp.length : Nat) : Int), (((ur y) % hsp.length : Nat) : Int)) (agree_ups rfl (agree_mix (rngB_sub (by decide) (by decide) rfl) (agree_ups rfl (agree_mix (rngB_sub (by decide) (by decide) rfl) (agree_ups rfl (agree_mix (rngB_sub (by decide) (by decide) rfl) (agree_ups rfl agree_self))))))) ⟨rfl, rfl, rfl, rfl, trivial⟩ ⟨?_, ?_, ?_, hx0_16, ?_, ?_⟩ ?_
              · first | exact ho60 | (simpa using ho60)
              · first | exact hot30 | (simpa using hot30)
              · first | exact ho61 | (simpa using ho61)
              · try dsimp only
                omega
              · try dsimp only
                omega
              · first | omega | (dsimp only; omega)
        · refine lx_move (.bool false) rfl rfl <| lx_move (.int .i64 y) rfl rfl <| lx_lssS rfl rfl rfl (fun c7 => ?_) (fun c7 => ?_)
          · refine lx_pick false (.bool true) rfl rfl rfl <| lx_move (.bool true) rfl rfl <| lx_skip rfl <| lx_skip rfl <| lx_skip rfl <| lx_skip rfl <| lx_pick true (.bool true) rfl rfl rfl <| lx_move (.bool true) rfl rfl <| lx_skip rfl <| lx_skip rfl <| lx_skip rfl <| lx_skip rfl <| lx_pick true (.bool true) rfl rfl rfl <| lx_nil <| wi_true rfl <| wi_seq <| wi_reg rfl <| ?_
            have hc1 : chaC p x y = 1 := by unfold chaC; rw [if_pos hck, if_neg (fun h9 => by omega)]
            have hcs0 : cs.length = 0 := by
              rcases hcr with ⟨_, h9⟩ | ⟨h9, _⟩
              · rw [h9]; rfl
              · omega
            refine lx_move (.int .i64 (chaC p x y)) rfl rfl <| lx_neqF rfl rfl rfl (fun h9 => h9 hc1) <| lx_move (.bool false) rfl rfl <| lx_move (vc) rfl rfl <| lx_len rfl Try.underlying58 ho54.rd rfl <| lx_neqF rfl rfl rfl (by omega) <| lx_pick false (.bool false) rfl rfl rfl <| lx_nil <| wi_false rfl <| wi_skip <| wi_seq <| wi_block <| ?_
            refine wi_loop (σ := Value × (List Int)) (rngB 223 237 [18]) (fun (ss : Value × (List Int)) => [(18, ss.1)]) (fun (ss : Value × (List Int)) (hh : Heap) => OwE encHd hh h.size 70 vp hsp ∧ OT encB hh h.size 4 hsp p ∧ OwE encI hh h.size 2 ss.1 ss.2 ∧ Ext h.size h hh ∧ (ss.2.length ≤ 14)) (fun (ss : Value × (List Int)) => p.length - ss.2.length) (v, os) ⟨rfl, trivial⟩ ⟨?_, ?_, ?_, hx0_13, ?_⟩ ?_
            · first | exact ho52 | (simpa using ho52)
            · first | exact hot27 | (simpa using hot27)
            · first | exact ho53 | (simpa using ho53)
            · try dsimp only
              exact hol
            rintro g6 ⟨vo2, os2⟩ hh6 ⟨ho64, hot32, ho65, hx0_18, h2l⟩ IH5
            dsimp only at *
            have hl_hot32 := hot32.1
            refine wi_seq <| wi_seq <| wi_reg rfl <| lx_move (vo2) rfl rfl <| lx_len rfl Try.underlying58 ho65.rd rfl <| lx_move (vp) rfl rfl <| lx_len rfl Try.underlying23 ho64.rd rfl <| lx_lssS rfl rfl rfl (fun c8 => ?_) (fun c8 => ?_)
            · refine lx_nil <| wi_true rfl <| wi_skip <| wi_block <| wi_reg rfl <| ?_
              have hmm : os2.length * os2.length ≤ 14 * 14 := Nat.mul_le_mul (by omega) (by omega)
              refine lx_move (vo2) rfl rfl <| lx_move (vo2) rfl rfl <| lx_len rfl Try.underlying58 ho65.rd rfl <| lx_move (vo2) rfl rfl <| lx_len rfl Try.underlying58 ho65.rd rfl <| lx_mul (((os2.length * os2.length : Nat) : Int)) rfl rfl rfl (by omega) (by omega) (by omega) <| lx_sub ((((os2.length * os2.length : Nat) : Int)) - ((3 : Int))) rfl rfl rfl (by omega) (by omega) (by omega) <| lx_appendL (E := encI) (B := h.size) [(((os2.length * os2.length : Nat) : Int)) - ((3 : Int))] [.int .i64 ((((os2.length * os2.length : Nat) : Int)) - ((3 : Int)))] rfl rfl (fun _ => rfl) rfl eT58 rfl rfl rfl rfl ho65 (fun _ => rfl) (by show os2.length + 1 ≤ _; omega) (by show (os2.length + 1) * 8 ≤ _; omega) hx0_18.size (fun _ _ => trivial) fun u2 v4 h18 ho66 hc4 hg3 => ?_
              have hx0_19 := hx0_18.trans (ho65.ext hc4 hx0_18.size)
              have ho67 := ho64.chg hc4 (dj_ty ho64 ho65 (by decide))
              have hot33 := hot32.chg hc4 (djt_ty hot32 ho65 (by decide))
              refine lx_assign (v4) rfl rfl <| lx_nil <| wi_inBlock <| ?_
              -- L4.1
              refine IH5 _ _ (v4, os2 ++ [(((os2.length * os2.length : Nat) : Int)) - ((3 : Int))]) (agree_ups rfl agree_self) ⟨rfl, trivial⟩ ⟨?_, ?_, ?_, hx0_19, ?_⟩ ?_
              · first | exact ho67 | (simpa using ho67)
              · first | exact hot33 | (simpa using hot33)
              · first | exact ho66 | (simpa using ho66)
              · try dsimp only
                rw [List.length_append]
                show os2.length + 1 ≤ 14
                omega
              · simp only [List.length_append, List.length_cons, List.length_nil]; omega
            · refine lx_nil <| wi_false rfl <| wi_exit rfl <| wi_seq <| wi_reg rfl <| lx_move (vo2) rfl rfl <| lx_move (vp) rfl rfl <| lx_len rfl Try.underlying23 ho64.rd rfl <| lx_slice (E := encI) 0 hsp.length rfl eT58 rfl rfl ⟨_, rfl⟩ ho65.rd (by omega) (by omega) fun vz hs3 hso3 => ?_
              have ho68 := sl_own ho65 (hso3 rfl).2 (by omega)
              refine lx_assign (vz) rfl rfl <| lx_nil <| wi_seq <| wi_seq <| wi_reg rfl <| ?_
              obtain ⟨os3, hos3⟩ : ∃ x, x = os2.take hsp.length := ⟨_, rfl⟩
              rw [← hos3] at ho68
              have h3l : os3.length = p.length := by rw [hos3, List.length_take]; omega
              refine lx_assign (.int .i64 0) rfl rfl <| lx_nil <| wi_block <| ?_
              refine wi_loop (σ := Nat × (List Int)) (rngB 241 255 [29]) (fun (ss : Nat × (List Int)) => [(29, .int .i64 ((ss.1 : Nat) : Int))]) (fun (ss : Nat × (List Int)) (hh : Heap) => OwE encHd hh h.size 70 vp hsp ∧ OT encB hh h.size 4 hsp p ∧ OwE encI hh h.size 2 vz ss.2 ∧ Ext h.size h hh ∧ (ss.1 ≤ p.length) ∧ (ss.2.length = p.length)) (fun (ss : Nat × (List Int)) => p.length - ss.1) (0, os3) ⟨rfl, trivial⟩ ⟨?_, ?_, ?_, hx0_18, ?_, ?_⟩ ?_
              · first | exact ho64 | (simpa using ho64)
              · first | exact hot32 | (simpa using hot32)
              · first | exact ho68 | (simpa using ho68)
              · try dsimp only
                omega
              · try dsimp only
                exact h3l
              rintro g7 ⟨t, os4⟩ hh7 ⟨ho69, hot34, ho70, hx0_20, ht, h4l⟩ IH6
              dsimp only at *
              have hl_hot34 := hot34.1
              refine wi_seq <| wi_seq <| wi_reg rfl <| lx_move (.int .i64 ((t : Nat) : Int)) rfl rfl <| lx_move (vz) rfl rfl <| lx_len rfl Try.underlying58 ho70.rd rfl <| lx_lssS rfl rfl rfl (fun c9 => ?_) (fun c9 => ?_)
              · refine lx_nil <| wi_true rfl <| wi_skip <| wi_seq <| wi_block <| wi_reg rfl <| lx_move (vz) rfl rfl <| lx_move (.int .i64 ((t : Nat) : Int)) rfl rfl <| lx_move (vz) rfl rfl <| lx_move (.int .i64 ((t : Nat) : Int)) rfl rfl <| lx_ix (i := t) rfl eT58 ho70.rd rfl rfl (by omega) <| lx_ld (i := t) (j := 0) (.int .i64 (gt os4 t)) rfl rfl fl2 ho70.rd (by omega) rfl rfl <| lx_remZ rfl rfl rfl (by omega) <| lx_ix (i := t) rfl eT58 ho70.rd rfl rfl (by omega) <| lx_st (i := t) ((gt os4 t).tmod ((1000000 : Int))) rfl rfl Try.sizeOf2 ho70 (by omega) rfl rfl (fun _ _ _ _ _ => trivial) fun h19 ho71 hc5 hsz2 => ?_
                have hx0_21 := hx0_20.trans (ho70.ext hc5 hx0_20.size)
                have ho72 := ho69.chg hc5 (dj_ty ho69 ho70 (by decide))
                have hot35 := hot34.chg hc5 (djt_ty hot34 ho70 (by decide))
                refine lx_nil <| wi_inBlock <| wi_reg rfl <| lx_move (.int .i64 ((t : Nat) : Int)) rfl rfl <| lx_add (((t + 1 : Nat) : Int)) rfl rfl rfl (by omega) (by omega) (by omega) <| lx_assign (.int .i64 ((t + 1 : Nat) : Int)) rfl rfl <| lx_nil <| ?_
                -- L6.1
                refine IH6 _ _ (t + 1, os4.set t ((gt os4 t).tmod ((1000000 : Int)))) (agree_ups rfl agree_self) ⟨rfl, trivial⟩ ⟨?_, ?_, ?_, hx0_21, ?_, ?_⟩ ?_
                · first | exact ho72 | (simpa using ho72)
                · first | exact hot35 | (simpa using hot35)
                · first | exact ho71 | (simpa using ho71)
                · try dsimp only
                  omega
                · try dsimp only
                  rw [List.length_set]; exact h4l
                · first | omega | (dsimp only; omega)
              · refine lx_nil <| wi_false rfl <| wi_exit rfl <| wi_draw mo rfl (by decide +kernel) <| ?_
                have hmd19 := Nat.mod_lt (ur x) (show 0 < hsp.length by omega)
                have hmd20 := Nat.mod_lt (ur y) (show 0 < hsp.length by omega)
                refine lx_move (.int .i64 x) rfl rfl <| lx_conv ((ur x : Nat) : Int) rfl Try.underlying3 Try.underlying45 rfl (wrap_ur _) <| lx_move (vp) rfl rfl <| lx_len rfl Try.underlying23 ho69.rd rfl <| lx_conv ((hsp.length : Nat) : Int) rfl Try.underlying3 Try.underlying45 rfl (wrap_u64 (by omega) (by omega)) <| lx_rem (m := ur x) (n := hsp.length) rfl rfl rfl (by omega) <| lx_conv (((ur x) % hsp.length : Nat) : Int) rfl Try.underlying45 Try.underlying3 rfl (wrap_i64 (by omega) (by omega)) <| lx_move (.int .i64 y) rfl rfl <| lx_conv ((ur y : Nat) : Int) rfl Try.underlying3 Try.underlying45 rfl (wrap_ur _) <| lx_move (vp) rfl rfl <| lx_len rfl Try.underlying23 ho69.rd rfl <| lx_conv ((hsp.length : Nat) : Int) rfl Try.underlying3 Try.underlying45 rfl (wrap_u64 (by omega) (by omega)) <| lx_rem (m := ur y) (n := hsp.length) rfl rfl rfl (by omega) <| lx_conv (((ur y) % hsp.length : Nat) : Int) rfl Try.underlying45 Try.underlying3 rfl (wrap_i64 (by omega) (by omega)) <| lx_assign (.int .i64 (((ur x) % hsp.length : Nat) : Int)) rfl rfl <| lx_assign (.int .i64 (((ur y) % hsp.length : Nat) : Int)) rfl rfl <| lx_nil <| wi_inBlock <| wi_reg rfl <| lx_move (.int .i64 ((kk : Nat) : Int)) rfl rfl <| lx_add (((kk + 1 : Nat) : Int)) rfl rfl rfl (by omega) (by omega) (by omega) <| lx_assign (.int .i64 ((kk + 1 : Nat) : Int)) rfl rfl <| lx_nil <| ?_
                -- L2.2
                refine IH2 _ _ (kk + 1, vz, os4, (((ur x) % hsp.length : Nat) : Int), (((ur y) % hsp.length : Nat) : Int)) (agree_ups rfl (agree_mix (rngB_sub (by decide) (by decide) rfl) (agree_ups rfl (agree_mix (rngB_sub (by decide) (by decide) rfl) (agree_ups rfl (agree_mix (rngB_sub (by decide) (by decide) rfl) (agree_ups rfl agree_self))))))) ⟨rfl, rfl, rfl, rfl, trivial⟩ ⟨?_, ?_, ?_, hx0_20, ?_, ?_⟩ ?_
                · first | exact ho69 | (simpa using ho69)
                · first | exact hot34 | (simpa using hot34)
                · first | exact ho70 | (simpa using ho70)
                · try dsimp only
                  omega
                · try dsimp only
                  omega
                · first | omega | (dsimp only; omega)
          · refine lx_pick false (.bool false) rfl rfl rfl <| lx_move (.bool false) rfl rfl <| lx_move (.int .i64 x) rfl rfl <| lx_move (vp) rfl rfl <| lx_len rfl Try.underlying23 ho52.rd rfl <| lx_geqS rfl rfl rfl (fun c10 => ?_) (fun c10 => ?_)
            · refine lx_pick false (.bool true) rfl rfl rfl <| lx_move (.bool true) rfl rfl <| lx_skip rfl <| lx_skip rfl <| lx_skip rfl <| lx_skip rfl <| lx_pick true (.bool true) rfl rfl rfl <| lx_nil <| wi_true rfl <| wi_seq <| wi_reg rfl <| ?_
              have hc1 : chaC p x y = 1 := by unfold chaC; rw [if_pos hck, if_neg (fun h9 => by omega)]
              have hcs0 : cs.length = 0 := by
                rcases hcr with ⟨_, h9⟩ | ⟨h9, _⟩
                · rw [h9]; rfl
                · omega
              refine lx_move (.int .i64 (chaC p x y)) rfl rfl <| lx_neqF rfl rfl rfl (fun h9 => h9 hc1) <| lx_move (.bool false) rfl rfl <| lx_move (vc) rfl rfl <| lx_len rfl Try.underlying58 ho54.rd rfl <| lx_neqF rfl rfl rfl (by omega) <| lx_pick false (.bool false) rfl rfl rfl <| lx_nil <| wi_false rfl <| wi_skip <| wi_seq <| wi_block <| ?_
              refine wi_loop (σ := Value × (List Int)) (rngB 223 237 [18]) (fun (ss : Value × (List Int)) => [(18, ss.1)]) (fun (ss : Value × (List Int)) (hh : Heap) => OwE encHd hh h.size 70 vp hsp ∧ OT encB hh h.size 4 hsp p ∧ OwE encI hh h.size 2 ss.1 ss.2 ∧ Ext h.size h hh ∧ (ss.2.length ≤ 14)) (fun (ss : Value × (List Int)) => p.length - ss.2.length) (v, os) ⟨rfl, trivial⟩ ⟨?_, ?_, ?_, hx0_13, ?_⟩ ?_
              · first | exact ho52 | (simpa using ho52)
              · first | exact hot27 | (simpa using hot27)
              · first | exact ho53 | (simpa using ho53)
              · try dsimp only
                exact hol
              rintro g8 ⟨vo2, os2⟩ hh8 ⟨ho73, hot36, ho74, hx0_22, h2l⟩ IH7
              dsimp only at *
              have hl_hot36 := hot36.1
              refine wi_seq <| wi_seq <| wi_reg rfl <| lx_move (vo2) rfl rfl <| lx_len rfl Try.underlying58 ho74.rd rfl <| lx_move (vp) rfl rfl <| lx_len rfl Try.underlying23 ho73.rd rfl <| lx_lssS rfl rfl rfl (fun c11 => ?_) (fun c11 => ?_)
              · refine lx_nil <| wi_true rfl <| wi_skip <| wi_block <| wi_reg rfl <| ?_
                have hmm : os2.length * os2.length ≤ 14 * 14 := Nat.mul_le_mul (by omega) (by omega)
                refine lx_move (vo2) rfl rfl <| lx_move (vo2) rfl rfl <| lx_len rfl Try.underlying58 ho74.rd rfl <| lx_move (vo2) rfl rfl <| lx_len rfl Try.underlying58 ho74.rd rfl <| lx_mul (((os2.length * os2.length : Nat) : Int)) rfl rfl rfl (by omega) (by omega) (by omega) <| lx_sub ((((os2.length * os2.length : Nat) : Int)) - ((3 : Int))) rfl rfl rfl (by omega) (by omega) (by omega) <| lx_appendL (E := encI) (B := h.size) [(((os2.length * os2.length : Nat) : Int)) - ((3 : Int))] [.int .i64 ((((os2.length * os2.length : Nat) : Int)) - ((3 : Int)))] rfl rfl (fun _ => rfl) rfl eT58 rfl rfl rfl rfl ho74 (fun _ => rfl) (by show os2.length + 1 ≤ _; omega) (by show (os2.length + 1) * 8 ≤ _; omega) hx0_22.size (fun _ _ => trivial) fun u3 v5 h20 ho75 hc6 hg4 => ?_
                have hx0_23 := hx0_22.trans (ho74.ext hc6 hx0_22.size)
                have ho76 := ho73.chg hc6 (dj_ty ho73 ho74 (by decide))
                have hot37 := hot36.chg hc6 (djt_ty hot36 ho74 (by decide))
                refine lx_assign (v5) rfl rfl <| lx_nil <| wi_inBlock <| ?_
                -- L4.1
                refine IH7 _ _ (v5, os2 ++ [(((os2.length * os2.length : Nat) : Int)) - ((3 : Int))]) (agree_ups rfl agree_self) ⟨rfl, trivial⟩ ⟨?_, ?_, ?_, hx0_23, ?_⟩ ?_
                · first | exact ho76 | (simpa using ho76)
                · first | exact hot37 | (simpa using hot37)
                · first | exact ho75 | (simpa using ho75)
                · try dsimp only
                  rw [List.length_append]
                  show os2.length + 1 ≤ 14
                  omega
                · simp only [List.length_append, List.length_cons, List.length_nil]; omega
              · refine lx_nil <| wi_false rfl <| wi_exit rfl <| wi_seq <| wi_reg rfl <| lx_move (vo2) rfl rfl <| lx_move (vp) rfl rfl <| lx_len rfl Try.underlying23 ho73.rd rfl <| lx_slice (E := encI) 0 hsp.length rfl eT58 rfl rfl ⟨_, rfl⟩ ho74.rd (by omega) (by omega) fun vz hs4 hso4 => ?_
                have ho77 := sl_own ho74 (hso4 rfl).2 (by omega)
                refine lx_assign (vz) rfl rfl <| lx_nil <| wi_seq <| wi_seq <| wi_reg rfl <| ?_
                obtain ⟨os3, hos3⟩ : ∃ x, x = os2.take hsp.length := ⟨_, rfl⟩
                rw [← hos3] at ho77
                have h3l : os3.length = p.length := by rw [hos3, List.length_take]; omega
                refine lx_assign (.int .i64 0) rfl rfl <| lx_nil <| wi_block <| ?_
                refine wi_loop (σ := Nat × (List Int)) (rngB 241 255 [29]) (fun (ss : Nat × (List Int)) => [(29, .int .i64 ((ss.1 : Nat) : Int))]) (fun (ss : Nat × (List Int)) (hh : Heap) => OwE encHd hh h.size 70 vp hsp ∧ OT encB hh h.size 4 hsp p ∧ OwE encI hh h.size 2 vz ss.2 ∧ Ext h.size h hh ∧ (ss.1 ≤ p.length) ∧ (ss.2.length = p.length)) (fun (ss : Nat × (List Int)) => p.length - ss.1) (0, os3) ⟨rfl, trivial⟩ ⟨?_, ?_, ?_, hx0_22, ?_, ?_⟩ ?_
                · first | exact ho73 | (simpa using ho73)
                · first | exact hot36 | (simpa using hot36)
                · first | exact ho77 | (simpa using ho77)
                · try dsimp only
                  omega
                · try dsimp only
                  exact h3l
                rintro g9 ⟨t, os4⟩ hh9 ⟨ho78, hot38, ho79, hx0_24, ht, h4l⟩ IH8
                dsimp only at *
                have hl_hot38 := hot38.1
                refine wi_seq <| wi_seq <| wi_reg rfl <| lx_move (.int .i64 ((t : Nat) : Int)) rfl rfl <| lx_move (vz) rfl rfl <| lx_len rfl Try.underlying58 ho79.rd rfl <| lx_lssS rfl rfl rfl (fun c12 => ?_) (fun c12 => ?_)
                · refine lx_nil <| wi_true rfl <| wi_skip <| wi_seq <| wi_block <| wi_reg rfl <| lx_move (vz) rfl rfl <| lx_move (.int .i64 ((t : Nat) : Int)) rfl rfl <| lx_move (vz) rfl rfl <| lx_move (.int .i64 ((t : Nat) : Int)) rfl rfl <| lx_ix (i := t) rfl eT58 ho79.rd rfl rfl (by omega) <| lx_ld (i := t) (j := 0) (.int .i64 (gt os4 t)) rfl rfl fl2 ho79.rd (by omega) rfl rfl <| lx_remZ rfl rfl rfl (by omega) <| lx_ix (i := t) rfl eT58 ho79.rd rfl rfl (by omega) <| lx_st (i := t) ((gt os4 t).tmod ((1000000 : Int))) rfl rfl Try.sizeOf2 ho79 (by omega) rfl rfl (fun _ _ _ _ _ => trivial) fun h21 ho80 hc7 hsz3 => ?_
                  have hx0_25 := hx0_24.trans (ho79.ext hc7 hx0_24.size)
                  have ho81 := ho78.chg hc7 (dj_ty ho78 ho79 (by decide))
                  have hot39 := hot38.chg hc7 (djt_ty hot38 ho79 (by decide))
                  refine lx_nil <| wi_inBlock <| wi_reg rfl <| lx_move (.int .i64 ((t : Nat) : Int)) rfl rfl <| lx_add (((t + 1 : Nat) : Int)) rfl rfl rfl (by omega) (by omega) (by omega) <| lx_assign (.int .i64 ((t + 1 : Nat) : Int)) rfl rfl <| lx_nil <| ?_
                  -- L6.1
                  refine IH8 _ _ (t + 1, os4.set t ((gt os4 t).tmod ((1000000 : Int)))) (agree_ups rfl agree_self) ⟨rfl, trivial⟩ ⟨?_, ?_, ?_, hx0_25, ?_, ?_⟩ ?_
                  · first | exact ho81 | (simpa using ho81)
                  · first | exact hot39 | (simpa using hot39)
                  · first | exact ho80 | (simpa using ho80)
                  · try dsimp only
                    omega
                  · try dsimp only
                    rw [List.length_set]; exact h4l
                  · first | omega | (dsimp only; omega)
                · refine lx_nil <| wi_false rfl <| wi_exit rfl <| wi_draw mo rfl (by decide +kernel) <| ?_
                  have hmd19 := Nat.mod_lt (ur x) (show 0 < hsp.length by omega)
                  have hmd20 := Nat.mod_lt (ur y) (show 0 < hsp.length by omega)
                  refine lx_move (.int .i64 x) rfl rfl <| lx_conv ((ur x : Nat) : Int) rfl Try.underlying3 Try.underlying45 rfl (wrap_ur _) <| lx_move (vp) rfl rfl <| lx_len rfl Try.underlying23 ho78.rd rfl <| lx_conv ((hsp.length : Nat) : Int) rfl Try.underlying3 Try.underlying45 rfl (wrap_u64 (by omega) (by omega)) <| lx_rem (m := ur x) (n := hsp.length) rfl rfl rfl (by omega) <| lx_conv (((ur x) % hsp.length : Nat) : Int) rfl Try.underlying45 Try.underlying3 rfl (wrap_i64 (by omega) (by omega)) <| lx_move (.int .i64 y) rfl rfl <| lx_conv ((ur y : Nat) : Int) rfl Try.underlying3 Try.underlying45 rfl (wrap_ur _) <| lx_move (vp) rfl rfl <| lx_len rfl Try.underlying23 ho78.rd rfl <| lx_conv ((hsp.length : Nat) : Int) rfl Try.underlying3 Try.underlying45 rfl (wrap_u64 (by omega) (by omega)) <| lx_rem (m := ur y) (n := hsp.length) rfl rfl rfl (by omega) <| lx_conv (((ur y) % hsp.length : Nat) : Int) rfl Try.underlying45 Try.underlying3 rfl (wrap_i64 (by omega) (by omega)) <| lx_assign (.int .i64 (((ur x) % hsp.length : Nat) : Int)) rfl rfl <| lx_assign (.int .i64 (((ur y) % hsp.length : Nat) : Int)) rfl rfl <| lx_nil <| wi_inBlock <| wi_reg rfl <| lx_move (.int .i64 ((kk : Nat) : Int)) rfl rfl <| lx_add (((kk + 1 : Nat) : Int)) rfl rfl rfl (by omega) (by omega) (by omega) <| lx_assign (.int .i64 ((kk + 1 : Nat) : Int)) rfl rfl <| lx_nil <| ?_
                  -- L2.3
                  refine IH2 _ _ (kk + 1, vz, os4, (((ur x) % hsp.length : Nat) : Int), (((ur y) % hsp.length : Nat) : Int)) (agree_ups rfl (agree_mix (rngB_sub (by decide) (by decide) rfl) (agree_ups rfl (agree_mix (rngB_sub (by decide) (by decide) rfl) (agree_ups rfl (agree_mix (rngB_sub (by decide) (by decide) rfl) (agree_ups rfl agree_self))))))) ⟨rfl, rfl, rfl, rfl, trivial⟩ ⟨?_, ?_, ?_, hx0_24, ?_, ?_⟩ ?_
                  · first | exact ho78 | (simpa using ho78)
                  · first | exact hot38 | (simpa using hot38)
                  · first | exact ho79 | (simpa using ho79)
                  · try dsimp only
                    omega
                  · try dsimp only
                    omega
                  · first | omega | (dsimp only; omega)
            · refine lx_pick false (.bool false) rfl rfl rfl <| lx_move (.bool false) rfl rfl <| lx_move (.int .i64 y) rfl rfl <| lx_move (vp) rfl rfl <| lx_len rfl Try.underlying23 ho52.rd rfl <| lx_geqS rfl rfl rfl (fun c13 => ?_) (fun c13 => ?_)
              · refine lx_pick false (.bool true) rfl rfl rfl <| lx_nil <| wi_true rfl <| wi_seq <| wi_reg rfl <| ?_
                have hc1 : chaC p x y = 1 := by unfold chaC; rw [if_pos hck, if_neg (fun h9 => by omega)]
                have hcs0 : cs.length = 0 := by
                  rcases hcr with ⟨_, h9⟩ | ⟨h9, _⟩
                  · rw [h9]; rfl
                  · omega
                refine lx_move (.int .i64 (chaC p x y)) rfl rfl <| lx_neqF rfl rfl rfl (fun h9 => h9 hc1) <| lx_move (.bool false) rfl rfl <| lx_move (vc) rfl rfl <| lx_len rfl Try.underlying58 ho54.rd rfl <| lx_neqF rfl rfl rfl (by omega) <| lx_pick false (.bool false) rfl rfl rfl <| lx_nil <| wi_false rfl <| wi_skip <| wi_seq <| wi_block <| ?_
                refine wi_loop (σ := Value × (List Int)) (rngB 223 237 [18]) (fun (ss : Value × (List Int)) => [(18, ss.1)]) (fun (ss : Value × (List Int)) (hh : Heap) => OwE encHd hh h.size 70 vp hsp ∧ OT encB hh h.size 4 hsp p ∧ OwE encI hh h.size 2 ss.1 ss.2 ∧ Ext h.size h hh ∧ (ss.2.length ≤ 14)) (fun (ss : Value × (List Int)) => p.length - ss.2.length) (v, os) ⟨rfl, trivial⟩ ⟨?_, ?_, ?_, hx0_13, ?_⟩ ?_
                · first | exact ho52 | (simpa using ho52)
                · first | exact hot27 | (simpa using hot27)
                · first | exact ho53 | (simpa using ho53)
                · try dsimp only
                  exact hol
                rintro g10 ⟨vo2, os2⟩ hh10 ⟨ho82, hot40, ho83, hx0_26, h2l⟩ IH9
                dsimp only at *
                have hl_hot40 := hot40.1
                refine wi_seq <| wi_seq <| wi_reg rfl <| lx_move (vo2) rfl rfl <| lx_len rfl Try.underlying58 ho83.rd rfl <| lx_move (vp) rfl rfl <| lx_len rfl Try.underlying23 ho82.rd rfl <| lx_lssS rfl rfl rfl (fun c14 => ?_) (fun c14 => ?_)
                · refine lx_nil <| wi_true rfl <| wi_skip <| wi_block <| wi_reg rfl <| ?_
                  have hmm : os2.length * os2.length ≤ 14 * 14 := Nat.mul_le_mul (by omega) (by omega)
                  refine lx_move (vo2) rfl rfl <| lx_move (vo2) rfl rfl <| lx_len rfl Try.underlying58 ho83.rd rfl <| lx_move (vo2) rfl rfl <| lx_len rfl Try.underlying58 ho83.rd rfl <| lx_mul (((os2.length * os2.length : Nat) : Int)) rfl rfl rfl (by omega) (by omega) (by omega) <| lx_sub ((((os2.length * os2.length : Nat) : Int)) - ((3 : Int))) rfl rfl rfl (by omega) (by omega) (by omega) <| lx_appendL (E := encI) (B := h.size) [(((os2.length * os2.length : Nat) : Int)) - ((3 : Int))] [.int .i64 ((((os2.length * os2.length : Nat) : Int)) - ((3 : Int)))] rfl rfl (fun _ => rfl) rfl eT58 rfl rfl rfl rfl ho83 (fun _ => rfl) (by show os2.length + 1 ≤ _; omega) (by show (os2.length + 1) * 8 ≤ _; omega) hx0_26.size (fun _ _ => trivial) fun u4 v6 h22 ho84 hc8 hg5 => ?_
                  have hx0_27 := hx0_26.trans (ho83.ext hc8 hx0_26.size)
                  have ho85 := ho82.chg hc8 (dj_ty ho82 ho83 (by decide))
                  have hot41 := hot40.chg hc8 (djt_ty hot40 ho83 (by decide))
                  refine lx_assign (v6) rfl rfl <| lx_nil <| wi_inBlock <| ?_
                  -- L4.1
                  refine IH9 _ _ (v6, os2 ++ [(((os2.length * os2.length : Nat) : Int)) - ((3 : Int))]) (agree_ups rfl agree_self) ⟨rfl, trivial⟩ ⟨?_, ?_, ?_, hx0_27, ?_⟩ ?_
                  · first | exact ho85 | (simpa using ho85)
                  · first | exact hot41 | (simpa using hot41)
                  · first | exact ho84 | (simpa using ho84)
                  · try dsimp only
                    rw [List.length_append]
                    show os2.length + 1 ≤ 14
                    omega
                  · simp only [List.length_append, List.length_cons, List.length_nil]; omega
                · refine lx_nil <| wi_false rfl <| wi_exit rfl <| wi_seq <| wi_reg rfl <| lx_move (vo2) rfl rfl <| lx_move (vp) rfl rfl <| lx_len rfl Try.underlying23 ho82.rd rfl <| lx_slice (E := encI) 0 hsp.length rfl eT58 rfl rfl ⟨_, rfl⟩ ho83.rd (by omega) (by omega) fun vz hs5 hso5 => ?_
                  have ho86 := sl_own ho83 (hso5 rfl).2 (by omega)
                  refine lx_assign (vz) rfl rfl <| lx_nil <| wi_seq <| wi_seq <| wi_reg rfl <| ?_
                  obtain ⟨os3, hos3⟩ : ∃ x, x = os2.take hsp.length := ⟨_, rfl⟩
                  rw [← hos3] at ho86
                  have h3l : os3.length = p.length := by rw [hos3, List.length_take]; omega
                  refine lx_assign (.int .i64 0) rfl rfl <| lx_nil <| wi_block <| ?_
                  refine wi_loop (σ := Nat × (List Int)) (rngB 241 255 [29]) (fun (ss : Nat × (List Int)) => [(29, .int .i64 ((ss.1 : Nat) : Int))]) (fun (ss : Nat × (List Int)) (hh : Heap) => OwE encHd hh h.size 70 vp hsp ∧ OT encB hh h.size 4 hsp p ∧ OwE encI hh h.size 2 vz ss.2 ∧ Ext h.size h hh ∧ (ss.1 ≤ p.length) ∧ (ss.2.length = p.length)) (fun (ss : Nat × (List Int)) => p.length - ss.1) (0, os3) ⟨rfl, trivial⟩ ⟨?_, ?_, ?_, hx0_26, ?_, ?_⟩ ?_
                  · first | exact ho82 | (simpa using ho82)
                  · first | exact hot40 | (simpa using hot40)
                  · first | exact ho86 | (simpa using ho86)
                  · try dsimp only
                    omega
                  · try dsimp only
                    exact h3l
                  rintro g11 ⟨t, os4⟩ hh11 ⟨ho87, hot42, ho88, hx0_28, ht, h4l⟩ IH10
                  dsimp only at *
                  have hl_hot42 := hot42.1
                  refine wi_seq <| wi_seq <| wi_reg rfl <| lx_move (.int .i64 ((t : Nat) : Int)) rfl rfl <| lx_move (vz) rfl rfl <| lx_len rfl Try.underlying58 ho88.rd rfl <| lx_lssS rfl rfl rfl (fun c15 => ?_) (fun c15 => ?_)
                  · refine lx_nil <| wi_true rfl <| wi_skip <| wi_seq <| wi_block <| wi_reg rfl <| lx_move (vz) rfl rfl <| lx_move (.int .i64 ((t : Nat) : Int)) rfl rfl <| lx_move (vz) rfl rfl <| lx_move (.int .i64 ((t : Nat) : Int)) rfl rfl <| lx_ix (i := t) rfl eT58 ho88.rd rfl rfl (by omega) <| lx_ld (i := t) (j := 0) (.int .i64 (gt os4 t)) rfl rfl fl2 ho88.rd (by omega) rfl rfl <| lx_remZ rfl rfl rfl (by omega) <| lx_ix (i := t) rfl eT58 ho88.rd rfl rfl (by omega) <| lx_st (i := t) ((gt os4 t).tmod ((1000000 : Int))) rfl rfl Try.sizeOf2 ho88 (by omega) rfl rfl (fun _ _ _ _ _ => trivial) fun h23 ho89 hc9 hsz4 => ?_
                    have hx0_29 := hx0_28.trans (ho88.ext hc9 hx0_28.size)
                    have ho90 := ho87.chg hc9 (dj_ty ho87 ho88 (by decide))
                    have hot43 := hot42.chg hc9 (djt_ty hot42 ho88 (by decide))
                    refine lx_nil <| wi_inBlock <| wi_reg rfl <| lx_move (.int .i64 ((t : Nat) : Int)) rfl rfl <| lx_add (((t + 1 : Nat) : Int)) rfl rfl rfl (by omega) (by omega) (by omega) <| lx_assign (.int .i64 ((t + 1 : Nat) : Int)) rfl rfl <| lx_nil <| ?_
                    -- L6.1
                    refine IH10 _ _ (t + 1, os4.set t ((gt os4 t).tmod ((1000000 : Int)))) (agree_ups rfl agree_self) ⟨rfl, trivial⟩ ⟨?_, ?_, ?_, hx0_29, ?_, ?_⟩ ?_
                    · first | exact ho90 | (simpa using ho90)
                    · first | exact hot43 | (simpa using hot43)
                    · first | exact ho89 | (simpa using ho89)
                    · try dsimp only
                      omega
                    · try dsimp only
                      rw [List.length_set]; exact h4l
                    · first | omega | (dsimp only; omega)
                  · refine lx_nil <| wi_false rfl <| wi_exit rfl <| wi_draw mo rfl (by decide +kernel) <| ?_
                    have hmd19 := Nat.mod_lt (ur x) (show 0 < hsp.length by omega)
                    have hmd20 := Nat.mod_lt (ur y) (show 0 < hsp.length by omega)
                    refine lx_move (.int .i64 x) rfl rfl <| lx_conv ((ur x : Nat) : Int) rfl Try.underlying3 Try.underlying45 rfl (wrap_ur _) <| lx_move (vp) rfl rfl <| lx_len rfl Try.underlying23 ho87.rd rfl <| lx_conv ((hsp.length : Nat) : Int) rfl Try.underlying3 Try.underlying45 rfl (wrap_u64 (by omega) (by omega)) <| lx_rem (m := ur x) (n := hsp.length) rfl rfl rfl (by omega) <| lx_conv (((ur x) % hsp.length : Nat) : Int) rfl Try.underlying45 Try.underlying3 rfl (wrap_i64 (by omega) (by omega)) <| lx_move (.int .i64 y) rfl rfl <| lx_conv ((ur y : Nat) : Int) rfl Try.underlying3 Try.underlying45 rfl (wrap_ur _) <| lx_move (vp) rfl rfl <| lx_len rfl Try.underlying23 ho87.rd rfl <| lx_conv ((hsp.length : Nat) : Int) rfl Try.underlying3 Try.underlying45 rfl (wrap_u64 (by omega) (by omega)) <| lx_rem (m := ur y) (n := hsp.length) rfl rfl rfl (by omega) <| lx_conv (((ur y) % hsp.length : Nat) : Int) rfl Try.underlying45 Try.underlying3 rfl (wrap_i64 (by omega) (by omega)) <| lx_assign (.int .i64 (((ur x) % hsp.length : Nat) : Int)) rfl rfl <| lx_assign (.int .i64 (((ur y) % hsp.length : Nat) : Int)) rfl rfl <| lx_nil <| wi_inBlock <| wi_reg rfl <| lx_move (.int .i64 ((kk : Nat) : Int)) rfl rfl <| lx_add (((kk + 1 : Nat) : Int)) rfl rfl rfl (by omega) (by omega) (by omega) <| lx_assign (.int .i64 ((kk + 1 : Nat) : Int)) rfl rfl <| lx_nil <| ?_
                    -- L2.4
                    refine IH2 _ _ (kk + 1, vz, os4, (((ur x) % hsp.length : Nat) : Int), (((ur y) % hsp.length : Nat) : Int)) (agree_ups rfl (agree_mix (rngB_sub (by decide) (by decide) rfl) (agree_ups rfl (agree_mix (rngB_sub (by decide) (by decide) rfl) (agree_ups rfl (agree_mix (rngB_sub (by decide) (by decide) rfl) (agree_ups rfl agree_self))))))) ⟨rfl, rfl, rfl, rfl, trivial⟩ ⟨?_, ?_, ?_, hx0_28, ?_, ?_⟩ ?_
                    · first | exact ho87 | (simpa using ho87)
                    · first | exact hot42 | (simpa using hot42)
                    · first | exact ho88 | (simpa using ho88)
                    · try dsimp only
                      omega
                    · try dsimp only
                      omega
                    · first | omega | (dsimp only; omega)
              · refine lx_pick false (.bool false) rfl rfl rfl <| lx_nil <| wi_false rfl <| wi_seq <| wi_reg rfl <| ?_
                have hc0 : chaC p x y = 0 := by unfold chaC; rw [if_pos hck, if_pos ⟨by omega, by omega, by omega, by omega⟩]
                have hcg9 := goodA hcr hc0
                have hcl9 := chaR_len hcg9
                obtain ⟨x9, rfl⟩ : ∃ x9 : Nat, x = ((x9 : Nat) : Int) := ⟨x.toNat, by omega⟩
                obtain ⟨y9, rfl⟩ : ∃ y9 : Nat, y = ((y9 : Nat) : Int) := ⟨y.toNat, by omega⟩
                rw [Int.toNat_natCast, Int.toNat_natCast] at hcg9
                refine lx_move (.int .i64 (chaC p ((x9 : Nat) : Int) ((y9 : Nat) : Int))) rfl rfl <| lx_neqF rfl rfl rfl (fun h9 => h9 hc0) <| lx_move (.bool false) rfl rfl <| lx_move (vc) rfl rfl <| lx_move (vp) rfl rfl <| lx_move (.int .i64 ((x9 : Nat) : Int)) rfl rfl <| lx_move (.int .i64 ((y9 : Nat) : Int)) rfl rfl <| lx_call [vp, .int .i64 ((x9 : Nat) : Int), .int .i64 ((y9 : Nat) : Int)] rfl rfl Try.call60 rfl (rchains_spec h15 vp hsp p x9 y9 ho52.rd hot27.rt (by omega) hpq hio (by omega) (by omega)) (fun _ _ _ => trivial) ?_
                rintro vc2 h24 ⟨_, cs2, rfl, ho91, hcr2, hx12⟩
                have hx0_30 := hx0_13.trans2 hx12 hx0_13.size
                have ho92 := ho52.extS hx12
                have hot44 := hot27.extS hx12
                have ho93 := ho53.extS hx12
                have ho94 := ho54.extS hx12
                have ho95 := ho91.base hx0_13.size
                refine lx_call [vc, vc2] rfl rfl Try.call41 rfl (longs_spec h24 vc cs vc2 cs2 ho94.rd ho95.rd (by omega) (by have := chaR_len hcr2; omega)) (fun _ _ _ => trivial) ?_
                rintro _ h25 ⟨rfl, rfl⟩
                rw [decide_eq_true (chaR_uniq hcg9 hcr2)]
                refine lx_notB false rfl rfl rfl <| lx_pick false (.bool false) rfl rfl rfl <| lx_nil <| wi_false rfl <| wi_skip <| wi_seq <| wi_block <| ?_
                refine wi_loop (σ := Value × (List Int)) (rngB 223 237 [18]) (fun (ss : Value × (List Int)) => [(18, ss.1)]) (fun (ss : Value × (List Int)) (hh : Heap) => OwE encHd hh h.size 70 vp hsp ∧ OT encB hh h.size 4 hsp p ∧ OwE encI hh h.size 2 ss.1 ss.2 ∧ Ext h.size h hh ∧ (ss.2.length ≤ 14)) (fun (ss : Value × (List Int)) => p.length - ss.2.length) (v, os) ⟨rfl, trivial⟩ ⟨?_, ?_, ?_, hx0_30, ?_⟩ ?_
                · first | exact ho92 | (simpa using ho92)
                · first | exact hot44 | (simpa using hot44)
                · first | exact ho93 | (simpa using ho93)
                · try dsimp only
                  exact hol
                rintro g12 ⟨vo2, os2⟩ hh12 ⟨ho96, hot45, ho97, hx0_31, h2l⟩ IH11
                dsimp only at *
                have hl_hot45 := hot45.1
                refine wi_seq <| wi_seq <| wi_reg rfl <| lx_move (vo2) rfl rfl <| lx_len rfl Try.underlying58 ho97.rd rfl <| lx_move (vp) rfl rfl <| lx_len rfl Try.underlying23 ho96.rd rfl <| lx_lssS rfl rfl rfl (fun c16 => ?_) (fun c16 => ?_)
                · refine lx_nil <| wi_true rfl <| wi_skip <| wi_block <| wi_reg rfl <| ?_
                  have hmm : os2.length * os2.length ≤ 14 * 14 := Nat.mul_le_mul (by omega) (by omega)
                  refine lx_move (vo2) rfl rfl <| lx_move (vo2) rfl rfl <| lx_len rfl Try.underlying58 ho97.rd rfl <| lx_move (vo2) rfl rfl <| lx_len rfl Try.underlying58 ho97.rd rfl <| lx_mul (((os2.length * os2.length : Nat) : Int)) rfl rfl rfl (by omega) (by omega) (by omega) <| lx_sub ((((os2.length * os2.length : Nat) : Int)) - ((3 : Int))) rfl rfl rfl (by omega) (by omega) (by omega) <| lx_appendL (E := encI) (B := h.size) [(((os2.length * os2.length : Nat) : Int)) - ((3 : Int))] [.int .i64 ((((os2.length * os2.length : Nat) : Int)) - ((3 : Int)))] rfl rfl (fun _ => rfl) rfl eT58 rfl rfl rfl rfl ho97 (fun _ => rfl) (by show os2.length + 1 ≤ _; omega) (by show (os2.length + 1) * 8 ≤ _; omega) hx0_31.size (fun _ _ => trivial) fun u5 v7 h26 ho98 hc10 hg6 => ?_
                  have hx0_32 := hx0_31.trans (ho97.ext hc10 hx0_31.size)
                  have ho99 := ho96.chg hc10 (dj_ty ho96 ho97 (by decide))
                  have hot46 := hot45.chg hc10 (djt_ty hot45 ho97 (by decide))
                  refine lx_assign (v7) rfl rfl <| lx_nil <| wi_inBlock <| ?_
                  -- L4.1
                  refine IH11 _ _ (v7, os2 ++ [(((os2.length * os2.length : Nat) : Int)) - ((3 : Int))]) (agree_ups rfl agree_self) ⟨rfl, trivial⟩ ⟨?_, ?_, ?_, hx0_32, ?_⟩ ?_
                  · first | exact ho99 | (simpa using ho99)
                  · first | exact hot46 | (simpa using hot46)
                  · first | exact ho98 | (simpa using ho98)
                  · try dsimp only
                    rw [List.length_append]
                    show os2.length + 1 ≤ 14
                    omega
                  · simp only [List.length_append, List.length_cons, List.length_nil]; omega
                · refine lx_nil <| wi_false rfl <| wi_exit rfl <| wi_seq <| wi_reg rfl <| lx_move (vo2) rfl rfl <| lx_move (vp) rfl rfl <| lx_len rfl Try.underlying23 ho96.rd rfl <| lx_slice (E := encI) 0 hsp.length rfl eT58 rfl rfl ⟨_, rfl⟩ ho97.rd (by omega) (by omega) fun vz hs6 hso6 => ?_
                  have ho100 := sl_own ho97 (hso6 rfl).2 (by omega)
                  refine lx_assign (vz) rfl rfl <| lx_nil <| wi_seq <| wi_seq <| wi_reg rfl <| ?_
                  obtain ⟨os3, hos3⟩ : ∃ x, x = os2.take hsp.length := ⟨_, rfl⟩
                  rw [← hos3] at ho100
                  have h3l : os3.length = p.length := by rw [hos3, List.length_take]; omega
                  refine lx_assign (.int .i64 0) rfl rfl <| lx_nil <| wi_block <| ?_
                  refine wi_loop (σ := Nat × (List Int)) (rngB 241 255 [29]) (fun (ss : Nat × (List Int)) => [(29, .int .i64 ((ss.1 : Nat) : Int))]) (fun (ss : Nat × (List Int)) (hh : Heap) => OwE encHd hh h.size 70 vp hsp ∧ OT encB hh h.size 4 hsp p ∧ OwE encI hh h.size 2 vz ss.2 ∧ Ext h.size h hh ∧ (ss.1 ≤ p.length) ∧ (ss.2.length = p.length)) (fun (ss : Nat × (List Int)) => p.length - ss.1) (0, os3) ⟨rfl, trivial⟩ ⟨?_, ?_, ?_, hx0_31, ?_, ?_⟩ ?_
                  · first | exact ho96 | (simpa using ho96)
                  · first | exact hot45 | (simpa using hot45)
                  · first | exact ho100 | (simpa using ho100)
                  · try dsimp only
                    omega
                  · try dsimp only
                    exact h3l
                  rintro g13 ⟨t, os4⟩ hh13 ⟨ho101, hot47, ho102, hx0_33, ht, h4l⟩ IH12
                  dsimp only at *
                  have hl_hot47 := hot47.1
                  refine wi_seq <| wi_seq <| wi_reg rfl <| lx_move (.int .i64 ((t : Nat) : Int)) rfl rfl <| lx_move (vz) rfl rfl <| lx_len rfl Try.underlying58 ho102.rd rfl <| lx_lssS rfl rfl rfl (fun c17 => ?_) (fun c17 => ?_)
                  · refine lx_nil <| wi_true rfl <| wi_skip <| wi_seq <| wi_block <| wi_reg rfl <| lx_move (vz) rfl rfl <| lx_move (.int .i64 ((t : Nat) : Int)) rfl rfl <| lx_move (vz) rfl rfl <| lx_move (.int .i64 ((t : Nat) : Int)) rfl rfl <| lx_ix (i := t) rfl eT58 ho102.rd rfl rfl (by omega) <| lx_ld (i := t) (j := 0) (.int .i64 (gt os4 t)) rfl rfl fl2 ho102.rd (by omega) rfl rfl <| lx_remZ rfl rfl rfl (by omega) <| lx_ix (i := t) rfl eT58 ho102.rd rfl rfl (by omega) <| lx_st (i := t) ((gt os4 t).tmod ((1000000 : Int))) rfl rfl Try.sizeOf2 ho102 (by omega) rfl rfl (fun _ _ _ _ _ => trivial) fun h27 ho103 hc11 hsz5 => ?_
                    have hx0_34 := hx0_33.trans (ho102.ext hc11 hx0_33.size)
                    have ho104 := ho101.chg hc11 (dj_ty ho101 ho102 (by decide))
                    have hot48 := hot47.chg hc11 (djt_ty hot47 ho102 (by decide))
                    refine lx_nil <| wi_inBlock <| wi_reg rfl <| lx_move (.int .i64 ((t : Nat) : Int)) rfl rfl <| lx_add (((t + 1 : Nat) : Int)) rfl rfl rfl (by omega) (by omega) (by omega) <| lx_assign (.int .i64 ((t + 1 : Nat) : Int)) rfl rfl <| lx_nil <| ?_
                    -- L6.1
                    refine IH12 _ _ (t + 1, os4.set t ((gt os4 t).tmod ((1000000 : Int)))) (agree_ups rfl agree_self) ⟨rfl, trivial⟩ ⟨?_, ?_, ?_, hx0_34, ?_, ?_⟩ ?_
                    · first | exact ho104 | (simpa using ho104)
                    · first | exact hot48 | (simpa using hot48)
                    · first | exact ho103 | (simpa using ho103)
                    · try dsimp only
                      omega
                    · try dsimp only
                      rw [List.length_set]; exact h4l
                    · first | omega | (dsimp only; omega)
                  · refine lx_nil <| wi_false rfl <| wi_exit rfl <| wi_draw mo rfl (by decide +kernel) <| ?_
                    have hmd19 := Nat.mod_lt (x9) (show 0 < hsp.length by omega)
                    have hmd20 := Nat.mod_lt (y9) (show 0 < hsp.length by omega)
                    refine lx_move (.int .i64 ((x9 : Nat) : Int)) rfl rfl <| lx_conv ((x9 : Nat) : Int) rfl Try.underlying3 Try.underlying45 rfl (wrap_u64 (by omega) (by omega)) <| lx_move (vp) rfl rfl <| lx_len rfl Try.underlying23 ho101.rd rfl <| lx_conv ((hsp.length : Nat) : Int) rfl Try.underlying3 Try.underlying45 rfl (wrap_u64 (by omega) (by omega)) <| lx_rem (m := x9) (n := hsp.length) rfl rfl rfl (by omega) <| lx_conv ((x9 % hsp.length : Nat) : Int) rfl Try.underlying45 Try.underlying3 rfl (wrap_i64 (by omega) (by omega)) <| lx_move (.int .i64 ((y9 : Nat) : Int)) rfl rfl <| lx_conv ((y9 : Nat) : Int) rfl Try.underlying3 Try.underlying45 rfl (wrap_u64 (by omega) (by omega)) <| lx_move (vp) rfl rfl <| lx_len rfl Try.underlying23 ho101.rd rfl <| lx_conv ((hsp.length : Nat) : Int) rfl Try.underlying3 Try.underlying45 rfl (wrap_u64 (by omega) (by omega)) <| lx_rem (m := y9) (n := hsp.length) rfl rfl rfl (by omega) <| lx_conv ((y9 % hsp.length : Nat) : Int) rfl Try.underlying45 Try.underlying3 rfl (wrap_i64 (by omega) (by omega)) <| lx_assign (.int .i64 ((x9 % hsp.length : Nat) : Int)) rfl rfl <| lx_assign (.int .i64 ((y9 % hsp.length : Nat) : Int)) rfl rfl <| lx_nil <| wi_inBlock <| wi_reg rfl <| lx_move (.int .i64 ((kk : Nat) : Int)) rfl rfl <| lx_add (((kk + 1 : Nat) : Int)) rfl rfl rfl (by omega) (by omega) (by omega) <| lx_assign (.int .i64 ((kk + 1 : Nat) : Int)) rfl rfl <| lx_nil <| ?_
                    -- L2.5
                    refine IH2 _ _ (kk + 1, vz, os4, ((x9 % hsp.length : Nat) : Int), ((y9 % hsp.length : Nat) : Int)) (agree_ups rfl (agree_mix (rngB_sub (by decide) (by decide) rfl) (agree_ups rfl (agree_mix (rngB_sub (by decide) (by decide) rfl) (agree_ups rfl (agree_mix (rngB_sub (by decide) (by decide) rfl) (agree_ups rfl agree_self))))))) ⟨rfl, rfl, rfl, rfl, trivial⟩ ⟨?_, ?_, ?_, hx0_33, ?_, ?_⟩ ?_
                    · first | exact ho101 | (simpa using ho101)
                    · first | exact hot47 | (simpa using hot47)
                    · first | exact ho102 | (simpa using ho102)
                    · try dsimp only
                      omega
                    · try dsimp only
                      omega
                    · first | omega | (dsimp only; omega)
      · refine lx_nil <| ?_
        refine wi_cutE (σ := Unit) (rngB 142 180 [6]) (fun (_ : Unit) => []) (fun (_ : Unit) (hh : Heap) => OwE encHd hh h.size 70 vp hsp ∧ OT encB hh h.size 4 hsp p ∧ OwE encI hh h.size 2 v os ∧ Ext h.size h hh) (fun J2 => ?_) ?_
        · refine wi_false rfl <| wi_seq <| wi_reg rfl <| ?_
          have hl9 : lisE p os = lstE p.length os := if_pos hck
          have hl0 : lisE p os = 0 := by omega
          obtain ⟨_, hoL, hoB⟩ := lisE_zero hl0
          have hsu0 := goodA hsu hl0
          have hdi0 := goodA hdi hl0
          have hsul : su.length = p.length := by rw [hsu0]; exact mapR_len _ _
          have hdil : dl.length = p.length := by rw [hdi0]; exact mapR_len _ _
          have hsl2 : (sumT p.length (pb p) os).length = p.length := mapR_len _ _
          have hdl2 : (dfT p.length (pb p) os).length = p.length := mapR_len _ _
          refine lx_move (.int .i64 (lisE p os)) rfl rfl <| lx_neqF rfl rfl rfl (fun h9 => h9 hl0) <| lx_move (.bool false) rfl rfl <| lx_move (.int .i64 (lisE p os)) rfl rfl <| lx_neqF rfl rfl rfl (fun h9 => h9 hl0) <| lx_pick false (.bool false) rfl rfl rfl <| lx_move (.bool false) rfl rfl <| lx_move (vsu) rfl rfl <| lx_move (vp) rfl rfl <| lx_move (v) rfl rfl <| lx_call [vp, v] rfl rfl Try.call58 rfl (rsums_spec h13 vp hsp p v os ho45.rd hot25.rt ho46.rd (by omega) hpq hoL hoB) (fun _ _ _ => trivial) ?_
          rintro vs2 h28 ⟨_, rfl, ho105, hx13⟩
          have hx0_35 := hx0_11.trans2 hx13 hx0_11.size
          have ho106 := ho45.extS hx13
          have hot49 := hot25.extS hx13
          have ho107 := ho46.extS hx13
          have ho108 := ho47.extS hx13
          have ho109 := ho48.extS hx13
          have ho110 := ho105.base hx0_11.size
          refine lx_call [vsu, vs2] rfl rfl Try.call41 rfl (longs_spec h28 vsu su vs2 (sumT p.length (pb p) os) ho108.rd ho110.rd (by omega) (by omega)) (fun _ _ _ => trivial) ?_
          rintro _ h29 ⟨rfl, rfl⟩
          rw [decide_eq_true hsu0]
          refine lx_notB false rfl rfl rfl <| lx_pick false (.bool false) rfl rfl rfl <| lx_move (.bool false) rfl rfl <| lx_move (vd) rfl rfl <| lx_move (vp) rfl rfl <| lx_move (v) rfl rfl <| lx_call [vp, v] rfl rfl Try.call59 rfl (rdiff_spec h28 vp hsp p v os ho106.rd hot49.rt ho107.rd (by omega) hpq hio hpm hoL hoB) (fun _ _ _ => trivial) ?_
          rintro vd2 h30 ⟨_, rfl, ho111, hx14⟩
          have hx0_36 := hx0_35.trans2 hx14 hx0_35.size
          have ho112 := ho106.extS hx14
          have hot50 := hot49.extS hx14
          have ho113 := ho107.extS hx14
          have ho114 := ho108.extS hx14
          have ho115 := ho109.extS hx14
          have ho116 := ho110.extS hx14
          have ho117 := ho111.base hx0_35.size
          refine lx_call [vd, vd2] rfl rfl Try.call41 rfl (longs_spec h30 vd dl vd2 (dfT p.length (pb p) os) ho115.rd ho117.rd (by omega) (by omega)) (fun _ _ _ => trivial) ?_
          rintro _ h31 ⟨rfl, rfl⟩
          rw [decide_eq_true hdi0]
          refine lx_notB false rfl rfl rfl <| lx_pick false (.bool false) rfl rfl rfl <| lx_nil <| wi_false rfl <| wi_skip <| ?_
          -- Jt141.1
          refine J2 _ _ () (agree_ups rfl agree_upsJ) trivial ⟨?_, ?_, ?_, hx0_36⟩
          · first | exact ho112 | (simpa using ho112)
          · first | exact hot50 | (simpa using hot50)
          · first | exact ho113 | (simpa using ho113)
        rintro g14 _ hh14 ⟨ho118, hot51, ho119, hx0_37⟩
        have hl_hot51 := hot51.1
        refine wi_seq <| wi_reg rfl <| lx_move (vp) rfl rfl <| lx_move (.int .i64 x) rfl rfl <| lx_move (.int .i64 y) rfl rfl <| lx_call [vp, .int .i64 x, .int .i64 y] rfl rfl Try.call50 rfl (ochains_spec hh14 vp hsp p x y ho118.rd hot51.rt (by omega) hle) (fun _ _ _ => trivial) ?_
        rintro _ h32 ⟨vc, cs, rfl, ho120, hcr, hx15⟩
        have hx0_38 := hx0_37.trans2 hx15 hx0_37.size
        have ho121 := ho118.extS hx15
        have hot52 := hot51.extS hx15
        have ho122 := ho119.extS hx15
        have ho123 := ho120.base hx0_37.size
        refine lx_move (.tuple #[vc, .int .i64 (chaC p x y)]) rfl rfl <| lx_extract (vc) rfl rfl rfl <| lx_extract (.int .i64 (chaC p x y)) rfl rfl rfl <| lx_assign (vc) rfl rfl <| lx_assign (.int .i64 (chaC p x y)) rfl rfl <| lx_nil <| wi_seq <| wi_seq <| wi_reg rfl <| lx_move (.int .i64 x) rfl rfl <| lx_lssS rfl rfl rfl (fun c18 => ?_) (fun c18 => ?_)
        · refine lx_move (.bool true) rfl rfl <| lx_skip rfl <| lx_skip rfl <| lx_pick true (.bool true) rfl rfl rfl <| lx_move (.bool true) rfl rfl <| lx_skip rfl <| lx_skip rfl <| lx_skip rfl <| lx_skip rfl <| lx_pick true (.bool true) rfl rfl rfl <| lx_move (.bool true) rfl rfl <| lx_skip rfl <| lx_skip rfl <| lx_skip rfl <| lx_skip rfl <| lx_pick true (.bool true) rfl rfl rfl <| lx_nil <| wi_true rfl <| wi_seq <| wi_reg rfl <| ?_
          have hc1 : chaC p x y = 1 := by unfold chaC; rw [if_pos hck, if_neg (fun h9 => by omega)]
          have hcs0 : cs.length = 0 := by
            rcases hcr with ⟨_, h9⟩ | ⟨h9, _⟩
            · rw [h9]; rfl
            · omega
          refine lx_move (.int .i64 (chaC p x y)) rfl rfl <| lx_neqF rfl rfl rfl (fun h9 => h9 hc1) <| lx_move (.bool false) rfl rfl <| lx_move (vc) rfl rfl <| lx_len rfl Try.underlying58 ho123.rd rfl <| lx_neqF rfl rfl rfl (by omega) <| lx_pick false (.bool false) rfl rfl rfl <| lx_nil <| wi_false rfl <| wi_skip <| wi_seq <| wi_block <| ?_
          refine wi_loop (σ := Value × (List Int)) (rngB 223 237 [18]) (fun (ss : Value × (List Int)) => [(18, ss.1)]) (fun (ss : Value × (List Int)) (hh : Heap) => OwE encHd hh h.size 70 vp hsp ∧ OT encB hh h.size 4 hsp p ∧ OwE encI hh h.size 2 ss.1 ss.2 ∧ Ext h.size h hh ∧ (ss.2.length ≤ 14)) (fun (ss : Value × (List Int)) => p.length - ss.2.length) (v, os) ⟨rfl, trivial⟩ ⟨?_, ?_, ?_, hx0_38, ?_⟩ ?_
          · first | exact ho121 | (simpa using ho121)
          · first | exact hot52 | (simpa using hot52)
          · first | exact ho122 | (simpa using ho122)
          · try dsimp only
            exact hol
          rintro g15 ⟨vo2, os2⟩ hh15 ⟨ho124, hot53, ho125, hx0_39, h2l⟩ IH13
          dsimp only at *
          have hl_hot53 := hot53.1
          refine wi_seq <| wi_seq <| wi_reg rfl <| lx_move (vo2) rfl rfl <| lx_len rfl Try.underlying58 ho125.rd rfl <| lx_move (vp) rfl rfl <| lx_len rfl Try.underlying23 ho124.rd rfl <| lx_lssS rfl rfl rfl (fun c19 => ?_) (fun c19 => ?_)
          · refine lx_nil <| wi_true rfl <| wi_skip <| wi_block <| wi_reg rfl <| ?_
            have hmm : os2.length * os2.length ≤ 14 * 14 := Nat.mul_le_mul (by omega) (by omega)
            refine lx_move (vo2) rfl rfl <| lx_move (vo2) rfl rfl <| lx_len rfl Try.underlying58 ho125.rd rfl <| lx_move (vo2) rfl rfl <| lx_len rfl Try.underlying58 ho125.rd rfl <| lx_mul (((os2.length * os2.length : Nat) : Int)) rfl rfl rfl (by omega) (by omega) (by omega) <| lx_sub ((((os2.length * os2.length : Nat) : Int)) - ((3 : Int))) rfl rfl rfl (by omega) (by omega) (by omega) <| lx_appendL (E := encI) (B := h.size) [(((os2.length * os2.length : Nat) : Int)) - ((3 : Int))] [.int .i64 ((((os2.length * os2.length : Nat) : Int)) - ((3 : Int)))] rfl rfl (fun _ => rfl) rfl eT58 rfl rfl rfl rfl ho125 (fun _ => rfl) (by show os2.length + 1 ≤ _; omega) (by show (os2.length + 1) * 8 ≤ _; omega) hx0_39.size (fun _ _ => trivial) fun u6 v8 h33 ho126 hc12 hg7 => ?_
            have hx0_40 := hx0_39.trans (ho125.ext hc12 hx0_39.size)
            have ho127 := ho124.chg hc12 (dj_ty ho124 ho125 (by decide))
            have hot54 := hot53.chg hc12 (djt_ty hot53 ho125 (by decide))
            refine lx_assign (v8) rfl rfl <| lx_nil <| wi_inBlock <| ?_
            -- L4.1
            refine IH13 _ _ (v8, os2 ++ [(((os2.length * os2.length : Nat) : Int)) - ((3 : Int))]) (agree_ups rfl agree_self) ⟨rfl, trivial⟩ ⟨?_, ?_, ?_, hx0_40, ?_⟩ ?_
            · first | exact ho127 | (simpa using ho127)
            · first | exact hot54 | (simpa using hot54)
            · first | exact ho126 | (simpa using ho126)
            · try dsimp only
              rw [List.length_append]
              show os2.length + 1 ≤ 14
              omega
            · simp only [List.length_append, List.length_cons, List.length_nil]; omega
          · refine lx_nil <| wi_false rfl <| wi_exit rfl <| wi_seq <| wi_reg rfl <| lx_move (vo2) rfl rfl <| lx_move (vp) rfl rfl <| lx_len rfl Try.underlying23 ho124.rd rfl <| lx_slice (E := encI) 0 hsp.length rfl eT58 rfl rfl ⟨_, rfl⟩ ho125.rd (by omega) (by omega) fun vz hs7 hso7 => ?_
            have ho128 := sl_own ho125 (hso7 rfl).2 (by omega)
            refine lx_assign (vz) rfl rfl <| lx_nil <| wi_seq <| wi_seq <| wi_reg rfl <| ?_
            obtain ⟨os3, hos3⟩ : ∃ x, x = os2.take hsp.length := ⟨_, rfl⟩
            rw [← hos3] at ho128
            have h3l : os3.length = p.length := by rw [hos3, List.length_take]; omega
            refine lx_assign (.int .i64 0) rfl rfl <| lx_nil <| wi_block <| ?_
            refine wi_loop (σ := Nat × (List Int)) (rngB 241 255 [29]) (fun (ss : Nat × (List Int)) => [(29, .int .i64 ((ss.1 : Nat) : Int))]) (fun (ss : Nat × (List Int)) (hh : Heap) => OwE encHd hh h.size 70 vp hsp ∧ OT encB hh h.size 4 hsp p ∧ OwE encI hh h.size 2 vz ss.2 ∧ Ext h.size h hh ∧ (ss.1 ≤ p.length) ∧ (ss.2.length = p.length)) (fun (ss : Nat × (List Int)) => p.length - ss.1) (0, os3) ⟨rfl, trivial⟩ ⟨?_, ?_, ?_, hx0_39, ?_, ?_⟩ ?_
            · first | exact ho124 | (simpa using ho124)
            · first | exact hot53 | (simpa using hot53)
            · first | exact ho128 | (simpa using ho128)
            · try dsimp only
              omega
            · try dsimp only
              exact h3l
            rintro g16 ⟨t, os4⟩ hh16 ⟨ho129, hot55, ho130, hx0_41, ht, h4l⟩ IH14
            dsimp only at *
            have hl_hot55 := hot55.1
            refine wi_seq <| wi_seq <| wi_reg rfl <| lx_move (.int .i64 ((t : Nat) : Int)) rfl rfl <| lx_move (vz) rfl rfl <| lx_len rfl Try.underlying58 ho130.rd rfl <| lx_lssS rfl rfl rfl (fun c20 => ?_) (fun c20 => ?_)
            · refine lx_nil <| wi_true rfl <| wi_skip <| wi_seq <| wi_block <| wi_reg rfl <| lx_move (vz) rfl rfl <| lx_move (.int .i64 ((t : Nat) : Int)) rfl rfl <| lx_move (vz) rfl rfl <| lx_move (.int .i64 ((t : Nat) : Int)) rfl rfl <| lx_ix (i := t) rfl eT58 ho130.rd rfl rfl (by omega) <| lx_ld (i := t) (j := 0) (.int .i64 (gt os4 t)) rfl rfl fl2 ho130.rd (by omega) rfl rfl <| lx_remZ rfl rfl rfl (by omega) <| lx_ix (i := t) rfl eT58 ho130.rd rfl rfl (by omega) <| lx_st (i := t) ((gt os4 t).tmod ((1000000 : Int))) rfl rfl Try.sizeOf2 ho130 (by omega) rfl rfl (fun _ _ _ _ _ => trivial) fun h34 ho131 hc13 hsz6 => ?_
              have hx0_42 := hx0_41.trans (ho130.ext hc13 hx0_41.size)
              have ho132 := ho129.chg hc13 (dj_ty ho129 ho130 (by decide))
              have hot56 := hot55.chg hc13 (djt_ty hot55 ho130 (by decide))
              refine lx_nil <| wi_inBlock <| wi_reg rfl <| lx_move (.int .i64 ((t : Nat) : Int)) rfl rfl <| lx_add (((t + 1 : Nat) : Int)) rfl rfl rfl (by omega) (by omega) (by omega) <| lx_assign (.int .i64 ((t + 1 : Nat) : Int)) rfl rfl <| lx_nil <| ?_
              -- L6.1
              refine IH14 _ _ (t + 1, os4.set t ((gt os4 t).tmod ((1000000 : Int)))) (agree_ups rfl agree_self) ⟨rfl, trivial⟩ ⟨?_, ?_, ?_, hx0_42, ?_, ?_⟩ ?_
              · first | exact ho132 | (simpa using ho132)
              · first | exact hot56 | (simpa using hot56)
              · first | exact ho131 | (simpa using ho131)
              · try dsimp only
                omega
              · try dsimp only
                rw [List.length_set]; exact h4l
              · first | omega | (dsimp only; omega)
            · refine lx_nil <| wi_false rfl <| wi_exit rfl <| wi_draw mo rfl (by decide +kernel) <| ?_
              have hmd19 := Nat.mod_lt (ur x) (show 0 < hsp.length by omega)
              have hmd20 := Nat.mod_lt (ur y) (show 0 < hsp.length by omega)
              refine lx_move (.int .i64 x) rfl rfl <| lx_conv ((ur x : Nat) : Int) rfl Try.underlying3 Try.underlying45 rfl (wrap_ur _) <| lx_move (vp) rfl rfl <| lx_len rfl Try.underlying23 ho129.rd rfl <| lx_conv ((hsp.length : Nat) : Int) rfl Try.underlying3 Try.underlying45 rfl (wrap_u64 (by omega) (by omega)) <| lx_rem (m := ur x) (n := hsp.length) rfl rfl rfl (by omega) <| lx_conv (((ur x) % hsp.length : Nat) : Int) rfl Try.underlying45 Try.underlying3 rfl (wrap_i64 (by omega) (by omega)) <| lx_move (.int .i64 y) rfl rfl <| lx_conv ((ur y : Nat) : Int) rfl Try.underlying3 Try.underlying45 rfl (wrap_ur _) <| lx_move (vp) rfl rfl <| lx_len rfl Try.underlying23 ho129.rd rfl <| lx_conv ((hsp.length : Nat) : Int) rfl Try.underlying3 Try.underlying45 rfl (wrap_u64 (by omega) (by omega)) <| lx_rem (m := ur y) (n := hsp.length) rfl rfl rfl (by omega) <| lx_conv (((ur y) % hsp.length : Nat) : Int) rfl Try.underlying45 Try.underlying3 rfl (wrap_i64 (by omega) (by omega)) <| lx_assign (.int .i64 (((ur x) % hsp.length : Nat) : Int)) rfl rfl <| lx_assign (.int .i64 (((ur y) % hsp.length : Nat) : Int)) rfl rfl <| lx_nil <| wi_inBlock <| wi_reg rfl <| lx_move (.int .i64 ((kk : Nat) : Int)) rfl rfl <| lx_add (((kk + 1 : Nat) : Int)) rfl rfl rfl (by omega) (by omega) (by omega) <| lx_assign (.int .i64 ((kk + 1 : Nat) : Int)) rfl rfl <| lx_nil <| ?_
              -- L2.6
              refine IH2 _ _ (kk + 1, vz, os4, (((ur x) % hsp.length : Nat) : Int), (((ur y) % hsp.length : Nat) : Int)) (agree_ups rfl (agree_mix (rngB_sub (by decide) (by decide) rfl) (agree_ups rfl (agree_mix (rngB_sub (by decide) (by decide) rfl) (agree_ups rfl (agree_mix (rngB_sub (by decide) (by decide) rfl) (agree_ups rfl agree_self))))))) ⟨rfl, rfl, rfl, rfl, trivial⟩ ⟨?_, ?_, ?_, hx0_41, ?_, ?_⟩ ?_
              · first | exact ho129 | (simpa using ho129)
              · first | exact hot55 | (simpa using hot55)
              · first | exact ho130 | (simpa using ho130)
              · try dsimp only
                omega
              · try dsimp only
                omega
              · first | omega | (dsimp only; omega)
        · refine lx_move (.bool false) rfl rfl <| lx_move (.int .i64 y) rfl rfl <| lx_lssS rfl rfl rfl (fun c21 => ?_) (fun c21 => ?_)
          · refine lx_pick false (.bool true) rfl rfl rfl <| lx_move (.bool true) rfl rfl <| lx_skip rfl <| lx_skip rfl <| lx_skip rfl <| lx_skip rfl <| lx_pick true (.bool true) rfl rfl rfl <| lx_move (.bool true) rfl rfl <| lx_skip rfl <| lx_skip rfl <| lx_skip rfl <| lx_skip rfl <| lx_pick true (.bool true) rfl rfl rfl <| lx_nil <| wi_true rfl <| wi_seq <| wi_reg rfl <| ?_
            have hc1 : chaC p x y = 1 := by unfold chaC; rw [if_pos hck, if_neg (fun h9 => by omega)]
            have hcs0 : cs.length = 0 := by
              rcases hcr with ⟨_, h9⟩ | ⟨h9, _⟩
              · rw [h9]; rfl
              · omega
            refine lx_move (.int .i64 (chaC p x y)) rfl rfl <| lx_neqF rfl rfl rfl (fun h9 => h9 hc1) <| lx_move (.bool false) rfl rfl <| lx_move (vc) rfl rfl <| lx_len rfl Try.underlying58 ho123.rd rfl <| lx_neqF rfl rfl rfl (by omega) <| lx_pick false (.bool false) rfl rfl rfl <| lx_nil <| wi_false rfl <| wi_skip <| wi_seq <| wi_block <| ?_
            refine wi_loop (σ := Value × (List Int)) (rngB 223 237 [18]) (fun (ss : Value × (List Int)) => [(18, ss.1)]) (fun (ss : Value × (List Int)) (hh : Heap) => OwE encHd hh h.size 70 vp hsp ∧ OT encB hh h.size 4 hsp p ∧ OwE encI hh h.size 2 ss.1 ss.2 ∧ Ext h.size h hh ∧ (ss.2.length ≤ 14)) (fun (ss : Value × (List Int)) => p.length - ss.2.length) (v, os) ⟨rfl, trivial⟩ ⟨?_, ?_, ?_, hx0_38, ?_⟩ ?_
            · first | exact ho121 | (simpa using ho121)
            · first | exact hot52 | (simpa using hot52)
            · first | exact ho122 | (simpa using ho122)
            · try dsimp only
              exact hol
            rintro g17 ⟨vo2, os2⟩ hh17 ⟨ho133, hot57, ho134, hx0_43, h2l⟩ IH15
            dsimp only at *
            have hl_hot57 := hot57.1
            refine wi_seq <| wi_seq <| wi_reg rfl <| lx_move (vo2) rfl rfl <| lx_len rfl Try.underlying58 ho134.rd rfl <| lx_move (vp) rfl rfl <| lx_len rfl Try.underlying23 ho133.rd rfl <| lx_lssS rfl rfl rfl (fun c22 => ?_) (fun c22 => ?_)
            · refine lx_nil <| wi_true rfl <| wi_skip <| wi_block <| wi_reg rfl <| ?_
              have hmm : os2.length * os2.length ≤ 14 * 14 := Nat.mul_le_mul (by omega) (by omega)
              refine lx_move (vo2) rfl rfl <| lx_move (vo2) rfl rfl <| lx_len rfl Try.underlying58 ho134.rd rfl <| lx_move (vo2) rfl rfl <| lx_len rfl Try.underlying58 ho134.rd rfl <| lx_mul (((os2.length * os2.length : Nat) : Int)) rfl rfl rfl (by omega) (by omega) (by omega) <| lx_sub ((((os2.length * os2.length : Nat) : Int)) - ((3 : Int))) rfl rfl rfl (by omega) (by omega) (by omega) <| lx_appendL (E := encI) (B := h.size) [(((os2.length * os2.length : Nat) : Int)) - ((3 : Int))] [.int .i64 ((((os2.length * os2.length : Nat) : Int)) - ((3 : Int)))] rfl rfl (fun _ => rfl) rfl eT58 rfl rfl rfl rfl ho134 (fun _ => rfl) (by show os2.length + 1 ≤ _; omega) (by show (os2.length + 1) * 8 ≤ _; omega) hx0_43.size (fun _ _ => trivial) fun u7 v9 h35 ho135 hc14 hg8 => ?_
              have hx0_44 := hx0_43.trans (ho134.ext hc14 hx0_43.size)
              have ho136 := ho133.chg hc14 (dj_ty ho133 ho134 (by decide))
              have hot58 := hot57.chg hc14 (djt_ty hot57 ho134 (by decide))
              refine lx_assign (v9) rfl rfl <| lx_nil <| wi_inBlock <| ?_
              -- L4.1
              refine IH15 _ _ (v9, os2 ++ [(((os2.length * os2.length : Nat) : Int)) - ((3 : Int))]) (agree_ups rfl agree_self) ⟨rfl, trivial⟩ ⟨?_, ?_, ?_, hx0_44, ?_⟩ ?_
              · first | exact ho136 | (simpa using ho136)
              · first | exact hot58 | (simpa using hot58)
              · first | exact ho135 | (simpa using ho135)
              · try dsimp only
                rw [List.length_append]
                show os2.length + 1 ≤ 14
                omega
              · simp only [List.length_append, List.length_cons, List.length_nil]; omega
            · refine lx_nil <| wi_false rfl <| wi_exit rfl <| wi_seq <| wi_reg rfl <| lx_move (vo2) rfl rfl <| lx_move (vp) rfl rfl <| lx_len rfl Try.underlying23 ho133.rd rfl <| lx_slice (E := encI) 0 hsp.length rfl eT58 rfl rfl ⟨_, rfl⟩ ho134.rd (by omega) (by omega) fun vz hs8 hso8 => ?_
              have ho137 := sl_own ho134 (hso8 rfl).2 (by omega)
              refine lx_assign (vz) rfl rfl <| lx_nil <| wi_seq <| wi_seq <| wi_reg rfl <| ?_
              obtain ⟨os3, hos3⟩ : ∃ x, x = os2.take hsp.length := ⟨_, rfl⟩
              rw [← hos3] at ho137
              have h3l : os3.length = p.length := by rw [hos3, List.length_take]; omega
              refine lx_assign (.int .i64 0) rfl rfl <| lx_nil <| wi_block <| ?_
              refine wi_loop (σ := Nat × (List Int)) (rngB 241 255 [29]) (fun (ss : Nat × (List Int)) => [(29, .int .i64 ((ss.1 : Nat) : Int))]) (fun (ss : Nat × (List Int)) (hh : Heap) => OwE encHd hh h.size 70 vp hsp ∧ OT encB hh h.size 4 hsp p ∧ OwE encI hh h.size 2 vz ss.2 ∧ Ext h.size h hh ∧ (ss.1 ≤ p.length) ∧ (ss.2.length = p.length)) (fun (ss : Nat × (List Int)) => p.length - ss.1) (0, os3) ⟨rfl, trivial⟩ ⟨?_, ?_, ?_, hx0_43, ?_, ?_⟩ ?_
              · first | exact ho133 | (simpa using ho133)
              · first | exact hot57 | (simpa using hot57)
              · first | exact ho137 | (simpa using ho137)
              · try dsimp only
                omega
              · try dsimp only
                exact h3l
              rintro g18 ⟨t, os4⟩ hh18 ⟨ho138, hot59, ho139, hx0_45, ht, h4l⟩ IH16
              dsimp only at *
              have hl_hot59 := hot59.1
              refine wi_seq <| wi_seq <| wi_reg rfl <| lx_move (.int .i64 ((t : Nat) : Int)) rfl rfl <| lx_move (vz) rfl rfl <| lx_len rfl Try.underlying58 ho139.rd rfl <| lx_lssS rfl rfl rfl (fun c23 => ?_) (fun c23 => ?_)
              · refine lx_nil <| wi_true rfl <| wi_skip <| wi_seq <| wi_block <| wi_reg rfl <| lx_move (vz) rfl rfl <| lx_move (.int .i64 ((t : Nat) : Int)) rfl rfl <| lx_move (vz) rfl rfl <| lx_move (.int .i64 ((t : Nat) : Int)) rfl rfl <| lx_ix (i := t) rfl eT58 ho139.rd rfl rfl (by omega) <| lx_ld (i := t) (j := 0) (.int .i64 (gt os4 t)) rfl rfl fl2 ho139.rd (by omega) rfl rfl <| lx_remZ rfl rfl rfl (by omega) <| lx_ix (i := t) rfl eT58 ho139.rd rfl rfl (by omega) <| lx_st (i := t) ((gt os4 t).tmod ((1000000 : Int))) rfl rfl Try.sizeOf2 ho139 (by omega) rfl rfl (fun _ _ _ _ _ => trivial) fun h36 ho140 hc15 hsz7 => ?_
                have hx0_46 := hx0_45.trans (ho139.ext hc15 hx0_45.size)
                have ho141 := ho138.chg hc15 (dj_ty ho138 ho139 (by decide))
                have hot60 := hot59.chg hc15 (djt_ty hot59 ho139 (by decide))
                refine lx_nil <| wi_inBlock <| wi_reg rfl <| lx_move (.int .i64 ((t : Nat) : Int)) rfl rfl <| lx_add (((t + 1 : Nat) : Int)) rfl rfl rfl (by omega) (by omega) (by omega) <| lx_assign (.int .i64 ((t + 1 : Nat) : Int)) rfl rfl <| lx_nil <| ?_
                -- L6.1
                refine IH16 _ _ (t + 1, os4.set t ((gt os4 t).tmod ((1000000 : Int)))) (agree_ups rfl agree_self) ⟨rfl, trivial⟩ ⟨?_, ?_, ?_, hx0_46, ?_, ?_⟩ ?_
                · first | exact ho141 | (simpa using ho141)
                · first | exact hot60 | (simpa using hot60)
                · first | exact ho140 | (simpa using ho140)
                · try dsimp only
                  omega
                · try dsimp only
                  rw [List.length_set]; exact h4l
                · first | omega | (dsimp only; omega)
              · refine lx_nil <| wi_false rfl <| wi_exit rfl <| wi_draw mo rfl (by decide +kernel) <| ?_
                have hmd19 := Nat.mod_lt (ur x) (show 0 < hsp.length by omega)
                have hmd20 := Nat.mod_lt (ur y) (show 0 < hsp.length by omega)
                refine lx_move (.int .i64 x) rfl rfl <| lx_conv ((ur x : Nat) : Int) rfl Try.underlying3 Try.underlying45 rfl (wrap_ur _) <| lx_move (vp) rfl rfl <| lx_len rfl Try.underlying23 ho138.rd rfl <| lx_conv ((hsp.length : Nat) : Int) rfl Try.underlying3 Try.underlying45 rfl (wrap_u64 (by omega) (by omega)) <| lx_rem (m := ur x) (n := hsp.length) rfl rfl rfl (by omega) <| lx_conv (((ur x) % hsp.length : Nat) : Int) rfl Try.underlying45 Try.underlying3 rfl (wrap_i64 (by omega) (by omega)) <| lx_move (.int .i64 y) rfl rfl <| lx_conv ((ur y : Nat) : Int) rfl Try.underlying3 Try.underlying45 rfl (wrap_ur _) <| lx_move (vp) rfl rfl <| lx_len rfl Try.underlying23 ho138.rd rfl <| lx_conv ((hsp.length : Nat) : Int) rfl Try.underlying3 Try.underlying45 rfl (wrap_u64 (by omega) (by omega)) <| lx_rem (m := ur y) (n := hsp.length) rfl rfl rfl (by omega) <| lx_conv (((ur y) % hsp.length : Nat) : Int) rfl Try.underlying45 Try.underlying3 rfl (wrap_i64 (by omega) (by omega)) <| lx_assign (.int .i64 (((ur x) % hsp.length : Nat) : Int)) rfl rfl <| lx_assign (.int .i64 (((ur y) % hsp.length : Nat) : Int)) rfl rfl <| lx_nil <| wi_inBlock <| wi_reg rfl <| lx_move (.int .i64 ((kk : Nat) : Int)) rfl rfl <| lx_add (((kk + 1 : Nat) : Int)) rfl rfl rfl (by omega) (by omega) (by omega) <| lx_assign (.int .i64 ((kk + 1 : Nat) : Int)) rfl rfl <| lx_nil <| ?_
                -- L2.7
                refine IH2 _ _ (kk + 1, vz, os4, (((ur x) % hsp.length : Nat) : Int), (((ur y) % hsp.length : Nat) : Int)) (agree_ups rfl (agree_mix (rngB_sub (by decide) (by decide) rfl) (agree_ups rfl (agree_mix (rngB_sub (by decide) (by decide) rfl) (agree_ups rfl (agree_mix (rngB_sub (by decide) (by decide) rfl) (agree_ups rfl agree_self))))))) ⟨rfl, rfl, rfl, rfl, trivial⟩ ⟨?_, ?_, ?_, hx0_45, ?_, ?_⟩ ?_
                · first | exact ho138 | (simpa using ho138)
                · first | exact hot59 | (simpa using hot59)
                · first | exact ho139 | (simpa using ho139)
                · try dsimp only
                  omega
                · try dsimp only
                  omega
                · first | omega | (dsimp only; omega)
          · refine lx_pick false (.bool false) rfl rfl rfl <| lx_move (.bool false) rfl rfl <| lx_move (.int .i64 x) rfl rfl <| lx_move (vp) rfl rfl <| lx_len rfl Try.underlying23 ho121.rd rfl <| lx_geqS rfl rfl rfl (fun c24 => ?_) (fun c24 => ?_)
            · refine lx_pick false (.bool true) rfl rfl rfl <| lx_move (.bool true) rfl rfl <| lx_skip rfl <| lx_skip rfl <| lx_skip rfl <| lx_skip rfl <| lx_pick true (.bool true) rfl rfl rfl <| lx_nil <| wi_true rfl <| wi_seq <| wi_reg rfl <| ?_
              have hc1 : chaC p x y = 1 := by unfold chaC; rw [if_pos hck, if_neg (fun h9 => by omega)]
              have hcs0 : cs.length = 0 := by
                rcases hcr with ⟨_, h9⟩ | ⟨h9, _⟩
                · rw [h9]; rfl
                · omega
              refine lx_move (.int .i64 (chaC p x y)) rfl rfl <| lx_neqF rfl rfl rfl (fun h9 => h9 hc1) <| lx_move (.bool false) rfl rfl <| lx_move (vc) rfl rfl <| lx_len rfl Try.underlying58 ho123.rd rfl <| lx_neqF rfl rfl rfl (by omega) <| lx_pick false (.bool false) rfl rfl rfl <| lx_nil <| wi_false rfl <| wi_skip <| wi_seq <| wi_block <| ?_
              refine wi_loop (σ := Value × (List Int)) (rngB 223 237 [18]) (fun (ss : Value × (List Int)) => [(18, ss.1)]) (fun (ss : Value × (List Int)) (hh : Heap) => OwE encHd hh h.size 70 vp hsp ∧ OT encB hh h.size 4 hsp p ∧ OwE encI hh h.size 2 ss.1 ss.2 ∧ Ext h.size h hh ∧ (ss.2.length ≤ 14)) (fun (ss : Value × (List Int)) => p.length - ss.2.length) (v, os) ⟨rfl, trivial⟩ ⟨?_, ?_, ?_, hx0_38, ?_⟩ ?_
              · first | exact ho121 | (simpa using ho121)
              · first | exact hot52 | (simpa using hot52)
              · first | exact ho122 | (simpa using ho122)
              · try dsimp only
                exact hol
              rintro g19 ⟨vo2, os2⟩ hh19 ⟨ho142, hot61, ho143, hx0_47, h2l⟩ IH17
              dsimp only at *
              have hl_hot61 := hot61.1
              refine wi_seq <| wi_seq <| wi_reg rfl <| lx_move (vo2) rfl rfl <| lx_len rfl Try.underlying58 ho143.rd rfl <| lx_move (vp) rfl rfl <| lx_len rfl Try.underlying23 ho142.rd rfl <| lx_lssS rfl rfl rfl (fun c25 => ?_) (fun c25 => ?_)
              · refine lx_nil <| wi_true rfl <| wi_skip <| wi_block <| wi_reg rfl <| ?_
                have hmm : os2.length * os2.length ≤ 14 * 14 := Nat.mul_le_mul (by omega) (by omega)
                refine lx_move (vo2) rfl rfl <| lx_move (vo2) rfl rfl <| lx_len rfl Try.underlying58 ho143.rd rfl <| lx_move (vo2) rfl rfl <| lx_len rfl Try.underlying58 ho143.rd rfl <| lx_mul (((os2.length * os2.length : Nat) : Int)) rfl rfl rfl (by omega) (by omega) (by omega) <| lx_sub ((((os2.length * os2.length : Nat) : Int)) - ((3 : Int))) rfl rfl rfl (by omega) (by omega) (by omega) <| lx_appendL (E := encI) (B := h.size) [(((os2.length * os2.length : Nat) : Int)) - ((3 : Int))] [.int .i64 ((((os2.length * os2.length : Nat) : Int)) - ((3 : Int)))] rfl rfl (fun _ => rfl) rfl eT58 rfl rfl rfl rfl ho143 (fun _ => rfl) (by show os2.length + 1 ≤ _; omega) (by show (os2.length + 1) * 8 ≤ _; omega) hx0_47.size (fun _ _ => trivial) fun u8 v10 h37 ho144 hc16 hg9 => ?_
                have hx0_48 := hx0_47.trans (ho143.ext hc16 hx0_47.size)
                have ho145 := ho142.chg hc16 (dj_ty ho142 ho143 (by decide))
                have hot62 := hot61.chg hc16 (djt_ty hot61 ho143 (by decide))
                refine lx_assign (v10) rfl rfl <| lx_nil <| wi_inBlock <| ?_
                -- L4.1
                refine IH17 _ _ (v10, os2 ++ [(((os2.length * os2.length : Nat) : Int)) - ((3 : Int))]) (agree_ups rfl agree_self) ⟨rfl, trivial⟩ ⟨?_, ?_, ?_, hx0_48, ?_⟩ ?_
                · first | exact ho145 | (simpa using ho145)
                · first | exact hot62 | (simpa using hot62)
                · first | exact ho144 | (simpa using ho144)
                · try dsimp only
                  rw [List.length_append]
                  show os2.length + 1 ≤ 14
                  omega
                · simp only [List.length_append, List.length_cons, List.length_nil]; omega
              · refine lx_nil <| wi_false rfl <| wi_exit rfl <| wi_seq <| wi_reg rfl <| lx_move (vo2) rfl rfl <| lx_move (vp) rfl rfl <| lx_len rfl Try.underlying23 ho142.rd rfl <| lx_slice (E := encI) 0 hsp.length rfl eT58 rfl rfl ⟨_, rfl⟩ ho143.rd (by omega) (by omega) fun vz hs9 hso9 => ?_
                have ho146 := sl_own ho143 (hso9 rfl).2 (by omega)
                refine lx_assign (vz) rfl rfl <| lx_nil <| wi_seq <| wi_seq <| wi_reg rfl <| ?_
                obtain ⟨os3, hos3⟩ : ∃ x, x = os2.take hsp.length := ⟨_, rfl⟩
                rw [← hos3] at ho146
                have h3l : os3.length = p.length := by rw [hos3, List.length_take]; omega
                refine lx_assign (.int .i64 0) rfl rfl <| lx_nil <| wi_block <| ?_
                refine wi_loop (σ := Nat × (List Int)) (rngB 241 255 [29]) (fun (ss : Nat × (List Int)) => [(29, .int .i64 ((ss.1 : Nat) : Int))]) (fun (ss : Nat × (List Int)) (hh : Heap) => OwE encHd hh h.size 70 vp hsp ∧ OT encB hh h.size 4 hsp p ∧ OwE encI hh h.size 2 vz ss.2 ∧ Ext h.size h hh ∧ (ss.1 ≤ p.length) ∧ (ss.2.length = p.length)) (fun (ss : Nat × (List Int)) => p.length - ss.1) (0, os3) ⟨rfl, trivial⟩ ⟨?_, ?_, ?_, hx0_47, ?_, ?_⟩ ?_
                · first | exact ho142 | (simpa using ho142)
                · first | exact hot61 | (simpa using hot61)
                · first | exact ho146 | (simpa using ho146)
                · try dsimp only
                  omega
                · try dsimp only
                  exact h3l
                rintro g20 ⟨t, os4⟩ hh20 ⟨ho147, hot63, ho148, hx0_49, ht, h4l⟩ IH18
                dsimp only at *
                have hl_hot63 := hot63.1
                refine wi_seq <| wi_seq <| wi_reg rfl <| lx_move (.int .i64 ((t : Nat) : Int)) rfl rfl <| lx_move (vz) rfl rfl <| lx_len rfl Try.underlying58 ho148.rd rfl <| lx_lssS rfl rfl rfl (fun c26 => ?_) (fun c26 => ?_)
                · refine lx_nil <| wi_true rfl <| wi_skip <| wi_seq <| wi_block <| wi_reg rfl <| lx_move (vz) rfl rfl <| lx_move (.int .i64 ((t : Nat) : Int)) rfl rfl <| lx_move (vz) rfl rfl <| lx_move (.int .i64 ((t : Nat) : Int)) rfl rfl <| lx_ix (i := t) rfl eT58 ho148.rd rfl rfl (by omega) <| lx_ld (i := t) (j := 0) (.int .i64 (gt os4 t)) rfl rfl fl2 ho148.rd (by omega) rfl rfl <| lx_remZ rfl rfl rfl (by omega) <| lx_ix (i := t) rfl eT58 ho148.rd rfl rfl (by omega) <| lx_st (i := t) ((gt os4 t).tmod ((1000000 : Int))) rfl rfl Try.sizeOf2 ho148 (by omega) rfl rfl (fun _ _ _ _ _ => trivial) fun h38 ho149 hc17 hsz8 => ?_
                  have hx0_50 := hx0_49.trans (ho148.ext hc17 hx0_49.size)
                  have ho150 := ho147.chg hc17 (dj_ty ho147 ho148 (by decide))
                  have hot64 := hot63.chg hc17 (djt_ty hot63 ho148 (by decide))
                  refine lx_nil <| wi_inBlock <| wi_reg rfl <| lx_move (.int .i64 ((t : Nat) : Int)) rfl rfl <| lx_add (((t + 1 : Nat) : Int)) rfl rfl rfl (by omega) (by omega) (by omega) <| lx_assign (.int .i64 ((t + 1 : Nat) : Int)) rfl rfl <| lx_nil <| ?_
                  -- L6.1
                  refine IH18 _ _ (t + 1, os4.set t ((gt os4 t).tmod ((1000000 : Int)))) (agree_ups rfl agree_self) ⟨rfl, trivial⟩ ⟨?_, ?_, ?_, hx0_50, ?_, ?_⟩ ?_
                  · first | exact ho150 | (simpa using ho150)
                  · first | exact hot64 | (simpa using hot64)
                  · first | exact ho149 | (simpa using ho149)
                  · try dsimp only
                    omega
                  · try dsimp only
                    rw [List.length_set]; exact h4l
                  · first | omega | (dsimp only; omega)
                · refine lx_nil <| wi_false rfl <| wi_exit rfl <| wi_draw mo rfl (by decide +kernel) <| ?_
                  have hmd19 := Nat.mod_lt (ur x) (show 0 < hsp.length by omega)
                  have hmd20 := Nat.mod_lt (ur y) (show 0 < hsp.length by omega)
                  refine lx_move (.int .i64 x) rfl rfl <| lx_conv ((ur x : Nat) : Int) rfl Try.underlying3 Try.underlying45 rfl (wrap_ur _) <| lx_move (vp) rfl rfl <| lx_len rfl Try.underlying23 ho147.rd rfl <| lx_conv ((hsp.length : Nat) : Int) rfl Try.underlying3 Try.underlying45 rfl (wrap_u64 (by omega) (by omega)) <| lx_rem (m := ur x) (n := hsp.length) rfl rfl rfl (by omega) <| lx_conv (((ur x) % hsp.length : Nat) : Int) rfl Try.underlying45 Try.underlying3 rfl (wrap_i64 (by omega) (by omega)) <| lx_move (.int .i64 y) rfl rfl <| lx_conv ((ur y : Nat) : Int) rfl Try.underlying3 Try.underlying45 rfl (wrap_ur _) <| lx_move (vp) rfl rfl <| lx_len rfl Try.underlying23 ho147.rd rfl <| lx_conv ((hsp.length : Nat) : Int) rfl Try.underlying3 Try.underlying45 rfl (wrap_u64 (by omega) (by omega)) <| lx_rem (m := ur y) (n := hsp.length) rfl rfl rfl (by omega) <| lx_conv (((ur y) % hsp.length : Nat) : Int) rfl Try.underlying45 Try.underlying3 rfl (wrap_i64 (by omega) (by omega)) <| lx_assign (.int .i64 (((ur x) % hsp.length : Nat) : Int)) rfl rfl <| lx_assign (.int .i64 (((ur y) % hsp.length : Nat) : Int)) rfl rfl <| lx_nil <| wi_inBlock <| wi_reg rfl <| lx_move (.int .i64 ((kk : Nat) : Int)) rfl rfl <| lx_add (((kk + 1 : Nat) : Int)) rfl rfl rfl (by omega) (by omega) (by omega) <| lx_assign (.int .i64 ((kk + 1 : Nat) : Int)) rfl rfl <| lx_nil <| ?_
                  -- L2.8
                  refine IH2 _ _ (kk + 1, vz, os4, (((ur x) % hsp.length : Nat) : Int), (((ur y) % hsp.length : Nat) : Int)) (agree_ups rfl (agree_mix (rngB_sub (by decide) (by decide) rfl) (agree_ups rfl (agree_mix (rngB_sub (by decide) (by decide) rfl) (agree_ups rfl (agree_mix (rngB_sub (by decide) (by decide) rfl) (agree_ups rfl agree_self))))))) ⟨rfl, rfl, rfl, rfl, trivial⟩ ⟨?_, ?_, ?_, hx0_49, ?_, ?_⟩ ?_
                  · first | exact ho147 | (simpa using ho147)
                  · first | exact hot63 | (simpa using hot63)
                  · first | exact ho148 | (simpa using ho148)
                  · try dsimp only
                    omega
                  · try dsimp only
                    omega
                  · first | omega | (dsimp only; omega)
            · refine lx_pick false (.bool false) rfl rfl rfl <| lx_move (.bool false) rfl rfl <| lx_move (.int .i64 y) rfl rfl <| lx_move (vp) rfl rfl <| lx_len rfl Try.underlying23 ho121.rd rfl <| lx_geqS rfl rfl rfl (fun c27 => ?_) (fun c27 => ?_)
              · refine lx_pick false (.bool true) rfl rfl rfl <| lx_nil <| wi_true rfl <| wi_seq <| wi_reg rfl <| ?_
                have hc1 : chaC p x y = 1 := by unfold chaC; rw [if_pos hck, if_neg (fun h9 => by omega)]
                have hcs0 : cs.length = 0 := by
                  rcases hcr with ⟨_, h9⟩ | ⟨h9, _⟩
                  · rw [h9]; rfl
                  · omega
                refine lx_move (.int .i64 (chaC p x y)) rfl rfl <| lx_neqF rfl rfl rfl (fun h9 => h9 hc1) <| lx_move (.bool false) rfl rfl <| lx_move (vc) rfl rfl <| lx_len rfl Try.underlying58 ho123.rd rfl <| lx_neqF rfl rfl rfl (by omega) <| lx_pick false (.bool false) rfl rfl rfl <| lx_nil <| wi_false rfl <| wi_skip <| wi_seq <| wi_block <| ?_
                refine wi_loop (σ := Value × (List Int)) (rngB 223 237 [18]) (fun (ss : Value × (List Int)) => [(18, ss.1)]) (fun (ss : Value × (List Int)) (hh : Heap) => OwE encHd hh h.size 70 vp hsp ∧ OT encB hh h.size 4 hsp p ∧ OwE encI hh h.size 2 ss.1 ss.2 ∧ Ext h.size h hh ∧ (ss.2.length ≤ 14)) (fun (ss : Value × (List Int)) => p.length - ss.2.length) (v, os) ⟨rfl, trivial⟩ ⟨?_, ?_, ?_, hx0_38, ?_⟩ ?_
                · first | exact ho121 | (simpa using ho121)
                · first | exact hot52 | (simpa using hot52)
                · first | exact ho122 | (simpa using ho122)
                · try dsimp only
                  exact hol
                rintro g21 ⟨vo2, os2⟩ hh21 ⟨ho151, hot65, ho152, hx0_51, h2l⟩ IH19
                dsimp only at *
                have hl_hot65 := hot65.1
                refine wi_seq <| wi_seq <| wi_reg rfl <| lx_move (vo2) rfl rfl <| lx_len rfl Try.underlying58 ho152.rd rfl <| lx_move (vp) rfl rfl <| lx_len rfl Try.underlying23 ho151.rd rfl <| lx_lssS rfl rfl rfl (fun c28 => ?_) (fun c28 => ?_)
                · refine lx_nil <| wi_true rfl <| wi_skip <| wi_block <| wi_reg rfl <| ?_
                  have hmm : os2.length * os2.length ≤ 14 * 14 := Nat.mul_le_mul (by omega) (by omega)
                  refine lx_move (vo2) rfl rfl <| lx_move (vo2) rfl rfl <| lx_len rfl Try.underlying58 ho152.rd rfl <| lx_move (vo2) rfl rfl <| lx_len rfl Try.underlying58 ho152.rd rfl <| lx_mul (((os2.length * os2.length : Nat) : Int)) rfl rfl rfl (by omega) (by omega) (by omega) <| lx_sub ((((os2.length * os2.length : Nat) : Int)) - ((3 : Int))) rfl rfl rfl (by omega) (by omega) (by omega) <| lx_appendL (E := encI) (B := h.size) [(((os2.length * os2.length : Nat) : Int)) - ((3 : Int))] [.int .i64 ((((os2.length * os2.length : Nat) : Int)) - ((3 : Int)))] rfl rfl (fun _ => rfl) rfl eT58 rfl rfl rfl rfl ho152 (fun _ => rfl) (by show os2.length + 1 ≤ _; omega) (by show (os2.length + 1) * 8 ≤ _; omega) hx0_51.size (fun _ _ => trivial) fun u9 v11 h39 ho153 hc18 hg10 => ?_
                  have hx0_52 := hx0_51.trans (ho152.ext hc18 hx0_51.size)
                  have ho154 := ho151.chg hc18 (dj_ty ho151 ho152 (by decide))
                  have hot66 := hot65.chg hc18 (djt_ty hot65 ho152 (by decide))
                  refine lx_assign (v11) rfl rfl <| lx_nil <| wi_inBlock <| ?_
                  -- L4.1
                  refine IH19 _ _ (v11, os2 ++ [(((os2.length * os2.length : Nat) : Int)) - ((3 : Int))]) (agree_ups rfl agree_self) ⟨rfl, trivial⟩ ⟨?_, ?_, ?_, hx0_52, ?_⟩ ?_
                  · first | exact ho154 | (simpa using ho154)
                  · first | exact hot66 | (simpa using hot66)
                  · first | exact ho153 | (simpa using ho153)
                  · try dsimp only
                    rw [List.length_append]
                    show os2.length + 1 ≤ 14
                    omega
                  · simp only [List.length_append, List.length_cons, List.length_nil]; omega
                · refine lx_nil <| wi_false rfl <| wi_exit rfl <| wi_seq <| wi_reg rfl <| lx_move (vo2) rfl rfl <| lx_move (vp) rfl rfl <| lx_len rfl Try.underlying23 ho151.rd rfl <| lx_slice (E := encI) 0 hsp.length rfl eT58 rfl rfl ⟨_, rfl⟩ ho152.rd (by omega) (by omega) fun vz hs10 hso10 => ?_
                  have ho155 := sl_own ho152 (hso10 rfl).2 (by omega)
                  refine lx_assign (vz) rfl rfl <| lx_nil <| wi_seq <| wi_seq <| wi_reg rfl <| ?_
                  obtain ⟨os3, hos3⟩ : ∃ x, x = os2.take hsp.length := ⟨_, rfl⟩
                  rw [← hos3] at ho155
                  have h3l : os3.length = p.length := by rw [hos3, List.length_take]; omega
                  refine lx_assign (.int .i64 0) rfl rfl <| lx_nil <| wi_block <| ?_
                  refine wi_loop (σ := Nat × (List Int)) (rngB 241 255 [29]) (fun (ss : Nat × (List Int)) => [(29, .int .i64 ((ss.1 : Nat) : Int))]) (fun (ss : Nat × (List Int)) (hh : Heap) => OwE encHd hh h.size 70 vp hsp ∧ OT encB hh h.size 4 hsp p ∧ OwE encI hh h.size 2 vz ss.2 ∧ Ext h.size h hh ∧ (ss.1 ≤ p.length) ∧ (ss.2.length = p.length)) (fun (ss : Nat × (List Int)) => p.length - ss.1) (0, os3) ⟨rfl, trivial⟩ ⟨?_, ?_, ?_, hx0_51, ?_, ?_⟩ ?_
                  · first | exact ho151 | (simpa using ho151)
                  · first | exact hot65 | (simpa using hot65)
                  · first | exact ho155 | (simpa using ho155)
                  · try dsimp only
                    omega
                  · try dsimp only
                    exact h3l
                  rintro g22 ⟨t, os4⟩ hh22 ⟨ho156, hot67, ho157, hx0_53, ht, h4l⟩ IH20
                  dsimp only at *
                  have hl_hot67 := hot67.1
                  refine wi_seq <| wi_seq <| wi_reg rfl <| lx_move (.int .i64 ((t : Nat) : Int)) rfl rfl <| lx_move (vz) rfl rfl <| lx_len rfl Try.underlying58 ho157.rd rfl <| lx_lssS rfl rfl rfl (fun c29 => ?_) (fun c29 => ?_)
                  · refine lx_nil <| wi_true rfl <| wi_skip <| wi_seq <| wi_block <| wi_reg rfl <| lx_move (vz) rfl rfl <| lx_move (.int .i64 ((t : Nat) : Int)) rfl rfl <| lx_move (vz) rfl rfl <| lx_move (.int .i64 ((t : Nat) : Int)) rfl rfl <| lx_ix (i := t) rfl eT58 ho157.rd rfl rfl (by omega) <| lx_ld (i := t) (j := 0) (.int .i64 (gt os4 t)) rfl rfl fl2 ho157.rd (by omega) rfl rfl <| lx_remZ rfl rfl rfl (by omega) <| lx_ix (i := t) rfl eT58 ho157.rd rfl rfl (by omega) <| lx_st (i := t) ((gt os4 t).tmod ((1000000 : Int))) rfl rfl Try.sizeOf2 ho157 (by omega) rfl rfl (fun _ _ _ _ _ => trivial) fun h40 ho158 hc19 hsz9 => ?_
                    have hx0_54 := hx0_53.trans (ho157.ext hc19 hx0_53.size)
                    have ho159 := ho156.chg hc19 (dj_ty ho156 ho157 (by decide))
                    have hot68 := hot67.chg hc19 (djt_ty hot67 ho157 (by decide))
                    refine lx_nil <| wi_inBlock <| wi_reg rfl <| lx_move (.int .i64 ((t : Nat) : Int)) rfl rfl <| lx_add (((t + 1 : Nat) : Int)) rfl rfl rfl (by omega) (by omega) (by omega) <| lx_assign (.int .i64 ((t + 1 : Nat) : Int)) rfl rfl <| lx_nil <| ?_
                    -- L6.1
                    refine IH20 _ _ (t + 1, os4.set t ((gt os4 t).tmod ((1000000 : Int)))) (agree_ups rfl agree_self) ⟨rfl, trivial⟩ ⟨?_, ?_, ?_, hx0_54, ?_, ?_⟩ ?_
                    · first | exact ho159 | (simpa using ho159)
                    · first | exact hot68 | (simpa using hot68)
                    · first | exact ho158 | (simpa using ho158)
                    · try dsimp only
                      omega
                    · try dsimp only
                      rw [List.length_set]; exact h4l
                    · first | omega | (dsimp only; omega)
                  · refine lx_nil <| wi_false rfl <| wi_exit rfl <| wi_draw mo rfl (by decide +kernel) <| ?_
                    have hmd19 := Nat.mod_lt (ur x) (show 0 < hsp.length by omega)
                    have hmd20 := Nat.mod_lt (ur y) (show 0 < hsp.length by omega)
                    refine lx_move (.int .i64 x) rfl rfl <| lx_conv ((ur x : Nat) : Int) rfl Try.underlying3 Try.underlying45 rfl (wrap_ur _) <| lx_move (vp) rfl rfl <| lx_len rfl Try.underlying23 ho156.rd rfl <| lx_conv ((hsp.length : Nat) : Int) rfl Try.underlying3 Try.underlying45 rfl (wrap_u64 (by omega) (by omega)) <| lx_rem (m := ur x) (n := hsp.length) rfl rfl rfl (by omega) <| lx_conv (((ur x) % hsp.length : Nat) : Int) rfl Try.underlying45 Try.underlying3 rfl (wrap_i64 (by omega) (by omega)) <| lx_move (.int .i64 y) rfl rfl <| lx_conv ((ur y : Nat) : Int) rfl Try.underlying3 Try.underlying45 rfl (wrap_ur _) <| lx_move (vp) rfl rfl <| lx_len rfl Try.underlying23 ho156.rd rfl <| lx_conv ((hsp.length : Nat) : Int) rfl Try.underlying3 Try.underlying45 rfl (wrap_u64 (by omega) (by omega)) <| lx_rem (m := ur y) (n := hsp.length) rfl rfl rfl (by omega) <| lx_conv (((ur y) % hsp.length : Nat) : Int) rfl Try.underlying45 Try.underlying3 rfl (wrap_i64 (by omega) (by omega)) <| lx_assign (.int .i64 (((ur x) % hsp.length : Nat) : Int)) rfl rfl <| lx_assign (.int .i64 (((ur y) % hsp.length : Nat) : Int)) rfl rfl <| lx_nil <| wi_inBlock <| wi_reg rfl <| lx_move (.int .i64 ((kk : Nat) : Int)) rfl rfl <| lx_add (((kk + 1 : Nat) : Int)) rfl rfl rfl (by omega) (by omega) (by omega) <| lx_assign (.int .i64 ((kk + 1 : Nat) : Int)) rfl rfl <| lx_nil <| ?_
                    -- L2.9
                    refine IH2 _ _ (kk + 1, vz, os4, (((ur x) % hsp.length : Nat) : Int), (((ur y) % hsp.length : Nat) : Int)) (agree_ups rfl (agree_mix (rngB_sub (by decide) (by decide) rfl) (agree_ups rfl (agree_mix (rngB_sub (by decide) (by decide) rfl) (agree_ups rfl (agree_mix (rngB_sub (by decide) (by decide) rfl) (agree_ups rfl agree_self))))))) ⟨rfl, rfl, rfl, rfl, trivial⟩ ⟨?_, ?_, ?_, hx0_53, ?_, ?_⟩ ?_
                    · first | exact ho156 | (simpa using ho156)
                    · first | exact hot67 | (simpa using hot67)
                    · first | exact ho157 | (simpa using ho157)
                    · try dsimp only
                      omega
                    · try dsimp only
                      omega
                    · first | omega | (dsimp only; omega)
              · refine lx_pick false (.bool false) rfl rfl rfl <| lx_nil <| wi_false rfl <| wi_seq <| wi_reg rfl <| ?_
                have hc0 : chaC p x y = 0 := by unfold chaC; rw [if_pos hck, if_pos ⟨by omega, by omega, by omega, by omega⟩]
                have hcg9 := goodA hcr hc0
                have hcl9 := chaR_len hcg9
                obtain ⟨x9, rfl⟩ : ∃ x9 : Nat, x = ((x9 : Nat) : Int) := ⟨x.toNat, by omega⟩
                obtain ⟨y9, rfl⟩ : ∃ y9 : Nat, y = ((y9 : Nat) : Int) := ⟨y.toNat, by omega⟩
                rw [Int.toNat_natCast, Int.toNat_natCast] at hcg9
                refine lx_move (.int .i64 (chaC p ((x9 : Nat) : Int) ((y9 : Nat) : Int))) rfl rfl <| lx_neqF rfl rfl rfl (fun h9 => h9 hc0) <| lx_move (.bool false) rfl rfl <| lx_move (vc) rfl rfl <| lx_move (vp) rfl rfl <| lx_move (.int .i64 ((x9 : Nat) : Int)) rfl rfl <| lx_move (.int .i64 ((y9 : Nat) : Int)) rfl rfl <| lx_call [vp, .int .i64 ((x9 : Nat) : Int), .int .i64 ((y9 : Nat) : Int)] rfl rfl Try.call60 rfl (rchains_spec h32 vp hsp p x9 y9 ho121.rd hot52.rt (by omega) hpq hio (by omega) (by omega)) (fun _ _ _ => trivial) ?_
                rintro vc2 h41 ⟨_, cs2, rfl, ho160, hcr2, hx16⟩
                have hx0_55 := hx0_38.trans2 hx16 hx0_38.size
                have ho161 := ho121.extS hx16
                have hot69 := hot52.extS hx16
                have ho162 := ho122.extS hx16
                have ho163 := ho123.extS hx16
                have ho164 := ho160.base hx0_38.size
                refine lx_call [vc, vc2] rfl rfl Try.call41 rfl (longs_spec h41 vc cs vc2 cs2 ho163.rd ho164.rd (by omega) (by have := chaR_len hcr2; omega)) (fun _ _ _ => trivial) ?_
                rintro _ h42 ⟨rfl, rfl⟩
                rw [decide_eq_true (chaR_uniq hcg9 hcr2)]
                refine lx_notB false rfl rfl rfl <| lx_pick false (.bool false) rfl rfl rfl <| lx_nil <| wi_false rfl <| wi_skip <| wi_seq <| wi_block <| ?_
                refine wi_loop (σ := Value × (List Int)) (rngB 223 237 [18]) (fun (ss : Value × (List Int)) => [(18, ss.1)]) (fun (ss : Value × (List Int)) (hh : Heap) => OwE encHd hh h.size 70 vp hsp ∧ OT encB hh h.size 4 hsp p ∧ OwE encI hh h.size 2 ss.1 ss.2 ∧ Ext h.size h hh ∧ (ss.2.length ≤ 14)) (fun (ss : Value × (List Int)) => p.length - ss.2.length) (v, os) ⟨rfl, trivial⟩ ⟨?_, ?_, ?_, hx0_55, ?_⟩ ?_
                · first | exact ho161 | (simpa using ho161)
                · first | exact hot69 | (simpa using hot69)
                · first | exact ho162 | (simpa using ho162)
                · try dsimp only
                  exact hol
                rintro g23 ⟨vo2, os2⟩ hh23 ⟨ho165, hot70, ho166, hx0_56, h2l⟩ IH21
                dsimp only at *
                have hl_hot70 := hot70.1
                refine wi_seq <| wi_seq <| wi_reg rfl <| lx_move (vo2) rfl rfl <| lx_len rfl Try.underlying58 ho166.rd rfl <| lx_move (vp) rfl rfl <| lx_len rfl Try.underlying23 ho165.rd rfl <| lx_lssS rfl rfl rfl (fun c30 => ?_) (fun c30 => ?_)
                · refine lx_nil <| wi_true rfl <| wi_skip <| wi_block <| wi_reg rfl <| ?_
                  have hmm : os2.length * os2.length ≤ 14 * 14 := Nat.mul_le_mul (by omega) (by omega)
                  refine lx_move (vo2) rfl rfl <| lx_move (vo2) rfl rfl <| lx_len rfl Try.underlying58 ho166.rd rfl <| lx_move (vo2) rfl rfl <| lx_len rfl Try.underlying58 ho166.rd rfl <| lx_mul (((os2.length * os2.length : Nat) : Int)) rfl rfl rfl (by omega) (by omega) (by omega) <| lx_sub ((((os2.length * os2.length : Nat) : Int)) - ((3 : Int))) rfl rfl rfl (by omega) (by omega) (by omega) <| lx_appendL (E := encI) (B := h.size) [(((os2.length * os2.length : Nat) : Int)) - ((3 : Int))] [.int .i64 ((((os2.length * os2.length : Nat) : Int)) - ((3 : Int)))] rfl rfl (fun _ => rfl) rfl eT58 rfl rfl rfl rfl ho166 (fun _ => rfl) (by show os2.length + 1 ≤ _; omega) (by show (os2.length + 1) * 8 ≤ _; omega) hx0_56.size (fun _ _ => trivial) fun u10 v12 h43 ho167 hc20 hg11 => ?_
                  have hx0_57 := hx0_56.trans (ho166.ext hc20 hx0_56.size)
                  have ho168 := ho165.chg hc20 (dj_ty ho165 ho166 (by decide))
                  have hot71 := hot70.chg hc20 (djt_ty hot70 ho166 (by decide))
                  refine lx_assign (v12) rfl rfl <| lx_nil <| wi_inBlock <| ?_
                  -- L4.1
                  refine IH21 _ _ (v12, os2 ++ [(((os2.length * os2.length : Nat) : Int)) - ((3 : Int))]) (agree_ups rfl agree_self) ⟨rfl, trivial⟩ ⟨?_, ?_, ?_, hx0_57, ?_⟩ ?_
                  · first | exact ho168 | (simpa using ho168)
                  · first | exact hot71 | (simpa using hot71)
                  · first | exact ho167 | (simpa using ho167)
                  · try dsimp only
                    rw [List.length_append]
                    show os2.length + 1 ≤ 14
                    omega
                  · simp only [List.length_append, List.length_cons, List.length_nil]; omega
                · refine lx_nil <| wi_false rfl <| wi_exit rfl <| wi_seq <| wi_reg rfl <| lx_move (vo2) rfl rfl <| lx_move (vp) rfl rfl <| lx_len rfl Try.underlying23 ho165.rd rfl <| lx_slice (E := encI) 0 hsp.length rfl eT58 rfl rfl ⟨_, rfl⟩ ho166.rd (by omega) (by omega) fun vz hs11 hso11 => ?_
                  have ho169 := sl_own ho166 (hso11 rfl).2 (by omega)
                  refine lx_assign (vz) rfl rfl <| lx_nil <| wi_seq <| wi_seq <| wi_reg rfl <| ?_
                  obtain ⟨os3, hos3⟩ : ∃ x, x = os2.take hsp.length := ⟨_, rfl⟩
                  rw [← hos3] at ho169
                  have h3l : os3.length = p.length := by rw [hos3, List.length_take]; omega
                  refine lx_assign (.int .i64 0) rfl rfl <| lx_nil <| wi_block <| ?_
                  refine wi_loop (σ := Nat × (List Int)) (rngB 241 255 [29]) (fun (ss : Nat × (List Int)) => [(29, .int .i64 ((ss.1 : Nat) : Int))]) (fun (ss : Nat × (List Int)) (hh : Heap) => OwE encHd hh h.size 70 vp hsp ∧ OT encB hh h.size 4 hsp p ∧ OwE encI hh h.size 2 vz ss.2 ∧ Ext h.size h hh ∧ (ss.1 ≤ p.length) ∧ (ss.2.length = p.length)) (fun (ss : Nat × (List Int)) => p.length - ss.1) (0, os3) ⟨rfl, trivial⟩ ⟨?_, ?_, ?_, hx0_56, ?_, ?_⟩ ?_
                  · first | exact ho165 | (simpa using ho165)
                  · first | exact hot70 | (simpa using hot70)
                  · first | exact ho169 | (simpa using ho169)
                  · try dsimp only
                    omega
                  · try dsimp only
                    exact h3l
                  rintro g24 ⟨t, os4⟩ hh24 ⟨ho170, hot72, ho171, hx0_58, ht, h4l⟩ IH22
                  dsimp only at *
                  have hl_hot72 := hot72.1
                  refine wi_seq <| wi_seq <| wi_reg rfl <| lx_move (.int .i64 ((t : Nat) : Int)) rfl rfl <| lx_move (vz) rfl rfl <| lx_len rfl Try.underlying58 ho171.rd rfl <| lx_lssS rfl rfl rfl (fun c31 => ?_) (fun c31 => ?_)
                  · refine lx_nil <| wi_true rfl <| wi_skip <| wi_seq <| wi_block <| wi_reg rfl <| lx_move (vz) rfl rfl <| lx_move (.int .i64 ((t : Nat) : Int)) rfl rfl <| lx_move (vz) rfl rfl <| lx_move (.int .i64 ((t : Nat) : Int)) rfl rfl <| lx_ix (i := t) rfl eT58 ho171.rd rfl rfl (by omega) <| lx_ld (i := t) (j := 0) (.int .i64 (gt os4 t)) rfl rfl fl2 ho171.rd (by omega) rfl rfl <| lx_remZ rfl rfl rfl (by omega) <| lx_ix (i := t) rfl eT58 ho171.rd rfl rfl (by omega) <| lx_st (i := t) ((gt os4 t).tmod ((1000000 : Int))) rfl rfl Try.sizeOf2 ho171 (by omega) rfl rfl (fun _ _ _ _ _ => trivial) fun h44 ho172 hc21 hsz10 => ?_
                    have hx0_59 := hx0_58.trans (ho171.ext hc21 hx0_58.size)
                    have ho173 := ho170.chg hc21 (dj_ty ho170 ho171 (by decide))
                    have hot73 := hot72.chg hc21 (djt_ty hot72 ho171 (by decide))
                    refine lx_nil <| wi_inBlock <| wi_reg rfl <| lx_move (.int .i64 ((t : Nat) : Int)) rfl rfl <| lx_add (((t + 1 : Nat) : Int)) rfl rfl rfl (by omega) (by omega) (by omega) <| lx_assign (.int .i64 ((t + 1 : Nat) : Int)) rfl rfl <| lx_nil <| ?_
                    -- L6.1
                    refine IH22 _ _ (t + 1, os4.set t ((gt os4 t).tmod ((1000000 : Int)))) (agree_ups rfl agree_self) ⟨rfl, trivial⟩ ⟨?_, ?_, ?_, hx0_59, ?_, ?_⟩ ?_
                    · first | exact ho173 | (simpa using ho173)
                    · first | exact hot73 | (simpa using hot73)
                    · first | exact ho172 | (simpa using ho172)
                    · try dsimp only
                      omega
                    · try dsimp only
                      rw [List.length_set]; exact h4l
                    · first | omega | (dsimp only; omega)
                  · refine lx_nil <| wi_false rfl <| wi_exit rfl <| wi_draw mo rfl (by decide +kernel) <| ?_
                    have hmd19 := Nat.mod_lt (x9) (show 0 < hsp.length by omega)
                    have hmd20 := Nat.mod_lt (y9) (show 0 < hsp.length by omega)
                    refine lx_move (.int .i64 ((x9 : Nat) : Int)) rfl rfl <| lx_conv ((x9 : Nat) : Int) rfl Try.underlying3 Try.underlying45 rfl (wrap_u64 (by omega) (by omega)) <| lx_move (vp) rfl rfl <| lx_len rfl Try.underlying23 ho170.rd rfl <| lx_conv ((hsp.length : Nat) : Int) rfl Try.underlying3 Try.underlying45 rfl (wrap_u64 (by omega) (by omega)) <| lx_rem (m := x9) (n := hsp.length) rfl rfl rfl (by omega) <| lx_conv ((x9 % hsp.length : Nat) : Int) rfl Try.underlying45 Try.underlying3 rfl (wrap_i64 (by omega) (by omega)) <| lx_move (.int .i64 ((y9 : Nat) : Int)) rfl rfl <| lx_conv ((y9 : Nat) : Int) rfl Try.underlying3 Try.underlying45 rfl (wrap_u64 (by omega) (by omega)) <| lx_move (vp) rfl rfl <| lx_len rfl Try.underlying23 ho170.rd rfl <| lx_conv ((hsp.length : Nat) : Int) rfl Try.underlying3 Try.underlying45 rfl (wrap_u64 (by omega) (by omega)) <| lx_rem (m := y9) (n := hsp.length) rfl rfl rfl (by omega) <| lx_conv ((y9 % hsp.length : Nat) : Int) rfl Try.underlying45 Try.underlying3 rfl (wrap_i64 (by omega) (by omega)) <| lx_assign (.int .i64 ((x9 % hsp.length : Nat) : Int)) rfl rfl <| lx_assign (.int .i64 ((y9 % hsp.length : Nat) : Int)) rfl rfl <| lx_nil <| wi_inBlock <| wi_reg rfl <| lx_move (.int .i64 ((kk : Nat) : Int)) rfl rfl <| lx_add (((kk + 1 : Nat) : Int)) rfl rfl rfl (by omega) (by omega) (by omega) <| lx_assign (.int .i64 ((kk + 1 : Nat) : Int)) rfl rfl <| lx_nil <| ?_
                    -- L2.10
                    refine IH2 _ _ (kk + 1, vz, os4, ((x9 % hsp.length : Nat) : Int), ((y9 % hsp.length : Nat) : Int)) (agree_ups rfl (agree_mix (rngB_sub (by decide) (by decide) rfl) (agree_ups rfl (agree_mix (rngB_sub (by decide) (by decide) rfl) (agree_ups rfl (agree_mix (rngB_sub (by decide) (by decide) rfl) (agree_ups rfl agree_self))))))) ⟨rfl, rfl, rfl, rfl, trivial⟩ ⟨?_, ?_, ?_, hx0_58, ?_, ?_⟩ ?_
                    · first | exact ho170 | (simpa using ho170)
                    · first | exact hot72 | (simpa using hot72)
                    · first | exact ho171 | (simpa using ho171)
                    · try dsimp only
                      omega
                    · try dsimp only
                      omega
                    · first | omega | (dsimp only; omega)
    · refine lx_nil <| wi_false rfl <| wi_exit rfl <| wi_seq <| wi_reg rfl <| lx_call [] rfl rfl Try.call20 rfl (awake_spec hh2 ) (fun _ _ _ => trivial) ?_
      rintro _ h45 ⟨rfl, hx17⟩
      have hx0_60 := hx0_9.trans2 hx17 hx0_9.size
      have ho174 := ho38.extS hx17
      have hot74 := hot23.extS hx17
      have ho175 := ho39.extS hx17
      refine lx_assign (.bool true) rfl rfl <| lx_nil <| ?_
      -- R1
      refine wi_ret ⟨.bool true, (res_one rfl rfl), ⟨rfl, hx0_60⟩⟩

end Go.Proofs.Ytdokijbdnajhgaa
namespace Go.Proofs.Ytdokijbdnajhgaa
open Go Go.X Go.ChangeShapes Go.WideShapes Go.ChangeAt Go.RowKit

theorem orderCounts_own : ownKnob Try.prog.godebug = none := by kernel_rfl
theorem orderCounts_laidOut : laidOutB Try.prog = true := by kernel_rfl

set_option maxRecDepth 100000 in
theorem orderCounts_lifted (os : Os) (started : os.Started) (H : Type) (enc : TypeId × Value → H) :
    ReturnsInHanded {} Try.checked os 9 .any (Rows.orderCountsSpec.pre6 enc Try.prog Try.f9 Rows.orderCountsRow.domain false) (Rows.orderCountsSpec.post enc Try.prog Try.f9 false true false false) := by
  refine returnsInHanded_of_change (C := Try.checked) orderCounts_own started (by kernel_rfl) Try.func9
    (ChangeSpec.witness6 (enc := enc) (C := Try.checked) false ⟨#[], #[.int .i64 0, .slice none 0 0, .slice none 0 0], []⟩ 8 (by kernel_rfl) (by kernel_rfl) (by kernel_rfl) (by kernel_rfl)) ?_
  intro W base args ds gs before hval0 hW hcnd _
  have hval : ∀ (j : Nat) t v, Try.f9.params[j]? = some t → args[j]? = some v → Value.okWide Try.prog W .any base t v := hval0
  have hW' := hW
  obtain ⟨p, q, hA0, hV, rfl, hfz, hnd⟩ := hW
  have hA : DataW.TrodAll enc Try.prog W 0 (fun _ => true) true Try.f9.params.toList args.toList ds p := hA0
  rw [Try.params9] at hA hval
  obtain ⟨v0, vs0, d0, ds0, p0, q0, hargs, rfl, rfl, h0, r0⟩ := trodAll_cons hA
  obtain ⟨v1, vs1, d1, ds1, p1, q1, rfl, rfl, rfl, h1, r1⟩ := trodAll_cons r0
  obtain ⟨v2, vs2, d2, ds2, p2, q2, rfl, rfl, rfl, h2, r2⟩ := trodAll_cons r1
  obtain ⟨rfl, rfl, rfl⟩ := trodAll_nil r2
  obtain rfl : args = #[v0, v1, v2] := by cases args; simp_all
  obtain ⟨rfl, rfl⟩ := trodVars_none hV
  obtain ⟨n, rfl, rfl, rfl, w0⟩ := open_int Try.underlying3 (hval 0 3 v0 rfl rfl) h0
  have hb_n := bounds_i64 w0
  have k1 := h1
  have lt1 : ∀ x ∈ p1, x.block < W.heap.size := by obtain ⟨m, hm⟩ := k1; exact DataW.trod_lt m _ _ _ hm
  obtain ⟨l, hr_l, hl_l, hb_l⟩ := lift_pairs Try.underlying22 Try.underlying85 Try.underlying3 (by kernel_rfl) (by kernel_rfl) (hval 1 22 v1 rfl rfl) h1
  have k2 := h2
  have lt2 : ∀ x ∈ p2, x.block < W.heap.size := by obtain ⟨m, hm⟩ := k2; exact DataW.trod_lt m _ _ _ hm
  obtain ⟨f, hr_f, hl_f, hb_f⟩ := lift_ints Try.underlying58 Try.underlying2 (by kernel_rfl) (hval 2 58 v2 rfl rfl) h2
  clear hA0 hval0
  refine (lift_walk (args := [.int .i64 n, v1, v2]) (orderCounts_spec W.heap n v1 l v2 f hr_l hr_f hl_l hl_f)).mono fun e W' ⟨he, bel⟩ => ?_
  subst he
  exact ⟨_, rfl, _, _, _, [], _, [], hW', trodAll_mk1 (shut_bool Try.underlying4 _), (trodAll_cons_mk (shut_int Try.underlying3 w0) (trodAll_cons_mk (Below.trod orderCounts_laidOut (by kernel_rfl) (of_decide_eq_true (by kernel_rfl)) k1 bel lt1) (trodAll_cons_mk (Below.trod orderCounts_laidOut (by kernel_rfl) (of_decide_eq_true (by kernel_rfl)) k2 bel lt2) trodAll_mk0))), rfl, bel.frame _, fun h => by cases h⟩

theorem orderCounts_holds : Rows.OrderCountsSaid :=
  OpenClaim.holds_of_wide 9 Try.f9 rfl rfl rfl rfl rfl rfl rfl ⟨rfl, rfl, rfl, rfl, rfl⟩ rfl rfl rfl rfl rfl (by kernel_rfl) Try.func9 (by kernel_rfl)
    (of_decide_eq_true (by kernel_rfl)) (by unfold Func.isWrapper; first | (rw [if_pos (by decide +kernel)]; kernel_rfl) | (rw [if_neg (by decide +kernel)]; exact ⟨rfl, rfl⟩))
    (fun os started H enc _ => orderCounts_lifted os started H enc)
#print axioms orderCounts_holds
end Go.Proofs.Ytdokijbdnajhgaa
