/-
  Of any integer, any pairs and any five numbers: the law OrderLattices returns true (the tables of the lattice, or a gap; its join elements, a bad five or Birkhoff's sets, and the numbers of its sets of atoms, are as the reference says, or ErrLattice; whether the five are bad), and nothing that was there turns.
  Conditions: none beyond the given statement's.
-/
import Derived.Test.YtdokijbdnajhgaaMLat8
import Derived.Test.YtdokijbdnajhgaaRows
set_option linter.unusedSimpArgs false
set_option linter.unusedVariables false
namespace Go.Proofs.Ytdokijbdnajhgaa
open Go Go.X

theorem oisBadL_spec (h : Heap) (vp : Value) (hs : List Hdr) (p : List (List Bool)) (xs : List Int) (hr_vp : RdE encHd h vp hs) (ht_vp : RT encB h hs p) (hp1 : p.length ≤ 1000000) (hp2 : ∀ i, i < p.length → (gt p i).length ≤ 1000000) (hp3 : xs.length = 5) :
    Fx Try.prog 36 [vp, .agg (ic xs)] h (fun v h' => v = .bool (decide (badL p xs)) ∧ Ext h.size h h') := by
  match xs, hp3 with
  | [a, b, c, d, e], _ => exact oisBad_spec h vp hs p a b c d e hr_vp ht_vp hp1 hp2
theorem opn_ng {p : List (List Bool)} (h : chkT p = 0) : opnC p = if ngB p.length (pb p) then 0 else 91 := if_pos h
theorem tabI_le {n : Nat} {g : Nat → Nat → Int} {r : List (List Int)} (e : r = tabI n g) (hn : n ≤ 4096) : r.length ≤ 4096 ∧ ∀ i, i < r.length → (gt r i).length ≤ 4096 := by
  subst e
  refine ⟨by rw [tabI_len]; exact hn, fun i hi => ?_⟩
  rw [tabI_len] at hi
  rw [tabI_row hi]; exact hn

set_option maxRecDepth 10000 in
theorem orderLattices_spec (h : Heap) (n : Int) (vl : Value) (ls : List (Int × Int)) (fv : List Int) (hr_vl : RdE encP h vl ls) (hp1 : ls.length ≤ 9223372036854775807) (hp2 : fv.length = 5) : Fx Try.prog 5 [.int .i64 n, vl, .agg (ic fv)] h (fun v h' => v = .bool true ∧ Ext h.size h h') := by
  refine fx_intro (n := 250) [(0, .int .i64 n), (1, vl), (2, .agg (ic fv))] Try.func5 rfl rfl (by simp) ⟨rfl, rfl, rfl, trivial⟩ fun g0 => ?_
  refine wi_seq <| wi_reg rfl <| lx_box (ic fv) rfl rfl rfl (fun _ _ _ => trivial) fun bn1 h1 hbn1 hbk1 hx1 hsz1 => ?_
  have hbb1 : h.size ≤ bn1 := by have := (Nat.le_refl h.size); omega
  refine lx_assign (.bool false) rfl rfl <| lx_nil <| wi_seq <| wi_reg rfl <| lx_move (.int .i64 n) rfl rfl <| lx_move (vl) rfl rfl <| lx_call [.int .i64 n, vl, .int .i64 12] rfl rfl Try.call15 rfl (tame_spec h1 n vl ls 12 (hr_vl.extS hx1) (by omega) (by omega) (by omega)) (fun _ _ _ => trivial) ?_
  rintro vp h2 ⟨_, hsp, p, rfl, ho1, hot1, htm, hx2⟩
  have hx0_1 := hx1.trans2 hx2 hx1.size
  have hb1 := hbk1.extS hx2
  have ho2 := ho1.base hx1.size
  have hot2 := hot1.base hx1.size
  have hl_hot2 := hot2.1
  refine lx_assign (vp) rfl rfl <| lx_nil <| wi_seq <| wi_reg rfl <| ?_
  obtain ⟨hpt, hp0, hpm⟩ := htm
  have hpq : Sq p p.length := isT_sq hpt
  have hio := isT_o hpt
  have hck : chkT p = 0 := chkT_zero hp0 (by omega) hpt
  have hle : ∀ i, i < p.length → (gt p i).length ≤ 1000000 := fun i hi => by rw [hpq.2 i hi]; omega
  refine lx_move (vp) rfl rfl <| lx_call [vp] rfl rfl Try.call29 rfl (lattice_spec h2 vp hsp p ho2.rd hot2.rt (by omega) hle) (fun _ _ _ => trivial) ?_
  rintro _ h3 ⟨vj, vm, hj, hm, rj, rm, okc, rfl, ho3, hot3, ho4, hot4, hop, hx3⟩
  have hx0_2 := hx0_1.trans2 hx3 hx0_1.size
  have ho5 := ho2.extS hx3
  have hot5 := hot2.extS hx3
  have hb2 := hb1.extS hx3
  have ho6 := ho3.base hx0_1.size
  have hot6 := hot3.base hx0_1.size
  have hl_hot6 := hot6.1
  have ho7 := ho4.base hx0_1.size
  have hot7 := hot4.base hx0_1.size
  have hl_hot7 := hot7.1
  refine lx_move (.tuple #[vj, vm, .bool okc, .int .i64 (chkT p)]) rfl rfl <| lx_extract (vj) rfl rfl rfl <| lx_extract (vm) rfl rfl rfl <| lx_extract (.bool okc) rfl rfl rfl <| lx_extract (.int .i64 (chkT p)) rfl rfl rfl <| lx_assign (vj) rfl rfl <| lx_assign (vm) rfl rfl <| lx_assign (.bool okc) rfl rfl <| lx_assign (.int .i64 (chkT p)) rfl rfl <| lx_nil <| wi_seq <| wi_reg rfl <| lx_move (vp) rfl rfl <| lx_call [vp] rfl rfl Try.call30 rfl (ogap_spec h3 vp hsp p ho5.rd hot5.rt (by omega) hle) (fun _ _ _ => trivial) ?_
  rintro _ h4 ⟨ox, oy, ob, rfl, hog, hx4⟩
  have hx0_3 := hx0_2.trans2 hx4 hx0_2.size
  have ho8 := ho5.extS hx4
  have hot8 := hot5.extS hx4
  have ho9 := ho6.extS hx4
  have hot9 := hot6.extS hx4
  have ho10 := ho7.extS hx4
  have hot10 := hot7.extS hx4
  have hb3 := hb2.extS hx4
  refine lx_move (.tuple #[.int .i64 ((ox : Nat) : Int), .int .i64 ((oy : Nat) : Int), .bool ob, .int .i64 (chkT p)]) rfl rfl <| lx_extract (.int .i64 ((ox : Nat) : Int)) rfl rfl rfl <| lx_extract (.int .i64 ((oy : Nat) : Int)) rfl rfl rfl <| lx_extract (.bool ob) rfl rfl rfl <| lx_extract (.int .i64 (chkT p)) rfl rfl rfl <| lx_assign (.int .i64 ((ox : Nat) : Int)) rfl rfl <| lx_assign (.int .i64 ((oy : Nat) : Int)) rfl rfl <| lx_assign (.bool ob) rfl rfl <| lx_assign (.int .i64 (chkT p)) rfl rfl <| lx_nil <| wi_seq <| wi_reg rfl <| lx_move (vp) rfl rfl <| lx_call [vp] rfl rfl Try.call31 rfl (rgap_spec h4 vp hsp p ho8.rd hot8.rt (by omega) hpq) (fun _ _ _ => trivial) ?_
  rintro _ h5 ⟨gx, gy, gb, rfl, hgap, hx5⟩
  have hx0_4 := hx0_3.trans2 hx5 hx0_3.size
  have ho11 := ho8.extS hx5
  have hot11 := hot8.extS hx5
  have ho12 := ho9.extS hx5
  have hot12 := hot9.extS hx5
  have ho13 := ho10.extS hx5
  have hot13 := hot10.extS hx5
  have hb4 := hb3.extS hx5
  refine lx_move (.tuple #[.int .i64 ((gx : Nat) : Int), .int .i64 ((gy : Nat) : Int), .bool gb]) rfl rfl <| lx_extract (.int .i64 ((gx : Nat) : Int)) rfl rfl rfl <| lx_extract (.int .i64 ((gy : Nat) : Int)) rfl rfl rfl <| lx_extract (.bool gb) rfl rfl rfl <| lx_assign (.int .i64 ((gx : Nat) : Int)) rfl rfl <| lx_assign (.int .i64 ((gy : Nat) : Int)) rfl rfl <| lx_assign (.bool gb) rfl rfl <| lx_nil <| wi_seq <| wi_seq <| wi_reg rfl <| ?_
  obtain ⟨hqx, hqy, hqb⟩ := gapR_uniq hgap (goodA hog hck)
  subst hqx; subst hqy; subst hqb
  have hgb := gapR_ng hgap
  have hon := opn_ng hck
  refine lx_move (.int .i64 (chkT p)) rfl rfl <| lx_neqF rfl rfl rfl (fun h9 => h9 hck) <| lx_move (.bool false) rfl rfl <| lx_move (.int .i64 (chkT p)) rfl rfl <| lx_neqF rfl rfl rfl (fun h9 => h9 hck) <| lx_pick false (.bool false) rfl rfl rfl <| lx_move (.bool false) rfl rfl <| lx_move (.bool okc) rfl rfl <| lx_move (.bool gb) rfl rfl <| lx_eqlBool false rfl Try.underlying4 rfl rfl (by rw [hop.2, hon, hgb]; cases ngB p.length (pb p) <;> rfl) <| lx_pick false (.bool false) rfl rfl rfl <| lx_move (.bool false) rfl rfl <| lx_move (.bool gb) rfl rfl <| lx_move (.bool gb) rfl rfl <| lx_neqBool false rfl Try.underlying4 rfl rfl (by cases gb <;> rfl) <| lx_pick false (.bool false) rfl rfl rfl <| lx_move (.bool false) rfl rfl <| lx_move (.int .i64 ((gx : Nat) : Int)) rfl rfl <| lx_move (.int .i64 ((gx : Nat) : Int)) rfl rfl <| lx_neqF rfl rfl rfl (fun h9 => h9 rfl) <| lx_pick false (.bool false) rfl rfl rfl <| lx_move (.bool false) rfl rfl <| lx_move (.int .i64 ((gy : Nat) : Int)) rfl rfl <| lx_move (.int .i64 ((gy : Nat) : Int)) rfl rfl <| lx_neqF rfl rfl rfl (fun h9 => h9 rfl) <| lx_pick false (.bool false) rfl rfl rfl <| lx_nil <| wi_false rfl <| wi_skip <| wi_seq <| wi_reg rfl <| lx_move (vp) rfl rfl <| lx_call [vp] rfl rfl Try.call32 rfl (joinEls_spec h5 vp hsp p ho11.rd hot11.rt (by omega) hle) (fun _ _ _ => trivial) ?_
  rintro _ h6 ⟨vje, je, rfl, ho14, hje, hx6⟩
  have hx0_5 := hx0_4.trans2 hx6 hx0_4.size
  have ho15 := ho11.extS hx6
  have hot14 := hot11.extS hx6
  have ho16 := ho12.extS hx6
  have hot15 := hot12.extS hx6
  have ho17 := ho13.extS hx6
  have hot16 := hot13.extS hx6
  have hb5 := hb4.extS hx6
  have ho18 := ho14.base hx0_4.size
  refine lx_move (.tuple #[vje, .int .i64 (opnC p)]) rfl rfl <| lx_extract (vje) rfl rfl rfl <| lx_extract (.int .i64 (opnC p)) rfl rfl rfl <| lx_assign (vje) rfl rfl <| lx_assign (.int .i64 (opnC p)) rfl rfl <| lx_nil <| wi_seq <| wi_reg rfl <| lx_move (vp) rfl rfl <| lx_call [vp] rfl rfl Try.call33 rfl (obad_spec h6 vp hsp p ho15.rd hot14.rt (by omega) hle) (fun _ _ _ => trivial) ?_
  rintro _ h7 ⟨xo, xa, xb, xc, xi, xbb, rfl, hxb, hx7⟩
  have hx0_6 := hx0_5.trans2 hx7 hx0_5.size
  have ho19 := ho15.extS hx7
  have hot17 := hot14.extS hx7
  have ho20 := ho16.extS hx7
  have hot18 := hot15.extS hx7
  have ho21 := ho17.extS hx7
  have hot19 := hot16.extS hx7
  have ho22 := ho18.extS hx7
  have hb6 := hb5.extS hx7
  refine lx_move (.tuple #[.agg #[.int .i64 ((xo : Nat) : Int), .int .i64 ((xa : Nat) : Int), .int .i64 ((xb : Nat) : Int), .int .i64 ((xc : Nat) : Int), .int .i64 ((xi : Nat) : Int)], .bool xbb, .int .i64 (opnC p)]) rfl rfl <| lx_extract (.agg #[.int .i64 ((xo : Nat) : Int), .int .i64 ((xa : Nat) : Int), .int .i64 ((xb : Nat) : Int), .int .i64 ((xc : Nat) : Int), .int .i64 ((xi : Nat) : Int)]) rfl rfl rfl <| lx_extract (.bool xbb) rfl rfl rfl <| lx_extract (.int .i64 (opnC p)) rfl rfl rfl <| lx_alloc rfl rfl Try.zeroValue48 (fun _ _ _ => trivial) fun bn2 h8 hbn2 hbk2 hx8 hsz2 => ?_
  have hbb2 : h.size ≤ bn2 := by have := hx0_6.size; omega
  have hne1 : bn2 ≠ bn1 := by have := hb6.lt; omega
  have hdj1 : Value.ownBlock vp ≠ some bn2 := by intro e; have := (ho19.lt e).2; omega
  have hnb1 : Nbt hsp bn2 := nbt_new hot17 (by omega)
  have hdj2 : Value.ownBlock vj ≠ some bn2 := by intro e; have := (ho20.lt e).2; omega
  have hnb2 : Nbt hj bn2 := nbt_new hot18 (by omega)
  have hdj3 : Value.ownBlock vm ≠ some bn2 := by intro e; have := (ho21.lt e).2; omega
  have hnb3 : Nbt hm bn2 := nbt_new hot19 (by omega)
  have hdj4 : Value.ownBlock vje ≠ some bn2 := by intro e; have := (ho22.lt e).2; omega
  have hx0_7 := hx0_6.trans2 hx8 hx0_6.size
  have ho23 := ho19.extS hx8
  have hot20 := hot17.extS hx8
  have ho24 := ho20.extS hx8
  have hot21 := hot18.extS hx8
  have ho25 := ho21.extS hx8
  have hot22 := hot19.extS hx8
  have ho26 := ho22.extS hx8
  have hb7 := hb6.extS hx8
  have hbk2 : Blk h8 bn2 #[.int .i64 0, .int .i64 0, .int .i64 0, .int .i64 0, .int .i64 0] 48 := hbk2
  refine lx_stBA (#[.int .i64 ((xo : Nat) : Int), .int .i64 ((xa : Nat) : Int), .int .i64 ((xb : Nat) : Int), .int .i64 ((xc : Nat) : Int), .int .i64 ((xi : Nat) : Int)]) rfl rfl Try.sizeOf48 hbk2 rfl rfl rfl rfl (by simp [Value.oneCell']) (fun _ _ _ _ => trivial) fun h9 hbk3 hc1 => ?_
  have hx0_8 := hx0_7.trans (hc1.ext hbb2)
  have ho27 := hc1.owE ho23 hdj1
  have hot23 := hot20.chgB hc1 hnb1
  have ho28 := hc1.owE ho24 hdj2
  have hot24 := hot21.chgB hc1 hnb2
  have ho29 := hc1.owE ho25 hdj3
  have hot25 := hot22.chgB hc1 hnb3
  have ho30 := hc1.owE ho26 hdj4
  have hb8 := hc1.blk hb7 (Ne.symm hne1)
  refine lx_assign (.bool xbb) rfl rfl <| lx_assign (.int .i64 (opnC p)) rfl rfl <| lx_nil <| wi_seq <| wi_reg rfl <| lx_move (vp) rfl rfl <| lx_call [vp] rfl rfl Try.call34 rfl (obirk_spec h9 vp hsp p ho27.rd hot23.rt (by omega) hle) (fun _ _ _ => trivial) ?_
  rintro _ h10 ⟨vbi, bi, rfl, ho31, hbi, hx9⟩
  have hx0_9 := hx0_8.trans2 hx9 hx0_8.size
  have ho32 := ho27.extS hx9
  have hot26 := hot23.extS hx9
  have ho33 := ho28.extS hx9
  have hot27 := hot24.extS hx9
  have ho34 := ho29.extS hx9
  have hot28 := hot25.extS hx9
  have ho35 := ho30.extS hx9
  have hb9 := hb8.extS hx9
  have hb10 := hbk3.extS hx9
  have ho36 := ho31.base hx0_8.size
  refine lx_move (.tuple #[vbi, .int .i64 (birC p)]) rfl rfl <| lx_extract (vbi) rfl rfl rfl <| lx_extract (.int .i64 (birC p)) rfl rfl rfl <| lx_assign (vbi) rfl rfl <| lx_assign (.int .i64 (birC p)) rfl rfl <| lx_nil <| wi_seq <| wi_reg rfl <| lx_move (vp) rfl rfl <| lx_call [vp] rfl rfl Try.call35 rfl (ocrosscut_spec h10 vp hsp p ho32.rd hot26.rt (by omega) hle) (fun _ _ _ => trivial) ?_
  rintro _ h11 ⟨vcr, cr, rfl, ho37, hcr, hx10⟩
  have hx0_10 := hx0_9.trans2 hx10 hx0_9.size
  have ho38 := ho32.extS hx10
  have hot29 := hot26.extS hx10
  have ho39 := ho33.extS hx10
  have hot30 := hot27.extS hx10
  have ho40 := ho34.extS hx10
  have hot31 := hot28.extS hx10
  have ho41 := ho35.extS hx10
  have ho42 := ho36.extS hx10
  have hb11 := hb9.extS hx10
  have hb12 := hb10.extS hx10
  have ho43 := ho37.base hx0_9.size
  refine lx_move (.tuple #[vcr, .int .i64 (opnC p)]) rfl rfl <| lx_extract (vcr) rfl rfl rfl <| lx_extract (.int .i64 (opnC p)) rfl rfl rfl <| lx_assign (vcr) rfl rfl <| lx_assign (.int .i64 (opnC p)) rfl rfl <| lx_nil <| wi_seq <| wi_seq <| wi_reg rfl <| ?_
  have hje9 := hje
  have hl_vp9 : hsp.length = p.length := by first | assumption | omega
  refine lx_assign (.int .i64 0) rfl rfl <| lx_nil <| wi_block <| ?_
  refine wi_loop (σ := Nat × (List Int)) (rngB 102 128 [6, 28, 29]) (fun (ss : Nat × (List Int)) => [(28, .int .i64 ((ss.1 : Nat) : Int))]) (fun (ss : Nat × (List Int)) (hh : Heap) => Blk hh bn1 (ic ss.2) 48 ∧ OwE encHd hh h.size 70 vp hsp ∧ OT encB hh h.size 4 hsp p ∧ OwE encHd hh h.size 25 vj hj ∧ OT encI hh h.size 3 hj rj ∧ OwE encHd hh h.size 25 vm hm ∧ OT encI hh h.size 3 hm rm ∧ OwE encI hh h.size 3 vje je ∧ OwE encI hh h.size 3 vbi bi ∧ OwE encI hh h.size 2 vcr cr ∧ Blk hh bn2 #[.int .i64 ((xo : Nat) : Int), .int .i64 ((xa : Nat) : Int), .int .i64 ((xb : Nat) : Int), .int .i64 ((xc : Nat) : Int), .int .i64 ((xi : Nat) : Int)] 48 ∧ Ext h.size h hh ∧ (ss.1 ≤ 2) ∧ (ss.2.length = 5)) (fun (ss : Nat × (List Int)) => 2 - ss.1) (0, fv) ⟨rfl, trivial⟩ ⟨?_, ?_, ?_, ?_, ?_, ?_, ?_, ?_, ?_, ?_, ?_, hx0_10, ?_, ?_⟩ ?_
  · exact hb11
  · first | exact ho38 | (simpa using ho38)
  · first | exact hot29 | (simpa using hot29)
  · first | exact ho39 | (simpa using ho39)
  · first | exact hot30 | (simpa using hot30)
  · first | exact ho40 | (simpa using ho40)
  · first | exact hot31 | (simpa using hot31)
  · first | exact ho41 | (simpa using ho41)
  · first | exact ho42 | (simpa using ho42)
  · first | exact ho43 | (simpa using ho43)
  · exact hb12
  · try dsimp only
    omega
  · try dsimp only
    exact hp2
  rintro g1 ⟨m, gv⟩ hh1 ⟨hbk4, ho44, hot32, ho45, hot33, ho46, hot34, ho47, ho48, ho49, hbk5, hx0_11, hm9, hgl⟩ IH1
  dsimp only at *
  have hl_hot32 := hot32.1
  have hl_hot33 := hot33.1
  have hl_hot34 := hot34.1
  refine wi_seq <| wi_seq <| wi_reg rfl <| lx_move (.int .i64 ((m : Nat) : Int)) rfl rfl <| lx_lssS rfl rfl rfl (fun c1 => ?_) (fun c1 => ?_)
  · refine lx_nil <| wi_true rfl <| wi_skip <| wi_seq <| wi_block <| wi_seq <| wi_seq <| wi_drawS (fun h9 => Blk h9 bn1 (ic gv) 48) (fun o => match o.dst with | some 107 | some 110 => .free | _ => kindOf o) mo rfl (by decide +kernel) hbk4 <| lx_move (vp) rfl rfl <| lx_ldBAF rfl wd48 (fun _ hs => hs) (by rw [ic_size]; exact hgl) rfl <| lx_call [vp, .agg (ic gv)] rfl rfl Try.call36 rfl (oisBadL_spec hh1 vp hsp p gv ho44.rd hot32.rt (by omega) hle hgl) (by rintro _ _ ⟨_, e⟩; exact Blk.extS hbk4 e) ?_
    rintro _ h12 ⟨rfl, hx11⟩
    have hx0_12 := hx0_11.trans2 hx11 hx0_11.size
    have ho50 := ho44.extS hx11
    have hot35 := hot32.extS hx11
    have ho51 := ho45.extS hx11
    have hot36 := hot33.extS hx11
    have ho52 := ho46.extS hx11
    have hot37 := hot34.extS hx11
    have ho53 := ho47.extS hx11
    have ho54 := ho48.extS hx11
    have ho55 := ho49.extS hx11
    have hb13 := hbk4.extS hx11
    have hb14 := hbk5.extS hx11
    refine lx_move (vp) rfl rfl <| lx_ldBAF rfl wd48 (fun _ hs => hs) (by rw [ic_size]; exact hgl) rfl <| lx_call [vp, .agg (ic gv)] rfl rfl Try.call37 rfl (risBad_spec h12 vp hsp p gv ho50.rd hot35.rt (by omega) hle hgl) (by rintro _ _ ⟨_, e⟩; exact Blk.extS hb13 e) ?_
    rintro _ h13 ⟨rfl, hx12⟩
    have hx0_13 := hx0_12.trans2 hx12 hx0_12.size
    have ho56 := ho50.extS hx12
    have hot38 := hot35.extS hx12
    have ho57 := ho51.extS hx12
    have hot39 := hot36.extS hx12
    have ho58 := ho52.extS hx12
    have hot40 := hot37.extS hx12
    have ho59 := ho53.extS hx12
    have ho60 := ho54.extS hx12
    have ho61 := ho55.extS hx12
    have hb15 := hb13.extS hx12
    have hb16 := hb14.extS hx12
    refine lx_neqBool false rfl Try.underlying4 rfl rfl (by cases decide (badL p gv) <;> rfl) <| lx_nil <| wi_false rfl <| wi_skip <| wi_seq <| wi_reg rfl <| lx_assign (.int .i64 0) rfl rfl <| lx_nil <| wi_block <| ?_
    refine wi_loop (σ := Nat × (List Int)) (rngB 113 128 [29]) (fun (ss : Nat × (List Int)) => [(29, .int .i64 ((ss.1 : Nat) : Int))]) (fun (ss : Nat × (List Int)) (hh : Heap) => Blk hh bn1 (ic ss.2) 48 ∧ OwE encHd hh h.size 70 vp hsp ∧ OT encB hh h.size 4 hsp p ∧ OwE encHd hh h.size 25 vj hj ∧ OT encI hh h.size 3 hj rj ∧ OwE encHd hh h.size 25 vm hm ∧ OT encI hh h.size 3 hm rm ∧ OwE encI hh h.size 3 vje je ∧ OwE encI hh h.size 3 vbi bi ∧ OwE encI hh h.size 2 vcr cr ∧ Blk hh bn2 #[.int .i64 ((xo : Nat) : Int), .int .i64 ((xa : Nat) : Int), .int .i64 ((xb : Nat) : Int), .int .i64 ((xc : Nat) : Int), .int .i64 ((xi : Nat) : Int)] 48 ∧ Ext h.size h hh ∧ (ss.1 ≤ 5) ∧ (ss.2.length = 5)) (fun (ss : Nat × (List Int)) => 5 - ss.1) (0, gv) ⟨rfl, trivial⟩ ⟨?_, ?_, ?_, ?_, ?_, ?_, ?_, ?_, ?_, ?_, ?_, hx0_13, ?_, ?_⟩ ?_
    · exact hb15
    · first | exact ho56 | (simpa using ho56)
    · first | exact hot38 | (simpa using hot38)
    · first | exact ho57 | (simpa using ho57)
    · first | exact hot39 | (simpa using hot39)
    · first | exact ho58 | (simpa using ho58)
    · first | exact hot40 | (simpa using hot40)
    · first | exact ho59 | (simpa using ho59)
    · first | exact ho60 | (simpa using ho60)
    · first | exact ho61 | (simpa using ho61)
    · exact hb16
    · try dsimp only
      omega
    · try dsimp only
      exact hgl
    rintro g2 ⟨t, gv2⟩ hh2 ⟨hbk6, ho62, hot41, ho63, hot42, ho64, hot43, ho65, ho66, ho67, hbk7, hx0_14, ht, hgl2⟩ IH2
    dsimp only at *
    have hl_hot41 := hot41.1
    have hl_hot42 := hot42.1
    have hl_hot43 := hot43.1
    refine wi_seq <| wi_seq <| wi_reg rfl <| lx_move (.int .i64 ((t : Nat) : Int)) rfl rfl <| lx_lssS rfl rfl rfl (fun c2 => ?_) (fun c2 => ?_)
    · refine lx_nil <| wi_true rfl <| wi_skip <| wi_seq <| wi_block <| wi_reg rfl <| ?_
      have hmd := Nat.mod_lt (ur (gt gv2 t)) (show 0 < hsp.length by omega)
      refine lx_move (.int .i64 ((t : Nat) : Int)) rfl rfl <| lx_move (.int .i64 ((t : Nat) : Int)) rfl rfl <| lx_ixB (i := t) (t) rfl Try.underlying48 Try.sizeOf3 rfl rfl (by omega) (by omega) <| lx_ldB (.int .i64 (gt gv2 t)) rfl rfl fl3 hbk6 (ic_get (by omega)) rfl <| lx_conv ((ur (gt gv2 t) : Nat) : Int) rfl Try.underlying3 Try.underlying45 rfl (wrap_ur _) <| lx_move (vp) rfl rfl <| lx_len rfl Try.underlying23 ho62.rd rfl <| lx_conv ((hsp.length : Nat) : Int) rfl Try.underlying3 Try.underlying45 rfl (wrap_u64 (by omega) (by omega)) <| lx_rem (m := ur (gt gv2 t)) (n := hsp.length) rfl rfl rfl (by omega) <| lx_conv (((ur (gt gv2 t)) % hsp.length : Nat) : Int) rfl Try.underlying45 Try.underlying3 rfl (wrap_i64 (by omega) (by omega)) <| lx_ixB (i := t) (t) rfl Try.underlying48 Try.sizeOf3 rfl rfl (by omega) (by omega) <| lx_stB (.int .i64 (((ur (gt gv2 t)) % hsp.length : Nat) : Int)) rfl rfl Try.sizeOf3 hbk6 (by rw [ic_size]; first | omega | (simp only [List.length_set, List.length_append, List.length_cons, List.length_nil, List.length_replicate, List.length_take, swp_length, exch_length]; omega)) rfl rfl rfl rfl (fun _ _ _ _ => trivial) fun h14 hbk8 hc2 => ?_
      have hx0_15 := hx0_14.trans (hc2.ext hbb1)
      have ho68 := hc2.owE ho62 (nb_new hbk1 ho1)
      have hot44 := hot41.chgB hc2 (nbt_ty hot41 hbk6 (by decide))
      have ho69 := hc2.owE ho63 (nb_new hb1 ho3)
      have hot45 := hot42.chgB hc2 (nbt_ty hot42 hbk6 (by decide))
      have ho70 := hc2.owE ho64 (nb_new hb1 ho4)
      have hot46 := hot43.chgB hc2 (nbt_ty hot43 hbk6 (by decide))
      have ho71 := hc2.owE ho65 (nb_new hb4 ho14)
      have ho72 := hc2.owE ho66 (nb_new hb8 ho31)
      have ho73 := hc2.owE ho67 (nb_new hb9 ho37)
      have hb17 := hc2.blk hbk7 hne1
      rw [ic_set] at hbk8
      refine lx_nil <| wi_inBlock <| wi_reg rfl <| lx_move (.int .i64 ((t : Nat) : Int)) rfl rfl <| lx_add (((t + 1 : Nat) : Int)) rfl rfl rfl (by omega) (by omega) (by omega) <| lx_assign (.int .i64 ((t + 1 : Nat) : Int)) rfl rfl <| lx_nil <| ?_
      -- L2.1
      refine IH2 _ _ (t + 1, gv2.set t ((((ur (gt gv2 t)) % hsp.length : Nat) : Int))) (agree_ups rfl agree_self) ⟨rfl, trivial⟩ ⟨?_, ?_, ?_, ?_, ?_, ?_, ?_, ?_, ?_, ?_, ?_, hx0_15, ?_, ?_⟩ ?_
      · exact hbk8
      · first | exact ho68 | (simpa using ho68)
      · first | exact hot44 | (simpa using hot44)
      · first | exact ho69 | (simpa using ho69)
      · first | exact hot45 | (simpa using hot45)
      · first | exact ho70 | (simpa using ho70)
      · first | exact hot46 | (simpa using hot46)
      · first | exact ho71 | (simpa using ho71)
      · first | exact ho72 | (simpa using ho72)
      · first | exact ho73 | (simpa using ho73)
      · exact hb17
      · try dsimp only
        omega
      · try dsimp only
        rw [List.length_set]; exact hgl2
      · first | omega | (dsimp only; omega)
    · refine lx_nil <| wi_false rfl <| wi_exit rfl <| wi_inBlock <| wi_reg rfl <| lx_move (.int .i64 ((m : Nat) : Int)) rfl rfl <| lx_add (((m + 1 : Nat) : Int)) rfl rfl rfl (by omega) (by omega) (by omega) <| lx_assign (.int .i64 ((m + 1 : Nat) : Int)) rfl rfl <| lx_nil <| ?_
      -- L0.1
      refine IH1 _ _ (m + 1, gv2) (agree_ups rfl (agree_mix (rngB_sub (by decide) (by decide) rfl) (agree_ups rfl agree_self))) ⟨rfl, trivial⟩ ⟨?_, ?_, ?_, ?_, ?_, ?_, ?_, ?_, ?_, ?_, ?_, hx0_14, ?_, ?_⟩ ?_
      · exact hbk6
      · first | exact ho62 | (simpa using ho62)
      · first | exact hot41 | (simpa using hot41)
      · first | exact ho63 | (simpa using ho63)
      · first | exact hot42 | (simpa using hot42)
      · first | exact ho64 | (simpa using ho64)
      · first | exact hot43 | (simpa using hot43)
      · first | exact ho65 | (simpa using ho65)
      · first | exact ho66 | (simpa using ho66)
      · first | exact ho67 | (simpa using ho67)
      · exact hbk7
      · try dsimp only
        omega
      · try dsimp only
        exact hgl2
      · first | omega | (dsimp only; omega)
  · refine lx_nil <| wi_false rfl <| wi_exit rfl <| wi_seq <| wi_seq <| wi_reg rfl <| lx_move (.bool gb) rfl rfl <| lx_nil <| wi_condS (t := gb) rfl (fun c3 => ?_) (fun c3 => ?_)
    · refine wi_seq <| wi_reg rfl <| ?_
      have hgt : gb = true := by assumption
      have hng : ngB p.length (pb p) = false := by rw [hgt] at hgb; simpa using hgb.symm
      rw [hng] at hon
      have hop9 : opnC p = 91 := hon
      have hrj0 : rj.length = 0 ∧ rm.length = 0 := by
        rcases hop.1 with ⟨_, h1, h2⟩ | ⟨h1, _⟩
        · rw [h1, h2]; exact ⟨rfl, rfl⟩
        · omega
      obtain ⟨hrj0, hrm0⟩ := hrj0
      have hbc : birC p = 91 := by unfold birC; rw [if_neg (by omega)]; exact hop9
      have hje0 : je.length = 0 := by rw [hje, if_neg (by omega)]; rfl
      have hbi0 : bi.length = 0 := by rw [hbi, if_neg (by omega)]; rfl
      have hcr0 : cr.length = 0 := by rw [hcr, if_neg (by omega)]; rfl
      have hxf : xbb = false := hxb.elim (fun h => h.2.2) fun h => absurd h.1 (by omega)
      subst hxf
      refine lx_move (vj) rfl rfl <| lx_len rfl Try.underlying49 ho45.rd rfl <| lx_move (vm) rfl rfl <| lx_len rfl Try.underlying49 ho46.rd rfl <| lx_add (((hj.length + hm.length : Nat) : Int)) rfl rfl rfl (by omega) (by omega) (by omega) <| lx_eqlT rfl rfl rfl (by omega) <| lx_move (.bool true) rfl rfl <| lx_move (.int .i64 (opnC p)) rfl rfl <| lx_eqlT rfl rfl rfl hop9 <| lx_pick true (.bool true) rfl rfl rfl <| lx_move (.bool true) rfl rfl <| lx_move (.int .i64 (opnC p)) rfl rfl <| lx_eqlT rfl rfl rfl hop9 <| lx_pick true (.bool true) rfl rfl rfl <| lx_move (.bool true) rfl rfl <| lx_move (.int .i64 (birC p)) rfl rfl <| lx_eqlT rfl rfl rfl hbc <| lx_pick true (.bool true) rfl rfl rfl <| lx_move (.bool true) rfl rfl <| lx_move (.int .i64 (opnC p)) rfl rfl <| lx_eqlT rfl rfl rfl hop9 <| lx_pick true (.bool true) rfl rfl rfl <| lx_move (.bool true) rfl rfl <| lx_move (.bool false) rfl rfl <| lx_notB true rfl rfl rfl <| lx_pick true (.bool true) rfl rfl rfl <| lx_move (.bool true) rfl rfl <| lx_move (vje) rfl rfl <| lx_len rfl Try.underlying25 ho47.rd rfl <| lx_move (vbi) rfl rfl <| lx_len rfl Try.underlying25 ho48.rd rfl <| lx_add (((je.length + bi.length : Nat) : Int)) rfl rfl rfl (by omega) (by omega) (by omega) <| lx_move (vcr) rfl rfl <| lx_len rfl Try.underlying58 ho49.rd rfl <| lx_add (((je.length + bi.length + cr.length : Nat) : Int)) rfl rfl rfl (by omega) (by omega) (by omega) <| lx_eqlT rfl rfl rfl (by omega) <| lx_pick true (.bool true) rfl rfl rfl <| lx_move (.bool true) rfl rfl <| lx_call [] rfl rfl Try.call20 rfl (awake_spec hh1 ) (fun _ _ _ => trivial) ?_
      rintro _ h15 ⟨rfl, hx13⟩
      have hx0_16 := hx0_11.trans2 hx13 hx0_11.size
      have ho74 := ho44.extS hx13
      have hot47 := hot32.extS hx13
      have ho75 := ho45.extS hx13
      have hot48 := hot33.extS hx13
      have ho76 := ho46.extS hx13
      have hot49 := hot34.extS hx13
      have ho77 := ho47.extS hx13
      have ho78 := ho48.extS hx13
      have ho79 := ho49.extS hx13
      have hb18 := hbk4.extS hx13
      have hb19 := hbk5.extS hx13
      refine lx_pick true (.bool true) rfl rfl rfl <| lx_assign (.bool true) rfl rfl <| lx_nil <| ?_
      -- R1
      refine wi_ret ⟨.bool true, (res_one rfl rfl), ⟨rfl, hx0_16⟩⟩
    · refine wi_skip <| wi_seq <| wi_reg rfl <| ?_
      have hgt : gb = false := by assumption
      have hng : ngB p.length (pb p) = true := by rw [hgt] at hgb; simpa using hgb.symm
      rw [hng] at hon
      have hop9 : opnC p = 0 := hon
      have hngp : noGap p.length (pb p) := ngB_iff.1 hng
      obtain ⟨hrj, hrm⟩ := opnP_ok hop.1 hop9
      have hje1 : je = jelF p.length (pb p) := by rw [hje, if_pos hop9]
      have hcr1 : cr = crF p.length (pb p) := by rw [hcr, if_pos hop9]
      have hxr := hxb.elim (fun h => absurd hop9 h.1) fun h => h.2
      have hxd := badR_dist hio hngp hxr
      have hbc := birC_of hop9 hxd
      have hjl9 := jel_len p.length (pb p)
      have hal9 := atL_len p.length (pb p)
      have hcl9 : (crF p.length (pb p)).length = (atL p.length (pb p)).length + 1 := crL_len _ _ _ _ _ _
      refine lx_move (vp) rfl rfl <| lx_call [vp] rfl rfl Try.call38 rfl (rlattice_spec hh1 vp hsp p ho44.rd hot32.rt (by omega) hpq) (fun _ _ _ => trivial) ?_
      rintro _ h16 ⟨vj2, vm2, hj2, hm2, rj2, rm2, rfl, ho80, hot50, ho81, hot51, hrj2, hrm2, hx14⟩
      have hx0_17 := hx0_11.trans2 hx14 hx0_11.size
      have ho82 := ho44.extS hx14
      have hot52 := hot32.extS hx14
      have ho83 := ho45.extS hx14
      have hot53 := hot33.extS hx14
      have ho84 := ho46.extS hx14
      have hot54 := hot34.extS hx14
      have ho85 := ho47.extS hx14
      have ho86 := ho48.extS hx14
      have ho87 := ho49.extS hx14
      have hb20 := hbk4.extS hx14
      have hb21 := hbk5.extS hx14
      have ho88 := ho80.base hx0_11.size
      have hot55 := hot50.base hx0_11.size
      have hl_hot55 := hot55.1
      have ho89 := ho81.base hx0_11.size
      have hot56 := hot51.base hx0_11.size
      have hl_hot56 := hot56.1
      refine lx_move (.tuple #[vj2, vm2]) rfl rfl <| lx_extract (vj2) rfl rfl rfl <| lx_extract (vm2) rfl rfl rfl <| lx_assign (vj2) rfl rfl <| lx_assign (vm2) rfl rfl <| lx_nil <| wi_seq <| wi_seq <| wi_reg rfl <| lx_move (vj) rfl rfl <| lx_move (vj2) rfl rfl <| lx_call [vj, vj2] rfl rfl Try.call39 rfl (rows9_spec h16 vj hj rj vj2 hj2 rj2 ho83.rd hot53.rt ho88.rd hot55.rt (tabI_le hrj (by omega)).1 (tabI_le hrj2 (by omega)).1 (tabI_le hrj (by omega)).2 (tabI_le hrj2 (by omega)).2) (fun _ _ _ => trivial) ?_
      rintro _ h17 ⟨rfl, rfl⟩
      rw [decide_eq_true (hrj.trans hrj2.symm)]
      refine lx_notB false rfl rfl rfl <| lx_move (.bool false) rfl rfl <| lx_move (vm) rfl rfl <| lx_move (vm2) rfl rfl <| lx_call [vm, vm2] rfl rfl Try.call39 rfl (rows9_spec h16 vm hm rm vm2 hm2 rm2 ho84.rd hot54.rt ho89.rd hot56.rt (tabI_le hrm (by omega)).1 (tabI_le hrm2 (by omega)).1 (tabI_le hrm (by omega)).2 (tabI_le hrm2 (by omega)).2) (fun _ _ _ => trivial) ?_
      rintro _ h18 ⟨rfl, rfl⟩
      rw [decide_eq_true (hrm.trans hrm2.symm)]
      refine lx_notB false rfl rfl rfl <| lx_pick false (.bool false) rfl rfl rfl <| lx_move (.bool false) rfl rfl <| lx_move (.int .i64 (opnC p)) rfl rfl <| lx_neqF rfl rfl rfl (fun h9 => h9 hop9) <| lx_pick false (.bool false) rfl rfl rfl <| lx_move (.bool false) rfl rfl <| lx_move (.int .i64 (opnC p)) rfl rfl <| lx_neqF rfl rfl rfl (fun h9 => h9 hop9) <| lx_pick false (.bool false) rfl rfl rfl <| lx_move (.bool false) rfl rfl <| lx_move (.int .i64 (opnC p)) rfl rfl <| lx_neqF rfl rfl rfl (fun h9 => h9 hop9) <| lx_pick false (.bool false) rfl rfl rfl <| lx_move (.bool false) rfl rfl <| lx_move (vje) rfl rfl <| lx_move (vp) rfl rfl <| lx_call [vp] rfl rfl Try.call40 rfl (rjoinEls_spec h16 vp hsp p ho82.rd hot52.rt (by omega) hpq) (fun _ _ _ => trivial) ?_
      rintro vje2 h19 ⟨_, rfl, ho90, hx15⟩
      have hx0_18 := hx0_17.trans2 hx15 hx0_17.size
      have ho91 := ho82.extS hx15
      have hot57 := hot52.extS hx15
      have ho92 := ho83.extS hx15
      have hot58 := hot53.extS hx15
      have ho93 := ho84.extS hx15
      have hot59 := hot54.extS hx15
      have ho94 := ho85.extS hx15
      have ho95 := ho86.extS hx15
      have ho96 := ho87.extS hx15
      have ho97 := ho88.extS hx15
      have hot60 := hot55.extS hx15
      have ho98 := ho89.extS hx15
      have hot61 := hot56.extS hx15
      have hb22 := hb20.extS hx15
      have hb23 := hb21.extS hx15
      have ho99 := ho90.base hx0_17.size
      refine lx_call [vje, vje2] rfl rfl Try.call19 rfl (ints_spec h19 vje je vje2 (jelF p.length (pb p)) ho94.rd ho99.rd (by rw [hje1]; omega) (by omega)) (fun _ _ _ => trivial) ?_
      rintro _ h20 ⟨rfl, rfl⟩
      rw [decide_eq_true hje1]
      refine lx_notB false rfl rfl rfl <| lx_pick false (.bool false) rfl rfl rfl <| lx_move (.bool false) rfl rfl <| lx_move (vcr) rfl rfl <| lx_move (vp) rfl rfl <| lx_call [vp] rfl rfl Try.call42 rfl (rcrosscut_spec h19 vp hsp p ho91.rd hot57.rt (by omega) hpq hio hngp (by omega)) (fun _ _ _ => trivial) ?_
      rintro vcr2 h21 ⟨_, rfl, ho100, hx16⟩
      have hx0_19 := hx0_18.trans2 hx16 hx0_18.size
      have ho101 := ho91.extS hx16
      have hot62 := hot57.extS hx16
      have ho102 := ho92.extS hx16
      have hot63 := hot58.extS hx16
      have ho103 := ho93.extS hx16
      have hot64 := hot59.extS hx16
      have ho104 := ho94.extS hx16
      have ho105 := ho95.extS hx16
      have ho106 := ho96.extS hx16
      have ho107 := ho97.extS hx16
      have hot65 := hot60.extS hx16
      have ho108 := ho98.extS hx16
      have hot66 := hot61.extS hx16
      have ho109 := ho99.extS hx16
      have hb24 := hb22.extS hx16
      have hb25 := hb23.extS hx16
      have ho110 := ho100.base hx0_18.size
      refine lx_call [vcr, vcr2] rfl rfl Try.call41 rfl (longs_spec h21 vcr cr vcr2 (crF p.length (pb p)) ho106.rd ho110.rd (by rw [hcr1]; omega) (by omega)) (fun _ _ _ => trivial) ?_
      rintro _ h22 ⟨rfl, rfl⟩
      rw [decide_eq_true hcr1]
      refine lx_notB false rfl rfl rfl <| lx_pick false (.bool false) rfl rfl rfl <| lx_nil <| wi_false rfl <| wi_skip <| wi_seq <| wi_seq <| wi_reg rfl <| lx_move (vp) rfl rfl <| lx_call [vp] rfl rfl Try.call43 rfl (rdist_spec h21 vp hsp p ho101.rd hot62.rt (by omega) hpq hio hngp) (fun _ _ _ => trivial) ?_
      rintro _ h23 ⟨rfl, hx17⟩
      have hx0_20 := hx0_19.trans2 hx17 hx0_19.size
      have ho111 := ho101.extS hx17
      have hot67 := hot62.extS hx17
      have ho112 := ho102.extS hx17
      have hot68 := hot63.extS hx17
      have ho113 := ho103.extS hx17
      have hot69 := hot64.extS hx17
      have ho114 := ho104.extS hx17
      have ho115 := ho105.extS hx17
      have ho116 := ho106.extS hx17
      have ho117 := ho107.extS hx17
      have hot70 := hot65.extS hx17
      have ho118 := ho108.extS hx17
      have hot71 := hot66.extS hx17
      have ho119 := ho109.extS hx17
      have ho120 := ho110.extS hx17
      have hb26 := hb24.extS hx17
      have hb27 := hb25.extS hx17
      refine lx_nil <| wi_condS (t := distB p.length (pb p)) rfl (fun c4 => ?_) (fun c4 => ?_)
      · refine wi_seq <| wi_reg rfl <| ?_
        have hdt : distB p.length (pb p) = true := by assumption
        rw [hdt] at hxd
        have hxf : xbb = false := hxd
        subst hxf
        have hbc0 : birC p = 0 := hbc
        have hbi1 : bi = birF p.length (pb p) := by rw [hbi, if_pos hbc0]
        have hbl : (birF p.length (pb p)).length = p.length := mapR_len _ _
        refine lx_move (.bool false) rfl rfl <| lx_notB true rfl rfl rfl <| lx_move (.bool true) rfl rfl <| lx_move (.int .i64 (birC p)) rfl rfl <| lx_eqlT rfl rfl rfl hbc0 <| lx_pick true (.bool true) rfl rfl rfl <| lx_move (.bool true) rfl rfl <| lx_move (vbi) rfl rfl <| lx_move (vp) rfl rfl <| lx_call [vp] rfl rfl Try.call44 rfl (rbirk_spec h23 vp hsp p ho111.rd hot67.rt (by omega) hpq) (fun _ _ _ => trivial) ?_
        rintro vbi2 h24 ⟨_, rfl, ho121, hx18⟩
        have hx0_21 := hx0_20.trans2 hx18 hx0_20.size
        have ho122 := ho111.extS hx18
        have hot72 := hot67.extS hx18
        have ho123 := ho112.extS hx18
        have hot73 := hot68.extS hx18
        have ho124 := ho113.extS hx18
        have hot74 := hot69.extS hx18
        have ho125 := ho114.extS hx18
        have ho126 := ho115.extS hx18
        have ho127 := ho116.extS hx18
        have ho128 := ho117.extS hx18
        have hot75 := hot70.extS hx18
        have ho129 := ho118.extS hx18
        have hot76 := hot71.extS hx18
        have ho130 := ho119.extS hx18
        have ho131 := ho120.extS hx18
        have hb28 := hb26.extS hx18
        have hb29 := hb27.extS hx18
        have ho132 := ho121.base hx0_20.size
        refine lx_call [vbi, vbi2] rfl rfl Try.call19 rfl (ints_spec h24 vbi bi vbi2 (birF p.length (pb p)) ho126.rd ho132.rd (by rw [hbi1]; omega) (by omega)) (fun _ _ _ => trivial) ?_
        rintro _ h25 ⟨rfl, rfl⟩
        rw [decide_eq_true hbi1]
        refine lx_pick true (.bool true) rfl rfl rfl <| lx_move (.bool true) rfl rfl <| lx_call [] rfl rfl Try.call20 rfl (awake_spec h24 ) (fun _ _ _ => trivial) ?_
        rintro _ h26 ⟨rfl, hx19⟩
        have hx0_22 := hx0_21.trans2 hx19 hx0_21.size
        have ho133 := ho122.extS hx19
        have hot77 := hot72.extS hx19
        have ho134 := ho123.extS hx19
        have hot78 := hot73.extS hx19
        have ho135 := ho124.extS hx19
        have hot79 := hot74.extS hx19
        have ho136 := ho125.extS hx19
        have ho137 := ho126.extS hx19
        have ho138 := ho127.extS hx19
        have ho139 := ho128.extS hx19
        have hot80 := hot75.extS hx19
        have ho140 := ho129.extS hx19
        have hot81 := hot76.extS hx19
        have ho141 := ho130.extS hx19
        have ho142 := ho131.extS hx19
        have ho143 := ho132.extS hx19
        have hb30 := hb28.extS hx19
        have hb31 := hb29.extS hx19
        refine lx_pick true (.bool true) rfl rfl rfl <| lx_assign (.bool true) rfl rfl <| lx_nil <| ?_
        -- R2
        refine wi_ret ⟨.bool true, (res_one rfl rfl), ⟨rfl, hx0_22⟩⟩
      · refine wi_skip <| wi_seq <| wi_reg rfl <| ?_
        have hdt : distB p.length (pb p) = false := by assumption
        rw [hdt] at hxd
        have hxf : xbb = true := hxd
        subst hxf
        have hbc0 : birC p = 91 := hbc
        have hbi0 : bi.length = 0 := by rw [hbi, if_neg (by omega)]; rfl
        have hbz : badZ p xo xa xb xc xi := by
          rcases hxr with ⟨_, h2, h3, h4, h5, h6, h7⟩ | ⟨h1, _⟩
          · exact ⟨hop9, ⟨⟨by omega, by omega⟩, ⟨by omega, by omega⟩, ⟨by omega, by omega⟩, ⟨by omega, by omega⟩, ⟨by omega, by omega⟩⟩, h2⟩
          · cases h1
        have hbl : badL p [((xo : Nat) : Int), ((xa : Nat) : Int), ((xb : Nat) : Int), ((xc : Nat) : Int), ((xi : Nat) : Int)] := hbz
        refine lx_move (.bool true) rfl rfl <| lx_move (.bool true) rfl rfl <| lx_move (vp) rfl rfl <| lx_ldBA rfl rfl wd48 hb27 rfl rfl <| lx_call [vp, .agg #[.int .i64 ((xo : Nat) : Int), .int .i64 ((xa : Nat) : Int), .int .i64 ((xb : Nat) : Int), .int .i64 ((xc : Nat) : Int), .int .i64 ((xi : Nat) : Int)]] rfl rfl Try.call37 rfl (risBad_spec h23 vp hsp p ([((xo : Nat) : Int), ((xa : Nat) : Int), ((xb : Nat) : Int), ((xc : Nat) : Int), ((xi : Nat) : Int)]) ho111.rd hot67.rt (by omega) hle rfl) (fun _ _ _ => trivial) ?_
        rintro _ h27 ⟨rfl, hx20⟩
        have hx0_23 := hx0_20.trans2 hx20 hx0_20.size
        have ho144 := ho111.extS hx20
        have hot82 := hot67.extS hx20
        have ho145 := ho112.extS hx20
        have hot83 := hot68.extS hx20
        have ho146 := ho113.extS hx20
        have hot84 := hot69.extS hx20
        have ho147 := ho114.extS hx20
        have ho148 := ho115.extS hx20
        have ho149 := ho116.extS hx20
        have ho150 := ho117.extS hx20
        have hot85 := hot70.extS hx20
        have ho151 := ho118.extS hx20
        have hot86 := hot71.extS hx20
        have ho152 := ho119.extS hx20
        have ho153 := ho120.extS hx20
        have hb32 := hb26.extS hx20
        have hb33 := hb27.extS hx20
        rw [decide_eq_true hbl]
        refine lx_pick true (.bool true) rfl rfl rfl <| lx_move (.bool true) rfl rfl <| lx_move (vp) rfl rfl <| lx_ldBA rfl rfl wd48 hb33 rfl rfl <| lx_call [vp, .agg #[.int .i64 ((xo : Nat) : Int), .int .i64 ((xa : Nat) : Int), .int .i64 ((xb : Nat) : Int), .int .i64 ((xc : Nat) : Int), .int .i64 ((xi : Nat) : Int)]] rfl rfl Try.call36 rfl (oisBad_spec h27 vp hsp p (((xo : Nat) : Int)) (((xa : Nat) : Int)) (((xb : Nat) : Int)) (((xc : Nat) : Int)) (((xi : Nat) : Int)) ho144.rd hot82.rt (by omega) hle) (fun _ _ _ => trivial) ?_
        rintro _ h28 ⟨rfl, hx21⟩
        have hx0_24 := hx0_23.trans2 hx21 hx0_23.size
        have ho154 := ho144.extS hx21
        have hot87 := hot82.extS hx21
        have ho155 := ho145.extS hx21
        have hot88 := hot83.extS hx21
        have ho156 := ho146.extS hx21
        have hot89 := hot84.extS hx21
        have ho157 := ho147.extS hx21
        have ho158 := ho148.extS hx21
        have ho159 := ho149.extS hx21
        have ho160 := ho150.extS hx21
        have hot90 := hot85.extS hx21
        have ho161 := ho151.extS hx21
        have hot91 := hot86.extS hx21
        have ho162 := ho152.extS hx21
        have ho163 := ho153.extS hx21
        have hb34 := hb32.extS hx21
        have hb35 := hb33.extS hx21
        rw [decide_eq_true hbz]
        refine lx_pick true (.bool true) rfl rfl rfl <| lx_move (.bool true) rfl rfl <| lx_move (.int .i64 (birC p)) rfl rfl <| lx_eqlT rfl rfl rfl hbc0 <| lx_pick true (.bool true) rfl rfl rfl <| lx_move (.bool true) rfl rfl <| lx_move (vbi) rfl rfl <| lx_len rfl Try.underlying25 ho158.rd rfl <| lx_eqlT rfl rfl rfl (by omega) <| lx_pick true (.bool true) rfl rfl rfl <| lx_move (.bool true) rfl rfl <| lx_call [] rfl rfl Try.call20 rfl (awake_spec h28 ) (fun _ _ _ => trivial) ?_
        rintro _ h29 ⟨rfl, hx22⟩
        have hx0_25 := hx0_24.trans2 hx22 hx0_24.size
        have ho164 := ho154.extS hx22
        have hot92 := hot87.extS hx22
        have ho165 := ho155.extS hx22
        have hot93 := hot88.extS hx22
        have ho166 := ho156.extS hx22
        have hot94 := hot89.extS hx22
        have ho167 := ho157.extS hx22
        have ho168 := ho158.extS hx22
        have ho169 := ho159.extS hx22
        have ho170 := ho160.extS hx22
        have hot95 := hot90.extS hx22
        have ho171 := ho161.extS hx22
        have hot96 := hot91.extS hx22
        have ho172 := ho162.extS hx22
        have ho173 := ho163.extS hx22
        have hb36 := hb34.extS hx22
        have hb37 := hb35.extS hx22
        refine lx_pick true (.bool true) rfl rfl rfl <| lx_assign (.bool true) rfl rfl <| lx_nil <| ?_
        -- R3
        refine wi_ret ⟨.bool true, (res_one rfl rfl), ⟨rfl, hx0_25⟩⟩

end Go.Proofs.Ytdokijbdnajhgaa
namespace Go.Proofs.Ytdokijbdnajhgaa
open Go Go.X Go.ChangeShapes Go.WideShapes Go.ChangeAt Go.RowKit

theorem orderLattices_own : ownKnob Try.prog.godebug = none := by kernel_rfl
theorem orderLattices_laidOut : laidOutB Try.prog = true := by kernel_rfl

set_option maxRecDepth 100000 in
theorem orderLattices_lifted (os : Os) (started : os.Started) (H : Type) (enc : TypeId × Value → H) :
    ReturnsInHanded {} Try.checked os 5 .any (Rows.orderLatticesSpec.pre6 enc Try.prog Try.f5 Rows.orderLatticesRow.domain false) (Rows.orderLatticesSpec.post enc Try.prog Try.f5 false true false false) := by
  refine returnsInHanded_of_change (C := Try.checked) orderLattices_own started (by kernel_rfl) Try.func5
    (ChangeSpec.witness6 (enc := enc) (C := Try.checked) false ⟨#[], #[.int .i64 0, .slice none 0 0, .agg #[.int .i64 0, .int .i64 0, .int .i64 0, .int .i64 0, .int .i64 0]], []⟩ 8 (by kernel_rfl) (by kernel_rfl) (by kernel_rfl) (by kernel_rfl)) ?_
  intro W base args ds gs before hval0 hW hcnd _
  have hval : ∀ (j : Nat) t v, Try.f5.params[j]? = some t → args[j]? = some v → Value.okWide Try.prog W .any base t v := hval0
  have hW' := hW
  obtain ⟨p, q, hA0, hV, rfl, hfz, hnd⟩ := hW
  have hA : DataW.TrodAll enc Try.prog W 0 (fun _ => true) true Try.f5.params.toList args.toList ds p := hA0
  rw [Try.params5] at hA hval
  obtain ⟨v0, vs0, d0, ds0, p0, q0, hargs, rfl, rfl, h0, r0⟩ := trodAll_cons hA
  obtain ⟨v1, vs1, d1, ds1, p1, q1, rfl, rfl, rfl, h1, r1⟩ := trodAll_cons r0
  obtain ⟨v2, vs2, d2, ds2, p2, q2, rfl, rfl, rfl, h2, r2⟩ := trodAll_cons r1
  obtain ⟨rfl, rfl, rfl⟩ := trodAll_nil r2
  obtain rfl : args = #[v0, v1, v2] := by cases args; simp_all
  obtain ⟨rfl, rfl⟩ := trodVars_none hV
  obtain ⟨n, rfl, rfl, rfl, w0⟩ := open_int Try.underlying3 (hval 0 3 v0 rfl rfl) h0
  have hb_n := bounds_i64 w0
  have k1 := h1
  have lt1 : ∀ x ∈ p1, x.block < W.heap.size := by obtain ⟨m, hm⟩ := k1; exact DataW.trod_lt m _ _ _ hm
  obtain ⟨l, hr_l, hl_l, hb_l⟩ := lift_pairs Try.underlying22 Try.underlying85 Try.underlying3 (by kernel_rfl) (by kernel_rfl) (hval 1 22 v1 rfl rfl) h1
  have A2 : Go.WideMaps.ArrKey Try.prog 48 3 5 := ⟨Try.underlying48, by kernel_rfl, by kernel_rfl, by kernel_rfl⟩
  obtain ⟨y0, y1, y2, y3, y4, rfl, rfl, rfl, wa2⟩ := Go.X.open_five A2 Try.underlying3 (hval 2 48 v2 rfl rfl) h2
  clear hA0 hval0
  refine (lift_walk (args := [.int .i64 n, v1, .agg #[.int .i64 y0, .int .i64 y1, .int .i64 y2, .int .i64 y3, .int .i64 y4]]) (orderLattices_spec W.heap n v1 l [y0, y1, y2, y3, y4] hr_l hl_l rfl)).mono fun e W' ⟨he, bel⟩ => ?_
  subst he
  exact ⟨_, rfl, _, _, _, [], _, [], hW', trodAll_mk1 (shut_bool Try.underlying4 _), (trodAll_cons_mk (shut_int Try.underlying3 w0) (trodAll_cons_mk (Below.trod orderLattices_laidOut (by kernel_rfl) (of_decide_eq_true (by kernel_rfl)) k1 bel lt1) (trodAll_cons_mk (Go.X.shut_five A2 Try.underlying3 wa2) trodAll_mk0))), rfl, bel.frame _, fun h => by cases h⟩

theorem orderLattices_holds : Rows.OrderLatticesSaid :=
  OpenClaim.holds_of_wide 5 Try.f5 rfl rfl rfl rfl rfl rfl rfl ⟨rfl, rfl, rfl, rfl, rfl⟩ rfl rfl rfl rfl rfl (by kernel_rfl) Try.func5 (by kernel_rfl)
    (of_decide_eq_true (by kernel_rfl)) (by unfold Func.isWrapper; first | (rw [if_pos (by decide +kernel)]; kernel_rfl) | (rw [if_neg (by decide +kernel)]; exact ⟨rfl, rfl⟩))
    (fun os started H enc _ => orderLattices_lifted os started H enc)
#print axioms orderLattices_holds
end Go.Proofs.Ytdokijbdnajhgaa
