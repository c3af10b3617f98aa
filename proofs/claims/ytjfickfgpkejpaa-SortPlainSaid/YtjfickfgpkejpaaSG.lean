/-
  Walk: SortRows.
-/
import Derived.Test.YtjfickfgpkejpaaSF
import Derived.Test.YtjfickfgpkejpaaXDisj
set_option linter.unusedSimpArgs false
set_option linter.unusedVariables false
namespace Go.Proofs.Ytjfickfgpkejpaa
open Go Go.X

theorem bad_ {a : Int} {Q R : Prop} (h : (a ≠ 0 ∧ Q) ∨ (a = 0 ∧ R)) (ha : a ≠ 0) : Q := h.elim (fun h => h.2) fun h => absurd h.1 ha
theorem good_ {a : Int} {Q R : Prop} (h : (a ≠ 0 ∧ Q) ∨ (a = 0 ∧ R)) (ha : a = 0) : R := h.elim (fun h => absurd ha h.1) fun h => h.2
theorem chk1_long {xs : List Int} {x : Int} (h : 200 < xs.length) : chkRow xs [x] = 2 := by
  unfold chkRow; rw [if_pos (by omega)]
theorem chk1_short {xs : List Int} {x : Int} (h : ¬ 200 < xs.length) : chkRow xs [x] = if x < 1 then 1 else 0 := by
  unfold chkRow; rw [if_neg (by simp; omega)]; simp
theorem chk_two {xs gs : List Int} (h : 200 < xs.length ∨ 20 < gs.length) : chkRow xs gs = 2 := by
  unfold chkRow; rw [if_pos h]
theorem chk_w {xs gs : List Int} {w : Int} {j : Nat} (h1 : ¬ 200 < xs.length) (h2 : ¬ 20 < gs.length) (hj : gs.length ≤ j) (hw : (w = 0 ∧ ∀ i, i < j → i < gs.length → ¬ gt gs i < 1) ∨ (w = 1 ∧ ∃ i, i < gs.length ∧ gt gs i < 1)) : chkRow xs gs = w := by
  unfold chkRow
  rw [if_neg (by omega)]
  rcases hw with ⟨rfl, h⟩ | ⟨rfl, i, hi, h⟩
  · rw [if_neg]
    rw [Bool.not_eq_true, List.any_eq_false]
    intro x hx
    obtain ⟨i, hi, rfl⟩ := mem_gt hx
    simpa using h i (by omega) hi
  · rw [if_pos]
    rw [List.any_eq_true]
    exact ⟨_, gt_mem hi, by simpa using h⟩
theorem ShellTo_uniq : ∀ {k : Nat} {gs xs ys zs : List Int} {n p : Nat}, (∀ i, i < k → 1 ≤ gt gs i) → ShellTo k gs xs ys n → ShellTo k gs xs zs p → ys = zs ∧ n = p
  | 0, _, _, _, _, _, _, _, ⟨h1, h2⟩, ⟨h3, h4⟩ => ⟨by rw [h1, h3], by omega⟩
  | k + 1, gs, xs, ys, zs, n, p, hg, ⟨us, a, b, h1, h2, h3, h4⟩, ⟨vs, c, d, i1, i2, i3, i4⟩ => by
    obtain ⟨rfl, rfl⟩ := ShellTo_uniq (fun i hi => hg i (by omega)) h1 i1
    have hk := hg k (by omega)
    have e1 := GS_count (by omega) h2 h3
    have e2 := GS_count (by omega) i2 i3
    exact ⟨GS_uniq h2 i2 h3 i3, by omega⟩
theorem take_b {gs : List Int} {u : Nat} {lo hi : Int} (h : ∀ i, i < gs.length → lo ≤ gt gs i ∧ gt gs i ≤ hi) : ∀ i, i < (gs.take u).length → lo ≤ gt (gs.take u) i ∧ gt (gs.take u) i ≤ hi := by
  intro i hi
  rw [List.length_take] at hi
  have e : gt (gs.take u) i = gt gs i := by
    simp only [gt, List.getD_eq_getElem?_getD, List.getElem?_take]
    rw [if_pos (by omega)]
  rw [e]; exact h i (by omega)
theorem set_b {gs : List Int} {j : Nat} {x lo hi : Int} (hj : j < gs.length) (hx : lo ≤ x ∧ x ≤ hi) (h : ∀ i, i < gs.length → lo ≤ gt gs i ∧ gt gs i ≤ hi) : ∀ i, i < gs.length → lo ≤ gt (gs.set j x) i ∧ gt (gs.set j x) i ≤ hi := by
  intro i hi
  rw [gt_set hj]
  split
  · exact hx
  · exact h i hi

set_option maxRecDepth 10000 in
theorem sortRows_spec (h : Heap) (vv : Value) (xs : List Int) (h0 : Int) (vgp : Value) (gp : List Int) (hr_vv : RdE encI h vv xs) (hr_vgp : RdE encI h vgp gp) (hp1 : xs.length ≤ 9223372036854775807) (hp2 : -9223372036854775808 ≤ h0) (hp3 : h0 ≤ 9223372036854775807) (hp4 : gp.length ≤ 9223372036854775807) (hp5 : ∀ i, i < gp.length → -9223372036854775808 ≤ gt gp i ∧ gt gp i ≤ 9223372036854775807) : Fx Try.prog 6 [vv, .int .i64 h0, vgp] h (fun v h' => v = .bool true ∧ Ext h.size h h') := by
  refine fx_intro (n := 284) [(0, vv), (1, .int .i64 h0), (2, vgp)] Try.func6 rfl rfl (by simp) ⟨rfl, rfl, rfl, trivial⟩ fun g0 => ?_
  refine wi_seq <| wi_reg rfl <| lx_assign (.bool false) rfl rfl <| lx_nil <| wi_seq <| wi_reg rfl <| lx_assign (.slice none 0 0) rfl rfl <| lx_nil <| wi_seq <| wi_reg rfl <| lx_move (.slice none 0 0) rfl rfl <| lx_move (vv) rfl rfl <| lx_move (vv) rfl rfl <| lx_len rfl Try.underlying29 hr_vv rfl <| lx_min (((min xs.length 202 : Nat) : Int)) rfl rfl rfl (by omega) <| lx_slice (E := encI) 0 (min xs.length 202) rfl eT29 rfl rfl ⟨_, rfl⟩ hr_vv (by omega) (by omega) fun v1 hs1 hso1 => ?_
  have hr1 := sl_rd hr_vv hs1 (by omega)
  refine lx_append (E := encI) (B := h.size) (xs := []) (ys := xs.take (min xs.length 202)) rfl rfl eT29 (owE_nil encI _ h.size 2) hr1 rfl rfl (by first | omega | (simp only [List.length_nil, List.length_take]; omega)) (by first | omega | (simp only [List.length_nil, List.length_take]; omega)) (Nat.le_refl h.size) (fun _ _ => trivial) fun v2 h1 ho1 hc1 hg1 => ?_
  have hx0_1 := (owE_nil encI _ h.size 2).ext hc1 (Nat.le_refl h.size)
  rw [List.nil_append] at ho1
  refine lx_assign (v2) rfl rfl <| lx_nil <| wi_seq <| wi_reg rfl <| ?_
  obtain ⟨row0, hrow0⟩ : ∃ x, x = xs.take (min xs.length 202) := ⟨_, rfl⟩
  rw [← hrow0] at ho1
  have hrl0 : row0.length ≤ 202 := by rw [hrow0]; simp only [List.length_take]; omega
  refine lx_assign (.slice none 0 0) rfl rfl <| lx_nil <| wi_seq <| wi_reg rfl <| lx_move (.slice none 0 0) rfl rfl <| lx_move (vgp) rfl rfl <| lx_move (vgp) rfl rfl <| lx_len rfl Try.underlying35 hr_vgp rfl <| lx_min (((min gp.length 22 : Nat) : Int)) rfl rfl rfl (by omega) <| lx_slice (E := encI) 0 (min gp.length 22) rfl eT35 rfl rfl ⟨_, rfl⟩ hr_vgp (by omega) (by omega) fun v3 hs2 hso2 => ?_
  have hr2 := sl_rd (hr_vgp.extS hx0_1) hs2 (by omega)
  refine lx_append (E := encI) (B := h.size) (xs := []) (ys := gp.take (min gp.length 22)) rfl rfl eT35 (owE_nil encI _ h.size 3) hr2 rfl rfl (by first | omega | (simp only [List.length_nil, List.length_take]; omega)) (by first | omega | (simp only [List.length_nil, List.length_take]; omega)) hx0_1.size (fun _ _ => trivial) fun v4 h2 ho2 hc2 hg2 => ?_
  have hx0_2 := hx0_1.trans ((owE_nil encI _ h.size 3).ext hc2 hx0_1.size)
  have ho3 := ho1.chg hc2 (dj_nil_r _)
  rw [List.nil_append] at ho2
  refine lx_assign (v4) rfl rfl <| lx_nil <| wi_seq <| wi_seq <| wi_reg rfl <| ?_
  obtain ⟨gs0, hgs0⟩ : ∃ x, x = gp.take (min gp.length 22) := ⟨_, rfl⟩
  rw [← hgs0] at ho2
  have hgl0 : gs0.length ≤ 22 := by rw [hgs0]; simp only [List.length_take]; omega
  have hgb0 : ∀ i, i < gs0.length → -9223372036854775808 ≤ gt gs0 i ∧ gt gs0 i ≤ 9223372036854775807 := by rw [hgs0]; exact take_b hp5
  refine lx_assign (.int .i64 0) rfl rfl <| lx_nil <| wi_block <| ?_
  refine wi_loop (σ := Nat × Int × Value × (List Int) × Value × (List Int)) (rngB 50 283 [1, 6, 7, 8, 9, 10, 11, 12, 13, 14, 15, 16, 17, 18, 19, 20, 21, 22, 23, 24, 25, 26, 27, 28, 29, 30, 31, 32, 33, 34, 35]) (fun (ss : Nat × Int × Value × (List Int) × Value × (List Int)) => [(9, .int .i64 ((ss.1 : Nat) : Int)), (1, .int .i64 ss.2.1), (7, ss.2.2.1), (8, ss.2.2.2.2.1)]) (fun (ss : Nat × Int × Value × (List Int) × Value × (List Int)) (hh : Heap) => OwE encI hh h.size 2 ss.2.2.1 ss.2.2.2.1 ∧ OwE encI hh h.size 3 ss.2.2.2.2.1 ss.2.2.2.2.2 ∧ Ext h.size h hh ∧ Dj ss.2.2.1 ss.2.2.2.2.1 ∧ (ss.1 ≤ 2) ∧ (-9223372036854775808 ≤ ss.2.1 ∧ ss.2.1 ≤ 9223372036854775807) ∧ (ss.2.2.2.1.length ≤ 202) ∧ (ss.2.2.2.2.2.length ≤ 22) ∧ (∀ i, i < ss.2.2.2.2.2.length → -9223372036854775808 ≤ gt ss.2.2.2.2.2 i ∧ gt ss.2.2.2.2.2 i ≤ 9223372036854775807)) (fun (ss : Nat × Int × Value × (List Int) × Value × (List Int)) => 2 - ss.1) (0, h0, v2, row0, v4, gs0) ⟨rfl, rfl, rfl, rfl, trivial⟩ ⟨?_, ?_, hx0_2, (dj_app (dj_nil_r _) ho1 hg2), ?_, ?_, ?_, ?_, ?_⟩ ?_
  · first | exact ho3 | (simpa using ho3)
  · first | exact ho2 | (simpa using ho2)
  · try dsimp only
    omega
  · try dsimp only
    omega
  · try dsimp only
    first | omega | (simp only [List.length_take]; omega)
  · try dsimp only
    first | omega | (simp only [List.length_take]; omega)
  · try dsimp only
    exact hgb0
  rintro g1 ⟨k, gap, vr, row, vg, gs⟩ hh1 ⟨ho4, ho5, hx0_3, hdj1, hk, hhb, hrl, hgl, hgb⟩ IH1
  dsimp only at *
  refine wi_seq <| wi_seq <| wi_reg rfl <| lx_move (.int .i64 ((k : Nat) : Int)) rfl rfl <| lx_lssS rfl rfl rfl (fun c1 => ?_) (fun c1 => ?_)
  · refine lx_nil <| wi_true rfl <| wi_skip <| wi_seq <| wi_block <| wi_seq <| wi_reg rfl <| lx_move (vr) rfl rfl <| lx_move (.int .i64 gap) rfl rfl <| lx_call [vr, .int .i64 gap] rfl rfl Try.call17 rfl (sorted_spec hh1 vr row gap ho4.rd (by omega) (by omega)) (fun _ _ _ => trivial) ?_
    rintro _ h3 ⟨p_1, ok_1, rfl, hso_1, hpb_1, hx1⟩
    have hx0_4 := hx0_3.trans2 hx1 hx0_3.size
    have ho6 := ho4.extS hx1
    have ho7 := ho5.extS hx1
    refine lx_move (.tuple #[.int .i64 ((p_1 : Nat) : Int), .bool ok_1, .int .i64 (chkRow row [gap])]) rfl rfl <| lx_extract (.int .i64 ((p_1 : Nat) : Int)) rfl rfl rfl <| lx_extract (.bool ok_1) rfl rfl rfl <| lx_extract (.int .i64 (chkRow row [gap])) rfl rfl rfl <| lx_assign (.int .i64 ((p_1 : Nat) : Int)) rfl rfl <| lx_assign (.bool ok_1) rfl rfl <| lx_assign (.int .i64 (chkRow row [gap])) rfl rfl <| lx_nil <| wi_seq <| wi_reg rfl <| lx_move (vr) rfl rfl <| lx_move (.int .i64 gap) rfl rfl <| lx_call [vr, .int .i64 gap] rfl rfl Try.call28 rfl (comb_spec h3 vr row gap ho6.rd (by omega) (by omega)) (fun _ _ _ => trivial) ?_
    rintro _ h4 ⟨vc, ys_1, n_1, rfl, ho8, hcm_1, hnb_1, hx2⟩
    have hx0_5 := hx0_4.trans2 hx2 hx0_4.size
    have ho9 := ho6.extS hx2
    have ho10 := ho7.extS hx2
    have ho11 := ho8.base hx0_4.size
    refine lx_move (.tuple #[vc, .int .i64 ((n_1 : Nat) : Int), .int .i64 (chkRow row [gap])]) rfl rfl <| lx_extract (vc) rfl rfl rfl <| lx_extract (.int .i64 ((n_1 : Nat) : Int)) rfl rfl rfl <| lx_extract (.int .i64 (chkRow row [gap])) rfl rfl rfl <| lx_assign (vc) rfl rfl <| lx_assign (.int .i64 ((n_1 : Nat) : Int)) rfl rfl <| lx_assign (.int .i64 (chkRow row [gap])) rfl rfl <| lx_nil <| wi_seq <| wi_reg rfl <| lx_move (vr) rfl rfl <| lx_move (.int .i64 gap) rfl rfl <| lx_call [vr, .int .i64 gap] rfl rfl Try.call16 rfl (sortBy_spec h4 vr row gap ho9.rd (by omega) (by omega)) (fun _ _ _ => trivial) ?_
    rintro _ h5 ⟨vs, ys_2, n_2, rfl, ho12, hsh_1, hnb_2, hx3⟩
    have hx0_6 := hx0_5.trans2 hx3 hx0_5.size
    have ho13 := ho9.extS hx3
    have ho14 := ho10.extS hx3
    have ho15 := ho11.extS hx3
    have ho16 := ho12.base hx0_5.size
    refine lx_move (.tuple #[vs, .int .i64 ((n_2 : Nat) : Int), .int .i64 (chkRow row [gap])]) rfl rfl <| lx_extract (vs) rfl rfl rfl <| lx_extract (.int .i64 ((n_2 : Nat) : Int)) rfl rfl rfl <| lx_extract (.int .i64 (chkRow row [gap])) rfl rfl rfl <| lx_assign (vs) rfl rfl <| lx_assign (.int .i64 ((n_2 : Nat) : Int)) rfl rfl <| lx_assign (.int .i64 (chkRow row [gap])) rfl rfl <| lx_nil <| wi_seq <| wi_reg rfl <| lx_assign (.int .i64 0) rfl rfl <| lx_nil <| wi_seq <| wi_seq <| wi_reg rfl <| lx_move (.int .i64 gap) rfl rfl <| lx_lss rfl rfl rfl <| lx_nil <| ?_
    refine wi_cutE (σ := Int) (rngB 50 50 [19]) (fun (w : Int) => [(19, .int .i64 w)]) (fun (w : Int) (hh : Heap) => h5 = hh ∧ (w = if gap < 1 then 1 else 0)) (fun J1 => ?_) ?_
    · refine wi_condS (t := decide (gap < (1 : Int))) rfl (fun c2 => ?_) (fun c2 => ?_)
      · refine wi_reg rfl <| lx_assign (.int .i64 1) rfl rfl <| lx_nil <| ?_
        -- Jt76.1
        refine J1 _ _ ((1 : Int)) (agree_ups rfl agree_upsJ) ⟨rfl, trivial⟩ ⟨rfl, ?_⟩
        · try dsimp only
          rw [if_pos (of_decide_eq_true (by assumption))]
      · refine wi_skip <| ?_
        -- Jt76.2
        refine J1 _ _ ((0 : Int)) (agree_ups rfl agree_upsJ) ⟨rfl, trivial⟩ ⟨rfl, ?_⟩
        · try dsimp only
          rw [if_neg (of_decide_eq_false (by assumption))]
    rintro g2 w hh2 ⟨rfl, hw1⟩
    refine wi_seq <| wi_seq <| wi_reg rfl <| lx_move (vr) rfl rfl <| lx_len rfl Try.underlying29 ho13.rd rfl <| lx_gtr rfl rfl rfl <| lx_nil <| ?_
    refine wi_cutE (σ := Int) (rngB 50 50 [19]) (fun (w2 : Int) => [(19, .int .i64 w2)]) (fun (w2 : Int) (hh : Heap) => h5 = hh ∧ (w2 = chkRow row [gap])) (fun J2 => ?_) ?_
    · refine wi_condS (t := decide ((200 : Int) < ((row.length : Nat) : Int))) rfl (fun c3 => ?_) (fun c3 => ?_)
      · refine wi_reg rfl <| lx_assign (.int .i64 2) rfl rfl <| lx_nil <| ?_
        -- Jt79.1
        refine J2 _ _ ((2 : Int)) (agree_ups rfl agree_upsJ) ⟨rfl, trivial⟩ ⟨rfl, ?_⟩
        · try dsimp only
          have := of_decide_eq_true ‹decide _ = true›
          rw [chk1_long (by omega)]
      · refine wi_skip <| ?_
        -- Jt79.2
        refine J2 _ _ (w) (agree_ups rfl agree_upsJ) ⟨rfl, trivial⟩ ⟨rfl, ?_⟩
        · try dsimp only
          have := of_decide_eq_false ‹decide _ = false›
          rw [chk1_short (by omega)]; exact hw1
    rintro g3 w2 hh3 ⟨rfl, hw2⟩
    refine wi_seq <| wi_seq <| wi_reg rfl <| lx_move (.int .i64 w2) rfl rfl <| lx_neq rfl rfl rfl <| lx_nil <| ?_
    refine wi_cutE (σ := Unit) (rngB 82 178 [6, 20, 21, 22, 23, 24, 25]) (fun (_ : Unit) => []) (fun (_ : Unit) (hh : Heap) => OwE encI hh h.size 2 vr row ∧ OwE encI hh h.size 3 vg gs ∧ Ext h.size h hh) (fun J3 => ?_) ?_
    · refine wi_condS (t := decide (w2 ≠ (0 : Int))) rfl (fun c4 => ?_) (fun c4 => ?_)
      · refine wi_seq <| wi_reg rfl <| ?_
        have hw9 := of_decide_eq_true ‹decide _ = true›
        obtain ⟨rfl, rfl⟩ := bad_ hso_1 (by omega)
        obtain ⟨rfl, rfl⟩ := bad_ hcm_1 (by omega)
        obtain ⟨rfl, rfl⟩ := bad_ hsh_1 (by omega)
        refine lx_move (.int .i64 (chkRow row [gap])) rfl rfl <| lx_move (.int .i64 w2) rfl rfl <| lx_neqF rfl rfl rfl (by omega) <| lx_move (.bool false) rfl rfl <| lx_move (.int .i64 (chkRow row [gap])) rfl rfl <| lx_move (.int .i64 w2) rfl rfl <| lx_neqF rfl rfl rfl (by omega) <| lx_pick false (.bool false) rfl rfl rfl <| lx_move (.bool false) rfl rfl <| lx_move (.int .i64 (chkRow row [gap])) rfl rfl <| lx_move (.int .i64 w2) rfl rfl <| lx_neqF rfl rfl rfl (by omega) <| lx_pick false (.bool false) rfl rfl rfl <| lx_move (.bool false) rfl rfl <| lx_move (.bool false) rfl rfl <| lx_pick false (.bool false) rfl rfl rfl <| lx_move (.bool false) rfl rfl <| lx_move (.int .i64 0) rfl rfl <| lx_neqF rfl rfl rfl (by decide) <| lx_pick false (.bool false) rfl rfl rfl <| lx_move (.bool false) rfl rfl <| lx_move (.int .i64 0) rfl rfl <| lx_neqF rfl rfl rfl (by decide) <| lx_pick false (.bool false) rfl rfl rfl <| lx_move (.bool false) rfl rfl <| lx_move (.int .i64 0) rfl rfl <| lx_neqF rfl rfl rfl (by decide) <| lx_pick false (.bool false) rfl rfl rfl <| lx_move (.bool false) rfl rfl <| lx_move (vc) rfl rfl <| lx_len rfl Try.underlying29 ho15.rd rfl <| lx_move (vs) rfl rfl <| lx_len rfl Try.underlying29 ho16.rd rfl <| lx_add ((0 : Int)) rfl rfl rfl (by simp) (by simp) (by simp) <| lx_neqF rfl rfl rfl (by decide) <| lx_pick false (.bool false) rfl rfl rfl <| lx_nil <| wi_false rfl <| wi_skip <| ?_
        -- Jt81.1
        refine J3 _ _ () (agree_ups rfl agree_upsJ) trivial ⟨?_, ?_, hx0_6⟩
        · first | exact ho13 | (simpa using ho13)
        · first | exact ho14 | (simpa using ho14)
      · refine wi_seq <| wi_reg rfl <| ?_
        have hw9 := of_decide_eq_false ‹decide _ = false›
        have hc0 : chkRow row [gap] = 0 := by omega
        have hg1 : 1 ≤ gap := chk_gap hc0 (i := 0) (by simp)
        obtain ⟨hcl, _⟩ := chk_len hc0
        obtain ⟨m, rfl⟩ : ∃ m : Nat, gap = ((m : Nat) : Int) := ⟨gap.toNat, by omega⟩
        refine lx_move (vr) rfl rfl <| lx_move (.int .i64 ((m : Nat) : Int)) rfl rfl <| lx_call [vr, .int .i64 ((m : Nat) : Int)] rfl rfl Try.call29 rfl (rsorted_spec h5 vr row m ho13.rd (by omega) (by omega)) (fun _ _ _ => trivial) ?_
        rintro _ h6 ⟨p_2, ok_2, rfl, hso_2, hpb_2, rfl⟩
        refine lx_move (.tuple #[.int .i64 ((p_2 : Nat) : Int), .bool ok_2]) rfl rfl <| lx_extract (.int .i64 ((p_2 : Nat) : Int)) rfl rfl rfl <| lx_extract (.bool ok_2) rfl rfl rfl <| lx_assign (.int .i64 ((p_2 : Nat) : Int)) rfl rfl <| lx_assign (.bool ok_2) rfl rfl <| lx_nil <| wi_seq <| wi_reg rfl <| lx_move (vr) rfl rfl <| lx_move (.int .i64 ((m : Nat) : Int)) rfl rfl <| lx_call [vr, .int .i64 ((m : Nat) : Int)] rfl rfl Try.call30 rfl (rcomb_spec h5 vr row m ho13.rd (by omega) (by omega)) (fun _ _ _ => trivial) ?_
        rintro _ h7 ⟨v5, rfl, ho17, hx4⟩
        have hx0_7 := hx0_6.trans2 hx4 hx0_6.size
        have ho18 := ho13.extS hx4
        have ho19 := ho14.extS hx4
        have ho20 := ho15.extS hx4
        have ho21 := ho16.extS hx4
        have ho22 := ho17.base hx0_6.size
        refine lx_move (.tuple #[v5, .int .i64 (((combF m row).2 : Nat) : Int)]) rfl rfl <| lx_extract (v5) rfl rfl rfl <| lx_extract (.int .i64 (((combF m row).2 : Nat) : Int)) rfl rfl rfl <| lx_assign (v5) rfl rfl <| lx_assign (.int .i64 (((combF m row).2 : Nat) : Int)) rfl rfl <| lx_nil <| wi_seq <| wi_reg rfl <| lx_move (vr) rfl rfl <| lx_move (.int .i64 ((m : Nat) : Int)) rfl rfl <| lx_call [vr, .int .i64 ((m : Nat) : Int)] rfl rfl Try.call31 rfl (rsortBy_spec h7 vr row m ho18.rd (by omega) (by omega) (by omega)) (fun _ _ _ => trivial) ?_
        rintro _ h8 ⟨v6, ys_3, q_1, rfl, ho23, hgs_1, hso_3, hpq_1, hx5⟩
        have hx0_8 := hx0_7.trans2 hx5 hx0_7.size
        have ho24 := ho18.extS hx5
        have ho25 := ho19.extS hx5
        have ho26 := ho20.extS hx5
        have ho27 := ho21.extS hx5
        have ho28 := ho22.extS hx5
        have ho29 := ho23.base hx0_7.size
        refine lx_move (.tuple #[v6, .int .i64 ((pairs m row : Nat) : Int)]) rfl rfl <| lx_extract (v6) rfl rfl rfl <| lx_extract (.int .i64 ((pairs m row : Nat) : Int)) rfl rfl rfl <| lx_assign (v6) rfl rfl <| lx_assign (.int .i64 ((pairs m row : Nat) : Int)) rfl rfl <| lx_nil <| wi_seq <| wi_reg rfl <| ?_
        have hA := good_ hso_1 hc0
        have hB := good_ hcm_1 hc0
        have hC := good_ hsh_1 hc0
        rw [Int.toNat_natCast] at hA hC
        rw [Int.toNat_natCast] at hB
        obtain ⟨hp12, hok12⟩ := sortedR_uniq hA hso_2
        obtain ⟨hys1, hn1⟩ := hB
        obtain ⟨hC1, hC2⟩ := hC
        have hys2 := GS_uniq hC1 hgs_1 hC2 hso_3
        have hn2 := GS_count (by omega) hC1 hC2
        have hl1 := combF_length m row
        have hl2 := GS_length hC1
        have hl3 := GS_length hgs_1
        have hl4 : ys_1.length = row.length := by rw [hys1]; exact hl1
        refine lx_move (.int .i64 (chkRow row [((m : Nat) : Int)])) rfl rfl <| lx_neqF rfl rfl rfl (fun h => h hc0) <| lx_move (.bool false) rfl rfl <| lx_move (.int .i64 (chkRow row [((m : Nat) : Int)])) rfl rfl <| lx_neqF rfl rfl rfl (fun h => h hc0) <| lx_pick false (.bool false) rfl rfl rfl <| lx_move (.bool false) rfl rfl <| lx_move (.int .i64 (chkRow row [((m : Nat) : Int)])) rfl rfl <| lx_neqF rfl rfl rfl (fun h => h hc0) <| lx_pick false (.bool false) rfl rfl rfl <| lx_move (.bool false) rfl rfl <| lx_move (.int .i64 ((p_1 : Nat) : Int)) rfl rfl <| lx_move (.int .i64 ((p_2 : Nat) : Int)) rfl rfl <| lx_neqF rfl rfl rfl (by omega) <| lx_pick false (.bool false) rfl rfl rfl <| lx_move (.bool false) rfl rfl <| lx_move (.bool ok_1) rfl rfl <| lx_move (.bool ok_2) rfl rfl <| lx_neqBool false rfl Try.underlying4 rfl rfl (by rw [hok12]; cases ok_2 <;> rfl) <| lx_pick false (.bool false) rfl rfl rfl <| lx_move (.bool false) rfl rfl <| lx_move (vc) rfl rfl <| lx_move (v5) rfl rfl <| lx_call [vc, v5] rfl rfl Try.call32 rfl (longs_spec h8 vc ys_1 v5 ((combF m row).1) ho26.rd ho28.rd (by omega) (by omega)) (fun _ _ _ => trivial) ?_
        rintro _ h9 ⟨rfl, rfl⟩
        rw [decide_eq_true hys1]
        refine lx_notB false rfl rfl rfl <| lx_pick false (.bool false) rfl rfl rfl <| lx_move (.bool false) rfl rfl <| lx_move (.int .i64 ((n_1 : Nat) : Int)) rfl rfl <| lx_move (.int .i64 (((combF m row).2 : Nat) : Int)) rfl rfl <| lx_neqF rfl rfl rfl (by omega) <| lx_pick false (.bool false) rfl rfl rfl <| lx_move (.bool false) rfl rfl <| lx_move (vs) rfl rfl <| lx_move (v6) rfl rfl <| lx_call [vs, v6] rfl rfl Try.call32 rfl (longs_spec h8 vs ys_2 v6 ys_3 ho27.rd ho29.rd (by omega) (by omega)) (fun _ _ _ => trivial) ?_
        rintro _ h10 ⟨rfl, rfl⟩
        rw [decide_eq_true hys2]
        refine lx_notB false rfl rfl rfl <| lx_pick false (.bool false) rfl rfl rfl <| lx_move (.bool false) rfl rfl <| lx_move (.int .i64 ((n_2 : Nat) : Int)) rfl rfl <| lx_move (.int .i64 ((pairs m row : Nat) : Int)) rfl rfl <| lx_neqF rfl rfl rfl (by omega) <| lx_pick false (.bool false) rfl rfl rfl <| lx_nil <| wi_false rfl <| wi_skip <| ?_
        -- Jt81.2
        refine J3 _ _ () (agree_ups rfl agree_upsJ) trivial ⟨?_, ?_, hx0_8⟩
        · first | exact ho24 | (simpa using ho24)
        · first | exact ho25 | (simpa using ho25)
    rintro g4 _ hh4 ⟨ho30, ho31, hx0_9⟩
    refine wi_seq <| wi_reg rfl <| lx_move (vr) rfl rfl <| lx_move (vg) rfl rfl <| lx_call [vr, vg] rfl rfl Try.call18 rfl (shell_spec hh4 vr row vg gs ho30.rd ho31.rd (by omega) (by omega) (fun i hi => (hgb i hi).2)) (fun _ _ _ => trivial) ?_
    rintro _ h11 ⟨vsh, ysh, nsh, rfl, ho32, hsh_2, hnb_3, hx6⟩
    have hx0_10 := hx0_9.trans2 hx6 hx0_9.size
    have ho33 := ho30.extS hx6
    have ho34 := ho31.extS hx6
    have ho35 := ho32.base hx0_9.size
    refine lx_move (.tuple #[vsh, .int .i64 ((nsh : Nat) : Int), .int .i64 (chkRow row gs)]) rfl rfl <| lx_extract (vsh) rfl rfl rfl <| lx_extract (.int .i64 ((nsh : Nat) : Int)) rfl rfl rfl <| lx_extract (.int .i64 (chkRow row gs)) rfl rfl rfl <| lx_assign (vsh) rfl rfl <| lx_assign (.int .i64 ((nsh : Nat) : Int)) rfl rfl <| lx_assign (.int .i64 (chkRow row gs)) rfl rfl <| lx_nil <| wi_seq <| wi_reg rfl <| lx_assign (.int .i64 0) rfl rfl <| lx_nil <| wi_seq <| wi_seq <| wi_reg rfl <| lx_assign (.int .i64 0) rfl rfl <| lx_nil <| wi_block <| ?_
    refine wi_loop (σ := Nat × Int) (rngB 185 196 [19, 29]) (fun (ss : Nat × Int) => [(29, .int .i64 ((ss.1 : Nat) : Int)), (19, .int .i64 ss.2)]) (fun (ss : Nat × Int) (hh : Heap) => h11 = hh ∧ (ss.1 ≤ gs.length) ∧ ((ss.2 = 0 ∧ ∀ i, i < ss.1 → i < gs.length → ¬ gt gs i < 1) ∨ (ss.2 = 1 ∧ ∃ i, i < gs.length ∧ gt gs i < 1))) (fun (ss : Nat × Int) => gs.length - ss.1) (0, 0) ⟨rfl, rfl, trivial⟩ ⟨rfl, ?_, ?_⟩ ?_
    · try dsimp only
      omega
    · try dsimp only
      exact .inl ⟨rfl, fun i hi => by omega⟩
    rintro g5 ⟨j, w3⟩ hh5 ⟨rfl, hj, hw3⟩ IH2
    dsimp only at *
    refine wi_seq <| wi_seq <| wi_reg rfl <| lx_move (.int .i64 ((j : Nat) : Int)) rfl rfl <| lx_move (vg) rfl rfl <| lx_len rfl Try.underlying35 ho34.rd rfl <| lx_lssS rfl rfl rfl (fun c5 => ?_) (fun c5 => ?_)
    · refine lx_nil <| wi_true rfl <| wi_skip <| wi_seq <| wi_block <| wi_seq <| wi_reg rfl <| lx_move (vg) rfl rfl <| lx_move (.int .i64 ((j : Nat) : Int)) rfl rfl <| lx_ix (i := j) rfl eT35 ho34.rd rfl rfl (by first | omega | (simp only [List.length_set, List.length_append, List.length_cons, List.length_nil, List.length_replicate, List.length_take, swp_length, exch_length]; omega)) <| lx_ld (i := j) (j := 0) (.int .i64 (gt gs j)) rfl rfl fl3 ho34.rd (by first | omega | (simp only [List.length_set, List.length_append, List.length_cons, List.length_nil, List.length_replicate, List.length_take, swp_length, exch_length]; omega)) rfl rfl <| lx_lssS rfl rfl rfl (fun c6 => ?_) (fun c6 => ?_)
      · refine lx_nil <| wi_true rfl <| wi_reg rfl <| lx_assign (.int .i64 1) rfl rfl <| lx_nil <| wi_inBlock <| wi_reg rfl <| lx_move (.int .i64 ((j : Nat) : Int)) rfl rfl <| lx_add (((j + 1 : Nat) : Int)) rfl rfl rfl (by omega) (by omega) (by omega) <| lx_assign (.int .i64 ((j + 1 : Nat) : Int)) rfl rfl <| lx_nil <| ?_
        -- L2.1
        refine IH2 _ _ (j + 1, (1 : Int)) (agree_ups rfl agree_self) ⟨rfl, rfl, trivial⟩ ⟨rfl, ?_, ?_⟩ ?_
        · try dsimp only
          omega
        · try dsimp only
          exact .inr ⟨rfl, j, by omega, by assumption⟩
        · first | omega | (dsimp only; omega)
      · refine lx_nil <| wi_false rfl <| wi_skip <| wi_inBlock <| wi_reg rfl <| lx_move (.int .i64 ((j : Nat) : Int)) rfl rfl <| lx_add (((j + 1 : Nat) : Int)) rfl rfl rfl (by omega) (by omega) (by omega) <| lx_assign (.int .i64 ((j + 1 : Nat) : Int)) rfl rfl <| lx_nil <| ?_
        -- L2.2
        refine IH2 _ _ (j + 1, w3) (agree_ups rfl agree_self) ⟨rfl, rfl, trivial⟩ ⟨rfl, ?_, ?_⟩ ?_
        · try dsimp only
          omega
        · try dsimp only
          rcases hw3 with ⟨h1, h2⟩ | h1
          · exact .inl ⟨h1, fun i hi hi2 => (Nat.lt_or_eq_of_le (Nat.le_of_lt_succ hi)).elim (fun e => h2 i e hi2) (fun e => by subst e; assumption)⟩
          · exact .inr h1
        · first | omega | (dsimp only; omega)
    · refine lx_nil <| wi_false rfl <| wi_exit rfl <| wi_seq <| wi_seq <| wi_reg rfl <| lx_move (vr) rfl rfl <| lx_len rfl Try.underlying29 ho33.rd rfl <| lx_gtrS rfl rfl rfl (fun c7 => ?_) (fun c7 => ?_)
      · refine lx_move (.bool true) rfl rfl <| lx_skip rfl <| lx_skip rfl <| lx_skip rfl <| lx_pick true (.bool true) rfl rfl rfl <| lx_nil <| wi_true rfl <| wi_reg rfl <| lx_assign (.int .i64 2) rfl rfl <| lx_nil <| wi_seq <| wi_seq <| wi_reg rfl <| lx_move (.int .i64 2) rfl rfl <| lx_neqT rfl rfl rfl (by decide) <| lx_nil <| wi_true rfl <| wi_seq <| wi_reg rfl <| ?_
        have hck : chkRow row gs = (2 : Int) := by first | exact chk_two (by omega) | exact chk_w (by omega) (by omega) (by omega) hw3
        obtain ⟨rfl, rfl⟩ := bad_ hsh_2 (by omega)
        refine lx_move (.int .i64 (chkRow row gs)) rfl rfl <| lx_move (.int .i64 2) rfl rfl <| lx_neqF rfl rfl rfl (by omega) <| lx_move (.bool false) rfl rfl <| lx_move (.int .i64 0) rfl rfl <| lx_neqF rfl rfl rfl (by decide) <| lx_pick false (.bool false) rfl rfl rfl <| lx_move (.bool false) rfl rfl <| lx_move (vsh) rfl rfl <| lx_len rfl Try.underlying29 ho35.rd rfl <| lx_neqF rfl rfl rfl (by simp) <| lx_pick false (.bool false) rfl rfl rfl <| lx_nil <| wi_false rfl <| wi_skip <| wi_seq <| wi_reg rfl <| lx_move (.int .i64 gap) rfl rfl <| lx_conv ((ur gap : Nat) : Int) rfl Try.underlying3 Try.underlying26 rfl (wrap_ur _) <| lx_rem (m := ur gap) (n := 12) rfl rfl rfl (by omega) <| lx_conv (((ur gap) % 12 : Nat) : Int) rfl Try.underlying26 Try.underlying3 rfl (wrap_i64 (by omega) (by omega)) <| lx_add (((1 + ((ur gap) % 12) : Nat) : Int)) rfl rfl rfl (by omega) (by omega) (by omega) <| lx_assign (.int .i64 ((1 + ((ur gap) % 12) : Nat) : Int)) rfl rfl <| lx_nil <| wi_seq <| wi_reg rfl <| lx_move (vr) rfl rfl <| lx_move (vr) rfl rfl <| lx_len rfl Try.underlying29 ho33.rd rfl <| lx_min (((min row.length 60 : Nat) : Int)) rfl rfl rfl (by omega) <| lx_slice (E := encI) 0 (min row.length 60) rfl eT29 rfl rfl ⟨_, rfl⟩ ho33.rd (by omega) (by omega) fun vr2 hs3 hso3 => ?_
        have ho36 := sl_own ho33 (hso3 rfl).2 (by omega)
        refine lx_assign (vr2) rfl rfl <| lx_nil <| wi_seq <| wi_seq <| wi_reg rfl <| lx_assign (.int .i64 0) rfl rfl <| lx_nil <| wi_block <| ?_
        refine wi_loop (σ := Nat × (List Int)) (rngB 261 278 [35]) (fun (ss : Nat × (List Int)) => [(35, .int .i64 ((ss.1 : Nat) : Int))]) (fun (ss : Nat × (List Int)) (hh : Heap) => OwE encI hh h.size 2 vr2 (row.take (min row.length 60)) ∧ OwE encI hh h.size 3 vg ss.2 ∧ Ext h.size h hh ∧ (ss.1 ≤ gs.length) ∧ (ss.2.length = gs.length) ∧ (∀ i, i < ss.2.length → -9223372036854775808 ≤ gt ss.2 i ∧ gt ss.2 i ≤ 9223372036854775807)) (fun (ss : Nat × (List Int)) => gs.length - ss.1) (0, gs) ⟨rfl, trivial⟩ ⟨?_, ?_, hx0_10, ?_, ?_, ?_⟩ ?_
        · first | exact ho36 | (simpa using ho36)
        · first | exact ho34 | (simpa using ho34)
        · try dsimp only
          omega
        · try dsimp only
          first | done | (simpa using hg2l)
        · try dsimp only
          exact hgb
        rintro g6 ⟨z, g2⟩ hh6 ⟨ho37, ho38, hx0_11, hz, hg2l, hg2b⟩ IH3
        dsimp only at *
        refine wi_seq <| wi_seq <| wi_reg rfl <| lx_move (.int .i64 ((z : Nat) : Int)) rfl rfl <| lx_move (vg) rfl rfl <| lx_len rfl Try.underlying35 ho38.rd rfl <| lx_lssS rfl rfl rfl (fun c8 => ?_) (fun c8 => ?_)
        · refine lx_nil <| wi_true rfl <| wi_skip <| wi_seq <| wi_block <| wi_reg rfl <| lx_move (vg) rfl rfl <| lx_move (.int .i64 ((z : Nat) : Int)) rfl rfl <| lx_move (vg) rfl rfl <| lx_move (.int .i64 ((z : Nat) : Int)) rfl rfl <| lx_ix (i := z) rfl eT35 ho38.rd rfl rfl (by first | omega | (simp only [List.length_set, List.length_append, List.length_cons, List.length_nil, List.length_replicate, List.length_take, swp_length, exch_length]; omega)) <| lx_ld (i := z) (j := 0) (.int .i64 (gt g2 z)) rfl rfl fl3 ho38.rd (by first | omega | (simp only [List.length_set, List.length_append, List.length_cons, List.length_nil, List.length_replicate, List.length_take, swp_length, exch_length]; omega)) rfl rfl <| lx_conv ((ur (gt g2 z) : Nat) : Int) rfl Try.underlying3 Try.underlying26 rfl (wrap_ur _) <| lx_rem (m := ur (gt g2 z)) (n := 15) rfl rfl rfl (by omega) <| lx_conv (((ur (gt g2 z)) % 15 : Nat) : Int) rfl Try.underlying26 Try.underlying3 rfl (wrap_i64 (by omega) (by omega)) <| lx_add (((1 + ((ur (gt g2 z)) % 15) : Nat) : Int)) rfl rfl rfl (by omega) (by omega) (by omega) <| lx_ix (i := z) rfl eT35 ho38.rd rfl rfl (by first | omega | (simp only [List.length_set, List.length_append, List.length_cons, List.length_nil, List.length_replicate, List.length_take, swp_length, exch_length]; omega)) <| lx_st (i := z) (((1 + ((ur (gt g2 z)) % 15) : Nat) : Int)) rfl rfl Try.sizeOf3 ho38 (by first | omega | (simp only [List.length_set, List.length_append, List.length_cons, List.length_nil, List.length_replicate, List.length_take, swp_length, exch_length]; omega)) rfl rfl (fun _ _ _ _ _ => trivial) fun h12 ho39 hc3 hsz1 => ?_
          have hx0_12 := hx0_11.trans (ho38.ext hc3 hx0_11.size)
          have ho40 := ho37.chg hc3 (Dj.symm (dj_eq (Dj.symm hdj1) (hso3 rfl).1))
          refine lx_nil <| wi_inBlock <| wi_reg rfl <| lx_move (.int .i64 ((z : Nat) : Int)) rfl rfl <| lx_add (((z + 1 : Nat) : Int)) rfl rfl rfl (by omega) (by omega) (by omega) <| lx_assign (.int .i64 ((z + 1 : Nat) : Int)) rfl rfl <| lx_nil <| ?_
          -- L6.1
          refine IH3 _ _ (z + 1, g2.set z (((1 + ((ur (gt g2 z)) % 15) : Nat) : Int))) (agree_ups rfl agree_self) ⟨rfl, trivial⟩ ⟨?_, ?_, hx0_12, ?_, ?_, ?_⟩ ?_
          · first | exact ho40 | (simpa using ho40)
          · first | exact ho39 | (simpa using ho39)
          · try dsimp only
            omega
          · try dsimp only
            first | done | (simpa using hg2l)
          · try dsimp only
            rw [List.length_set]; exact set_b (by omega) (by omega) hg2b
          · first | omega | (dsimp only; omega)
        · refine lx_nil <| wi_false rfl <| wi_exit rfl <| wi_reg rfl <| lx_move (vg) rfl rfl <| lx_move (vg) rfl rfl <| lx_len rfl Try.underlying35 ho38.rd rfl <| lx_min (((min g2.length 6 : Nat) : Int)) rfl rfl rfl (by omega) <| lx_slice (E := encI) 0 (min g2.length 6) rfl eT35 rfl rfl ⟨_, rfl⟩ ho38.rd (by omega) (by omega) fun vg2 hs4 hso4 => ?_
          have ho41 := sl_own ho38 (hso4 rfl).2 (by omega)
          refine lx_assign (vg2) rfl rfl <| lx_nil <| wi_inBlock <| wi_reg rfl <| lx_move (.int .i64 ((k : Nat) : Int)) rfl rfl <| lx_add (((k + 1 : Nat) : Int)) rfl rfl rfl (by omega) (by omega) (by omega) <| lx_assign (.int .i64 ((k + 1 : Nat) : Int)) rfl rfl <| lx_nil <| ?_
          -- L0.1
          refine IH1 _ _ (k + 1, ((1 + ((ur gap) % 12) : Nat) : Int), vr2, row.take (min row.length 60), vg2, g2.take (min g2.length 6)) (agree_ups rfl (agree_mix (rngB_sub (by decide) (by decide) rfl) (agree_ups rfl (agree_mix (rngB_sub (by decide) (by decide) rfl) (agree_ups rfl (agree_mix (rngB_sub (by decide) (by decide) rfl) (agree_ups rfl (agree_mix (rngB_sub (by decide) (by decide) rfl) (agree_ups rfl (agree_mix (rngB_sub (by decide) (by decide) rfl) (agree_ups rfl agree_self))))))))))) ⟨rfl, rfl, rfl, rfl, trivial⟩ ⟨?_, ?_, hx0_11, (dj_eq (Dj.symm (dj_eq (Dj.symm hdj1) (hso3 rfl).1)) (hso4 rfl).1), ?_, ?_, ?_, ?_, ?_⟩ ?_
          · first | exact ho37 | (simpa using ho37)
          · first | exact ho41 | (simpa using ho41)
          · try dsimp only
            omega
          · try dsimp only
            omega
          · try dsimp only
            first | omega | (simp only [List.length_take]; omega)
          · try dsimp only
            first | omega | (simp only [List.length_take]; omega)
          · try dsimp only
            exact take_b hg2b
          · first | omega | (dsimp only; omega)
      · refine lx_move (.bool false) rfl rfl <| lx_move (vg) rfl rfl <| lx_len rfl Try.underlying35 ho34.rd rfl <| lx_gtrS rfl rfl rfl (fun c9 => ?_) (fun c9 => ?_)
        · refine lx_pick false (.bool true) rfl rfl rfl <| lx_nil <| wi_true rfl <| wi_reg rfl <| lx_assign (.int .i64 2) rfl rfl <| lx_nil <| wi_seq <| wi_seq <| wi_reg rfl <| lx_move (.int .i64 2) rfl rfl <| lx_neqT rfl rfl rfl (by decide) <| lx_nil <| wi_true rfl <| wi_seq <| wi_reg rfl <| ?_
          have hck : chkRow row gs = (2 : Int) := by first | exact chk_two (by omega) | exact chk_w (by omega) (by omega) (by omega) hw3
          obtain ⟨rfl, rfl⟩ := bad_ hsh_2 (by omega)
          refine lx_move (.int .i64 (chkRow row gs)) rfl rfl <| lx_move (.int .i64 2) rfl rfl <| lx_neqF rfl rfl rfl (by omega) <| lx_move (.bool false) rfl rfl <| lx_move (.int .i64 0) rfl rfl <| lx_neqF rfl rfl rfl (by decide) <| lx_pick false (.bool false) rfl rfl rfl <| lx_move (.bool false) rfl rfl <| lx_move (vsh) rfl rfl <| lx_len rfl Try.underlying29 ho35.rd rfl <| lx_neqF rfl rfl rfl (by simp) <| lx_pick false (.bool false) rfl rfl rfl <| lx_nil <| wi_false rfl <| wi_skip <| wi_seq <| wi_reg rfl <| lx_move (.int .i64 gap) rfl rfl <| lx_conv ((ur gap : Nat) : Int) rfl Try.underlying3 Try.underlying26 rfl (wrap_ur _) <| lx_rem (m := ur gap) (n := 12) rfl rfl rfl (by omega) <| lx_conv (((ur gap) % 12 : Nat) : Int) rfl Try.underlying26 Try.underlying3 rfl (wrap_i64 (by omega) (by omega)) <| lx_add (((1 + ((ur gap) % 12) : Nat) : Int)) rfl rfl rfl (by omega) (by omega) (by omega) <| lx_assign (.int .i64 ((1 + ((ur gap) % 12) : Nat) : Int)) rfl rfl <| lx_nil <| wi_seq <| wi_reg rfl <| lx_move (vr) rfl rfl <| lx_move (vr) rfl rfl <| lx_len rfl Try.underlying29 ho33.rd rfl <| lx_min (((min row.length 60 : Nat) : Int)) rfl rfl rfl (by omega) <| lx_slice (E := encI) 0 (min row.length 60) rfl eT29 rfl rfl ⟨_, rfl⟩ ho33.rd (by omega) (by omega) fun vr2 hs5 hso5 => ?_
          have ho42 := sl_own ho33 (hso5 rfl).2 (by omega)
          refine lx_assign (vr2) rfl rfl <| lx_nil <| wi_seq <| wi_seq <| wi_reg rfl <| lx_assign (.int .i64 0) rfl rfl <| lx_nil <| wi_block <| ?_
          refine wi_loop (σ := Nat × (List Int)) (rngB 261 278 [35]) (fun (ss : Nat × (List Int)) => [(35, .int .i64 ((ss.1 : Nat) : Int))]) (fun (ss : Nat × (List Int)) (hh : Heap) => OwE encI hh h.size 2 vr2 (row.take (min row.length 60)) ∧ OwE encI hh h.size 3 vg ss.2 ∧ Ext h.size h hh ∧ (ss.1 ≤ gs.length) ∧ (ss.2.length = gs.length) ∧ (∀ i, i < ss.2.length → -9223372036854775808 ≤ gt ss.2 i ∧ gt ss.2 i ≤ 9223372036854775807)) (fun (ss : Nat × (List Int)) => gs.length - ss.1) (0, gs) ⟨rfl, trivial⟩ ⟨?_, ?_, hx0_10, ?_, ?_, ?_⟩ ?_
          · first | exact ho42 | (simpa using ho42)
          · first | exact ho34 | (simpa using ho34)
          · try dsimp only
            omega
          · try dsimp only
            first | done | (simpa using hg2l)
          · try dsimp only
            exact hgb
          rintro g7 ⟨z, g2⟩ hh7 ⟨ho43, ho44, hx0_13, hz, hg2l, hg2b⟩ IH4
          dsimp only at *
          refine wi_seq <| wi_seq <| wi_reg rfl <| lx_move (.int .i64 ((z : Nat) : Int)) rfl rfl <| lx_move (vg) rfl rfl <| lx_len rfl Try.underlying35 ho44.rd rfl <| lx_lssS rfl rfl rfl (fun c10 => ?_) (fun c10 => ?_)
          · refine lx_nil <| wi_true rfl <| wi_skip <| wi_seq <| wi_block <| wi_reg rfl <| lx_move (vg) rfl rfl <| lx_move (.int .i64 ((z : Nat) : Int)) rfl rfl <| lx_move (vg) rfl rfl <| lx_move (.int .i64 ((z : Nat) : Int)) rfl rfl <| lx_ix (i := z) rfl eT35 ho44.rd rfl rfl (by first | omega | (simp only [List.length_set, List.length_append, List.length_cons, List.length_nil, List.length_replicate, List.length_take, swp_length, exch_length]; omega)) <| lx_ld (i := z) (j := 0) (.int .i64 (gt g2 z)) rfl rfl fl3 ho44.rd (by first | omega | (simp only [List.length_set, List.length_append, List.length_cons, List.length_nil, List.length_replicate, List.length_take, swp_length, exch_length]; omega)) rfl rfl <| lx_conv ((ur (gt g2 z) : Nat) : Int) rfl Try.underlying3 Try.underlying26 rfl (wrap_ur _) <| lx_rem (m := ur (gt g2 z)) (n := 15) rfl rfl rfl (by omega) <| lx_conv (((ur (gt g2 z)) % 15 : Nat) : Int) rfl Try.underlying26 Try.underlying3 rfl (wrap_i64 (by omega) (by omega)) <| lx_add (((1 + ((ur (gt g2 z)) % 15) : Nat) : Int)) rfl rfl rfl (by omega) (by omega) (by omega) <| lx_ix (i := z) rfl eT35 ho44.rd rfl rfl (by first | omega | (simp only [List.length_set, List.length_append, List.length_cons, List.length_nil, List.length_replicate, List.length_take, swp_length, exch_length]; omega)) <| lx_st (i := z) (((1 + ((ur (gt g2 z)) % 15) : Nat) : Int)) rfl rfl Try.sizeOf3 ho44 (by first | omega | (simp only [List.length_set, List.length_append, List.length_cons, List.length_nil, List.length_replicate, List.length_take, swp_length, exch_length]; omega)) rfl rfl (fun _ _ _ _ _ => trivial) fun h13 ho45 hc4 hsz2 => ?_
            have hx0_14 := hx0_13.trans (ho44.ext hc4 hx0_13.size)
            have ho46 := ho43.chg hc4 (Dj.symm (dj_eq (Dj.symm hdj1) (hso5 rfl).1))
            refine lx_nil <| wi_inBlock <| wi_reg rfl <| lx_move (.int .i64 ((z : Nat) : Int)) rfl rfl <| lx_add (((z + 1 : Nat) : Int)) rfl rfl rfl (by omega) (by omega) (by omega) <| lx_assign (.int .i64 ((z + 1 : Nat) : Int)) rfl rfl <| lx_nil <| ?_
            -- L6.1
            refine IH4 _ _ (z + 1, g2.set z (((1 + ((ur (gt g2 z)) % 15) : Nat) : Int))) (agree_ups rfl agree_self) ⟨rfl, trivial⟩ ⟨?_, ?_, hx0_14, ?_, ?_, ?_⟩ ?_
            · first | exact ho46 | (simpa using ho46)
            · first | exact ho45 | (simpa using ho45)
            · try dsimp only
              omega
            · try dsimp only
              first | done | (simpa using hg2l)
            · try dsimp only
              rw [List.length_set]; exact set_b (by omega) (by omega) hg2b
            · first | omega | (dsimp only; omega)
          · refine lx_nil <| wi_false rfl <| wi_exit rfl <| wi_reg rfl <| lx_move (vg) rfl rfl <| lx_move (vg) rfl rfl <| lx_len rfl Try.underlying35 ho44.rd rfl <| lx_min (((min g2.length 6 : Nat) : Int)) rfl rfl rfl (by omega) <| lx_slice (E := encI) 0 (min g2.length 6) rfl eT35 rfl rfl ⟨_, rfl⟩ ho44.rd (by omega) (by omega) fun vg2 hs6 hso6 => ?_
            have ho47 := sl_own ho44 (hso6 rfl).2 (by omega)
            refine lx_assign (vg2) rfl rfl <| lx_nil <| wi_inBlock <| wi_reg rfl <| lx_move (.int .i64 ((k : Nat) : Int)) rfl rfl <| lx_add (((k + 1 : Nat) : Int)) rfl rfl rfl (by omega) (by omega) (by omega) <| lx_assign (.int .i64 ((k + 1 : Nat) : Int)) rfl rfl <| lx_nil <| ?_
            -- L0.2
            refine IH1 _ _ (k + 1, ((1 + ((ur gap) % 12) : Nat) : Int), vr2, row.take (min row.length 60), vg2, g2.take (min g2.length 6)) (agree_ups rfl (agree_mix (rngB_sub (by decide) (by decide) rfl) (agree_ups rfl (agree_mix (rngB_sub (by decide) (by decide) rfl) (agree_ups rfl (agree_mix (rngB_sub (by decide) (by decide) rfl) (agree_ups rfl (agree_mix (rngB_sub (by decide) (by decide) rfl) (agree_ups rfl (agree_mix (rngB_sub (by decide) (by decide) rfl) (agree_ups rfl agree_self))))))))))) ⟨rfl, rfl, rfl, rfl, trivial⟩ ⟨?_, ?_, hx0_13, (dj_eq (Dj.symm (dj_eq (Dj.symm hdj1) (hso5 rfl).1)) (hso6 rfl).1), ?_, ?_, ?_, ?_, ?_⟩ ?_
            · first | exact ho43 | (simpa using ho43)
            · first | exact ho47 | (simpa using ho47)
            · try dsimp only
              omega
            · try dsimp only
              omega
            · try dsimp only
              first | omega | (simp only [List.length_take]; omega)
            · try dsimp only
              first | omega | (simp only [List.length_take]; omega)
            · try dsimp only
              exact take_b hg2b
            · first | omega | (dsimp only; omega)
        · refine lx_pick false (.bool false) rfl rfl rfl <| lx_nil <| wi_false rfl <| wi_skip <| wi_seq <| wi_seq <| wi_reg rfl <| lx_move (.int .i64 w3) rfl rfl <| lx_neqS rfl rfl rfl (fun c11 => ?_) (fun c11 => ?_)
          · refine lx_nil <| wi_true rfl <| wi_seq <| wi_reg rfl <| ?_
            have hck : chkRow row gs = w3 := by first | exact chk_two (by omega) | exact chk_w (by omega) (by omega) (by omega) hw3
            obtain ⟨rfl, rfl⟩ := bad_ hsh_2 (by omega)
            refine lx_move (.int .i64 (chkRow row gs)) rfl rfl <| lx_move (.int .i64 w3) rfl rfl <| lx_neqF rfl rfl rfl (by omega) <| lx_move (.bool false) rfl rfl <| lx_move (.int .i64 0) rfl rfl <| lx_neqF rfl rfl rfl (by decide) <| lx_pick false (.bool false) rfl rfl rfl <| lx_move (.bool false) rfl rfl <| lx_move (vsh) rfl rfl <| lx_len rfl Try.underlying29 ho35.rd rfl <| lx_neqF rfl rfl rfl (by simp) <| lx_pick false (.bool false) rfl rfl rfl <| lx_nil <| wi_false rfl <| wi_skip <| wi_seq <| wi_reg rfl <| lx_move (.int .i64 gap) rfl rfl <| lx_conv ((ur gap : Nat) : Int) rfl Try.underlying3 Try.underlying26 rfl (wrap_ur _) <| lx_rem (m := ur gap) (n := 12) rfl rfl rfl (by omega) <| lx_conv (((ur gap) % 12 : Nat) : Int) rfl Try.underlying26 Try.underlying3 rfl (wrap_i64 (by omega) (by omega)) <| lx_add (((1 + ((ur gap) % 12) : Nat) : Int)) rfl rfl rfl (by omega) (by omega) (by omega) <| lx_assign (.int .i64 ((1 + ((ur gap) % 12) : Nat) : Int)) rfl rfl <| lx_nil <| wi_seq <| wi_reg rfl <| lx_move (vr) rfl rfl <| lx_move (vr) rfl rfl <| lx_len rfl Try.underlying29 ho33.rd rfl <| lx_min (((min row.length 60 : Nat) : Int)) rfl rfl rfl (by omega) <| lx_slice (E := encI) 0 (min row.length 60) rfl eT29 rfl rfl ⟨_, rfl⟩ ho33.rd (by omega) (by omega) fun vr2 hs7 hso7 => ?_
            have ho48 := sl_own ho33 (hso7 rfl).2 (by omega)
            refine lx_assign (vr2) rfl rfl <| lx_nil <| wi_seq <| wi_seq <| wi_reg rfl <| lx_assign (.int .i64 0) rfl rfl <| lx_nil <| wi_block <| ?_
            refine wi_loop (σ := Nat × (List Int)) (rngB 261 278 [35]) (fun (ss : Nat × (List Int)) => [(35, .int .i64 ((ss.1 : Nat) : Int))]) (fun (ss : Nat × (List Int)) (hh : Heap) => OwE encI hh h.size 2 vr2 (row.take (min row.length 60)) ∧ OwE encI hh h.size 3 vg ss.2 ∧ Ext h.size h hh ∧ (ss.1 ≤ gs.length) ∧ (ss.2.length = gs.length) ∧ (∀ i, i < ss.2.length → -9223372036854775808 ≤ gt ss.2 i ∧ gt ss.2 i ≤ 9223372036854775807)) (fun (ss : Nat × (List Int)) => gs.length - ss.1) (0, gs) ⟨rfl, trivial⟩ ⟨?_, ?_, hx0_10, ?_, ?_, ?_⟩ ?_
            · first | exact ho48 | (simpa using ho48)
            · first | exact ho34 | (simpa using ho34)
            · try dsimp only
              omega
            · try dsimp only
              first | done | (simpa using hg2l)
            · try dsimp only
              exact hgb
            rintro g8 ⟨z, g2⟩ hh8 ⟨ho49, ho50, hx0_15, hz, hg2l, hg2b⟩ IH5
            dsimp only at *
            refine wi_seq <| wi_seq <| wi_reg rfl <| lx_move (.int .i64 ((z : Nat) : Int)) rfl rfl <| lx_move (vg) rfl rfl <| lx_len rfl Try.underlying35 ho50.rd rfl <| lx_lssS rfl rfl rfl (fun c12 => ?_) (fun c12 => ?_)
            · refine lx_nil <| wi_true rfl <| wi_skip <| wi_seq <| wi_block <| wi_reg rfl <| lx_move (vg) rfl rfl <| lx_move (.int .i64 ((z : Nat) : Int)) rfl rfl <| lx_move (vg) rfl rfl <| lx_move (.int .i64 ((z : Nat) : Int)) rfl rfl <| lx_ix (i := z) rfl eT35 ho50.rd rfl rfl (by first | omega | (simp only [List.length_set, List.length_append, List.length_cons, List.length_nil, List.length_replicate, List.length_take, swp_length, exch_length]; omega)) <| lx_ld (i := z) (j := 0) (.int .i64 (gt g2 z)) rfl rfl fl3 ho50.rd (by first | omega | (simp only [List.length_set, List.length_append, List.length_cons, List.length_nil, List.length_replicate, List.length_take, swp_length, exch_length]; omega)) rfl rfl <| lx_conv ((ur (gt g2 z) : Nat) : Int) rfl Try.underlying3 Try.underlying26 rfl (wrap_ur _) <| lx_rem (m := ur (gt g2 z)) (n := 15) rfl rfl rfl (by omega) <| lx_conv (((ur (gt g2 z)) % 15 : Nat) : Int) rfl Try.underlying26 Try.underlying3 rfl (wrap_i64 (by omega) (by omega)) <| lx_add (((1 + ((ur (gt g2 z)) % 15) : Nat) : Int)) rfl rfl rfl (by omega) (by omega) (by omega) <| lx_ix (i := z) rfl eT35 ho50.rd rfl rfl (by first | omega | (simp only [List.length_set, List.length_append, List.length_cons, List.length_nil, List.length_replicate, List.length_take, swp_length, exch_length]; omega)) <| lx_st (i := z) (((1 + ((ur (gt g2 z)) % 15) : Nat) : Int)) rfl rfl Try.sizeOf3 ho50 (by first | omega | (simp only [List.length_set, List.length_append, List.length_cons, List.length_nil, List.length_replicate, List.length_take, swp_length, exch_length]; omega)) rfl rfl (fun _ _ _ _ _ => trivial) fun h14 ho51 hc5 hsz3 => ?_
              have hx0_16 := hx0_15.trans (ho50.ext hc5 hx0_15.size)
              have ho52 := ho49.chg hc5 (Dj.symm (dj_eq (Dj.symm hdj1) (hso7 rfl).1))
              refine lx_nil <| wi_inBlock <| wi_reg rfl <| lx_move (.int .i64 ((z : Nat) : Int)) rfl rfl <| lx_add (((z + 1 : Nat) : Int)) rfl rfl rfl (by omega) (by omega) (by omega) <| lx_assign (.int .i64 ((z + 1 : Nat) : Int)) rfl rfl <| lx_nil <| ?_
              -- L6.1
              refine IH5 _ _ (z + 1, g2.set z (((1 + ((ur (gt g2 z)) % 15) : Nat) : Int))) (agree_ups rfl agree_self) ⟨rfl, trivial⟩ ⟨?_, ?_, hx0_16, ?_, ?_, ?_⟩ ?_
              · first | exact ho52 | (simpa using ho52)
              · first | exact ho51 | (simpa using ho51)
              · try dsimp only
                omega
              · try dsimp only
                first | done | (simpa using hg2l)
              · try dsimp only
                rw [List.length_set]; exact set_b (by omega) (by omega) hg2b
              · first | omega | (dsimp only; omega)
            · refine lx_nil <| wi_false rfl <| wi_exit rfl <| wi_reg rfl <| lx_move (vg) rfl rfl <| lx_move (vg) rfl rfl <| lx_len rfl Try.underlying35 ho50.rd rfl <| lx_min (((min g2.length 6 : Nat) : Int)) rfl rfl rfl (by omega) <| lx_slice (E := encI) 0 (min g2.length 6) rfl eT35 rfl rfl ⟨_, rfl⟩ ho50.rd (by omega) (by omega) fun vg2 hs8 hso8 => ?_
              have ho53 := sl_own ho50 (hso8 rfl).2 (by omega)
              refine lx_assign (vg2) rfl rfl <| lx_nil <| wi_inBlock <| wi_reg rfl <| lx_move (.int .i64 ((k : Nat) : Int)) rfl rfl <| lx_add (((k + 1 : Nat) : Int)) rfl rfl rfl (by omega) (by omega) (by omega) <| lx_assign (.int .i64 ((k + 1 : Nat) : Int)) rfl rfl <| lx_nil <| ?_
              -- L0.3
              refine IH1 _ _ (k + 1, ((1 + ((ur gap) % 12) : Nat) : Int), vr2, row.take (min row.length 60), vg2, g2.take (min g2.length 6)) (agree_ups rfl (agree_mix (rngB_sub (by decide) (by decide) rfl) (agree_ups rfl (agree_mix (rngB_sub (by decide) (by decide) rfl) (agree_ups rfl (agree_mix (rngB_sub (by decide) (by decide) rfl) (agree_ups rfl (agree_mix (rngB_sub (by decide) (by decide) rfl) (agree_ups rfl (agree_mix (rngB_sub (by decide) (by decide) rfl) (agree_ups rfl agree_self))))))))))) ⟨rfl, rfl, rfl, rfl, trivial⟩ ⟨?_, ?_, hx0_15, (dj_eq (Dj.symm (dj_eq (Dj.symm hdj1) (hso7 rfl).1)) (hso8 rfl).1), ?_, ?_, ?_, ?_, ?_⟩ ?_
              · first | exact ho49 | (simpa using ho49)
              · first | exact ho53 | (simpa using ho53)
              · try dsimp only
                omega
              · try dsimp only
                omega
              · try dsimp only
                first | omega | (simp only [List.length_take]; omega)
              · try dsimp only
                first | omega | (simp only [List.length_take]; omega)
              · try dsimp only
                exact take_b hg2b
              · first | omega | (dsimp only; omega)
          · refine lx_nil <| wi_false rfl <| wi_seq <| wi_reg rfl <| ?_
            have hck : chkRow row gs = 0 := by have := chk_w (xs := row) (by omega) (by omega) (by omega) hw3; omega
            obtain ⟨hcl, hcl2⟩ := chk_len hck
            have hst0 := good_ hsh_2 hck
            have hl5 := ShellTo_length hst0
            refine lx_move (vr) rfl rfl <| lx_assign (vr) rfl rfl <| lx_assign (.int .i64 0) rfl rfl <| lx_nil <| wi_seq <| wi_seq <| wi_reg rfl <| lx_assign (.int .i64 0) rfl rfl <| lx_nil <| wi_block <| ?_
            refine wi_loop (σ := Nat × Value × (List Int) × Nat) (rngB 219 238 [30, 31, 32, 33, 34]) (fun (ss : Nat × Value × (List Int) × Nat) => [(32, .int .i64 ((ss.1 : Nat) : Int)), (30, ss.2.1), (31, .int .i64 ((ss.2.2.2 : Nat) : Int))]) (fun (ss : Nat × Value × (List Int) × Nat) (hh : Heap) => OwE encI hh h.size 2 vr row ∧ OwE encI hh h.size 3 vg gs ∧ OwE encI hh h.size 2 vsh ysh ∧ OwE encI hh h.size 2 ss.2.1 ss.2.2.1 ∧ Ext h.size h hh ∧ (ss.1 ≤ gs.length) ∧ (ShellTo ss.1 gs row ss.2.2.1 ss.2.2.2) ∧ (ss.2.2.2 ≤ 41000 * ss.1)) (fun (ss : Nat × Value × (List Int) × Nat) => gs.length - ss.1) (0, vr, row, 0) ⟨rfl, rfl, rfl, trivial⟩ ⟨?_, ?_, ?_, ?_, hx0_10, ?_, ?_, ?_⟩ ?_
            · first | exact ho33 | (simpa using ho33)
            · first | exact ho34 | (simpa using ho34)
            · first | exact ho35 | (simpa using ho35)
            · first | exact ho33 | (simpa using ho33)
            · try dsimp only
              omega
            · try dsimp only
              exact ⟨rfl, rfl⟩
            · try dsimp only
              omega
            rintro g9 ⟨q, vd, d, tot⟩ hh9 ⟨ho54, ho55, ho56, ho57, hx0_17, hq, hst, htb⟩ IH6
            dsimp only at *
            have hdl := ShellTo_length hst
            refine wi_seq <| wi_seq <| wi_reg rfl <| lx_move (.int .i64 ((q : Nat) : Int)) rfl rfl <| lx_move (vg) rfl rfl <| lx_len rfl Try.underlying35 ho55.rd rfl <| lx_lssS rfl rfl rfl (fun c13 => ?_) (fun c13 => ?_)
            · refine lx_nil <| wi_true rfl <| wi_skip <| wi_seq <| wi_block <| wi_seq <| wi_reg rfl <| ?_
              have hgi := chk_gap hck (i := q) (by omega)
              have hge : gt gs q = (((gt gs q).toNat : Nat) : Int) := by omega
              have hgu := (hgb q (by omega)).2
              refine lx_move (vd) rfl rfl <| lx_move (vg) rfl rfl <| lx_move (.int .i64 ((q : Nat) : Int)) rfl rfl <| lx_ix (i := q) rfl eT35 ho55.rd rfl rfl (by first | omega | (simp only [List.length_set, List.length_append, List.length_cons, List.length_nil, List.length_replicate, List.length_take, swp_length, exch_length]; omega)) <| lx_ld (i := q) (j := 0) (.int .i64 (((gt gs q).toNat : Nat) : Int)) rfl rfl fl3 ho55.rd (by first | omega | (simp only [List.length_set, List.length_append, List.length_cons, List.length_nil, List.length_replicate, List.length_take, swp_length, exch_length]; omega)) (by show some (Value.int .i64 (gt gs q)) = _; rw [← hge]) rfl <| lx_call [vd, .int .i64 (((gt gs q).toNat : Nat) : Int)] rfl rfl Try.call31 rfl (rsortBy_spec hh9 vd d ((gt gs q).toNat) ho57.rd (by omega) (by omega) (by omega)) (fun _ _ _ => trivial) ?_
              rintro _ h15 ⟨v7, ys_4, q_2, rfl, ho58, hgs_2, hso_4, hpq_2, hx7⟩
              have hx0_18 := hx0_17.trans2 hx7 hx0_17.size
              have ho59 := ho54.extS hx7
              have ho60 := ho55.extS hx7
              have ho61 := ho56.extS hx7
              have ho62 := ho57.extS hx7
              have ho63 := ho58.base hx0_17.size
              refine lx_move (.tuple #[v7, .int .i64 ((pairs ((gt gs q).toNat) d : Nat) : Int)]) rfl rfl <| lx_extract (v7) rfl rfl rfl <| lx_extract (.int .i64 ((pairs ((gt gs q).toNat) d : Nat) : Int)) rfl rfl rfl <| lx_assign (v7) rfl rfl <| lx_assign (.int .i64 ((pairs ((gt gs q).toNat) d : Nat) : Int)) rfl rfl <| lx_nil <| wi_seq <| wi_reg rfl <| lx_move (v7) rfl rfl <| lx_assign (v7) rfl rfl <| lx_nil <| wi_reg rfl <| lx_move (.int .i64 ((tot : Nat) : Int)) rfl rfl <| lx_move (.int .i64 ((pairs ((gt gs q).toNat) d : Nat) : Int)) rfl rfl <| lx_add (((tot + (pairs ((gt gs q).toNat) d) : Nat) : Int)) rfl rfl rfl (by omega) (by omega) (by omega) <| lx_assign (.int .i64 ((tot + (pairs ((gt gs q).toNat) d) : Nat) : Int)) rfl rfl <| lx_nil <| wi_inBlock <| wi_reg rfl <| lx_move (.int .i64 ((q : Nat) : Int)) rfl rfl <| lx_add (((q + 1 : Nat) : Int)) rfl rfl rfl (by omega) (by omega) (by omega) <| lx_assign (.int .i64 ((q + 1 : Nat) : Int)) rfl rfl <| lx_nil <| ?_
              -- L4.1
              refine IH6 _ _ (q + 1, v7, ys_4, tot + (pairs ((gt gs q).toNat) d)) (agree_ups rfl agree_self) ⟨rfl, rfl, rfl, trivial⟩ ⟨?_, ?_, ?_, ?_, hx0_18, ?_, ?_, ?_⟩ ?_
              · first | exact ho59 | (simpa using ho59)
              · first | exact ho60 | (simpa using ho60)
              · first | exact ho61 | (simpa using ho61)
              · first | exact ho63 | (simpa using ho63)
              · try dsimp only
                omega
              · try dsimp only
                exact ⟨d, tot, q_2, hst, hgs_2, hso_4, by rw [hpq_2.1]⟩
              · try dsimp only
                have := hpq_2.1
                omega
              · first | omega | (dsimp only; omega)
            · refine lx_nil <| wi_false rfl <| wi_exit rfl <| wi_seq <| wi_reg rfl <| ?_
              obtain rfl : q = gs.length := by omega
              obtain ⟨hu1, hu2⟩ := ShellTo_uniq (fun i hi => chk_gap hck hi) hst0 hst
              refine lx_move (.int .i64 (chkRow row gs)) rfl rfl <| lx_neqF rfl rfl rfl (fun h => h hck) <| lx_move (.bool false) rfl rfl <| lx_move (vsh) rfl rfl <| lx_move (vd) rfl rfl <| lx_call [vsh, vd] rfl rfl Try.call32 rfl (longs_spec hh9 vsh ysh vd d ho56.rd ho57.rd (by omega) (by omega)) (fun _ _ _ => trivial) ?_
              rintro _ h16 ⟨rfl, rfl⟩
              rw [decide_eq_true hu1]
              refine lx_notB false rfl rfl rfl <| lx_pick false (.bool false) rfl rfl rfl <| lx_move (.bool false) rfl rfl <| lx_move (.int .i64 ((nsh : Nat) : Int)) rfl rfl <| lx_move (.int .i64 ((tot : Nat) : Int)) rfl rfl <| lx_neqF rfl rfl rfl (by omega) <| lx_pick false (.bool false) rfl rfl rfl <| lx_nil <| wi_false rfl <| wi_skip <| wi_seq <| wi_reg rfl <| lx_move (.int .i64 gap) rfl rfl <| lx_conv ((ur gap : Nat) : Int) rfl Try.underlying3 Try.underlying26 rfl (wrap_ur _) <| lx_rem (m := ur gap) (n := 12) rfl rfl rfl (by omega) <| lx_conv (((ur gap) % 12 : Nat) : Int) rfl Try.underlying26 Try.underlying3 rfl (wrap_i64 (by omega) (by omega)) <| lx_add (((1 + ((ur gap) % 12) : Nat) : Int)) rfl rfl rfl (by omega) (by omega) (by omega) <| lx_assign (.int .i64 ((1 + ((ur gap) % 12) : Nat) : Int)) rfl rfl <| lx_nil <| wi_seq <| wi_reg rfl <| lx_move (vr) rfl rfl <| lx_move (vr) rfl rfl <| lx_len rfl Try.underlying29 ho54.rd rfl <| lx_min (((min row.length 60 : Nat) : Int)) rfl rfl rfl (by omega) <| lx_slice (E := encI) 0 (min row.length 60) rfl eT29 rfl rfl ⟨_, rfl⟩ ho54.rd (by omega) (by omega) fun vr2 hs9 hso9 => ?_
              have ho64 := sl_own ho54 (hso9 rfl).2 (by omega)
              refine lx_assign (vr2) rfl rfl <| lx_nil <| wi_seq <| wi_seq <| wi_reg rfl <| lx_assign (.int .i64 0) rfl rfl <| lx_nil <| wi_block <| ?_
              refine wi_loop (σ := Nat × (List Int)) (rngB 261 278 [35]) (fun (ss : Nat × (List Int)) => [(35, .int .i64 ((ss.1 : Nat) : Int))]) (fun (ss : Nat × (List Int)) (hh : Heap) => OwE encI hh h.size 2 vr2 (row.take (min row.length 60)) ∧ OwE encI hh h.size 3 vg ss.2 ∧ Ext h.size h hh ∧ (ss.1 ≤ gs.length) ∧ (ss.2.length = gs.length) ∧ (∀ i, i < ss.2.length → -9223372036854775808 ≤ gt ss.2 i ∧ gt ss.2 i ≤ 9223372036854775807)) (fun (ss : Nat × (List Int)) => gs.length - ss.1) (0, gs) ⟨rfl, trivial⟩ ⟨?_, ?_, hx0_17, ?_, ?_, ?_⟩ ?_
              · first | exact ho64 | (simpa using ho64)
              · first | exact ho55 | (simpa using ho55)
              · try dsimp only
                omega
              · try dsimp only
                first | done | (simpa using hg2l)
              · try dsimp only
                exact hgb
              rintro g10 ⟨z, g2⟩ hh10 ⟨ho65, ho66, hx0_19, hz, hg2l, hg2b⟩ IH7
              dsimp only at *
              refine wi_seq <| wi_seq <| wi_reg rfl <| lx_move (.int .i64 ((z : Nat) : Int)) rfl rfl <| lx_move (vg) rfl rfl <| lx_len rfl Try.underlying35 ho66.rd rfl <| lx_lssS rfl rfl rfl (fun c14 => ?_) (fun c14 => ?_)
              · refine lx_nil <| wi_true rfl <| wi_skip <| wi_seq <| wi_block <| wi_reg rfl <| lx_move (vg) rfl rfl <| lx_move (.int .i64 ((z : Nat) : Int)) rfl rfl <| lx_move (vg) rfl rfl <| lx_move (.int .i64 ((z : Nat) : Int)) rfl rfl <| lx_ix (i := z) rfl eT35 ho66.rd rfl rfl (by first | omega | (simp only [List.length_set, List.length_append, List.length_cons, List.length_nil, List.length_replicate, List.length_take, swp_length, exch_length]; omega)) <| lx_ld (i := z) (j := 0) (.int .i64 (gt g2 z)) rfl rfl fl3 ho66.rd (by first | omega | (simp only [List.length_set, List.length_append, List.length_cons, List.length_nil, List.length_replicate, List.length_take, swp_length, exch_length]; omega)) rfl rfl <| lx_conv ((ur (gt g2 z) : Nat) : Int) rfl Try.underlying3 Try.underlying26 rfl (wrap_ur _) <| lx_rem (m := ur (gt g2 z)) (n := 15) rfl rfl rfl (by omega) <| lx_conv (((ur (gt g2 z)) % 15 : Nat) : Int) rfl Try.underlying26 Try.underlying3 rfl (wrap_i64 (by omega) (by omega)) <| lx_add (((1 + ((ur (gt g2 z)) % 15) : Nat) : Int)) rfl rfl rfl (by omega) (by omega) (by omega) <| lx_ix (i := z) rfl eT35 ho66.rd rfl rfl (by first | omega | (simp only [List.length_set, List.length_append, List.length_cons, List.length_nil, List.length_replicate, List.length_take, swp_length, exch_length]; omega)) <| lx_st (i := z) (((1 + ((ur (gt g2 z)) % 15) : Nat) : Int)) rfl rfl Try.sizeOf3 ho66 (by first | omega | (simp only [List.length_set, List.length_append, List.length_cons, List.length_nil, List.length_replicate, List.length_take, swp_length, exch_length]; omega)) rfl rfl (fun _ _ _ _ _ => trivial) fun h17 ho67 hc6 hsz4 => ?_
                have hx0_20 := hx0_19.trans (ho66.ext hc6 hx0_19.size)
                have ho68 := ho65.chg hc6 (Dj.symm (dj_eq (Dj.symm hdj1) (hso9 rfl).1))
                refine lx_nil <| wi_inBlock <| wi_reg rfl <| lx_move (.int .i64 ((z : Nat) : Int)) rfl rfl <| lx_add (((z + 1 : Nat) : Int)) rfl rfl rfl (by omega) (by omega) (by omega) <| lx_assign (.int .i64 ((z + 1 : Nat) : Int)) rfl rfl <| lx_nil <| ?_
                -- L6.1
                refine IH7 _ _ (z + 1, g2.set z (((1 + ((ur (gt g2 z)) % 15) : Nat) : Int))) (agree_ups rfl agree_self) ⟨rfl, trivial⟩ ⟨?_, ?_, hx0_20, ?_, ?_, ?_⟩ ?_
                · first | exact ho68 | (simpa using ho68)
                · first | exact ho67 | (simpa using ho67)
                · try dsimp only
                  omega
                · try dsimp only
                  first | done | (simpa using hg2l)
                · try dsimp only
                  rw [List.length_set]; exact set_b (by omega) (by omega) hg2b
                · first | omega | (dsimp only; omega)
              · refine lx_nil <| wi_false rfl <| wi_exit rfl <| wi_reg rfl <| lx_move (vg) rfl rfl <| lx_move (vg) rfl rfl <| lx_len rfl Try.underlying35 ho66.rd rfl <| lx_min (((min g2.length 6 : Nat) : Int)) rfl rfl rfl (by omega) <| lx_slice (E := encI) 0 (min g2.length 6) rfl eT35 rfl rfl ⟨_, rfl⟩ ho66.rd (by omega) (by omega) fun vg2 hs10 hso10 => ?_
                have ho69 := sl_own ho66 (hso10 rfl).2 (by omega)
                refine lx_assign (vg2) rfl rfl <| lx_nil <| wi_inBlock <| wi_reg rfl <| lx_move (.int .i64 ((k : Nat) : Int)) rfl rfl <| lx_add (((k + 1 : Nat) : Int)) rfl rfl rfl (by omega) (by omega) (by omega) <| lx_assign (.int .i64 ((k + 1 : Nat) : Int)) rfl rfl <| lx_nil <| ?_
                -- L0.4
                refine IH1 _ _ (k + 1, ((1 + ((ur gap) % 12) : Nat) : Int), vr2, row.take (min row.length 60), vg2, g2.take (min g2.length 6)) (agree_ups rfl (agree_mix (rngB_sub (by decide) (by decide) rfl) (agree_ups rfl (agree_mix (rngB_sub (by decide) (by decide) rfl) (agree_ups rfl (agree_mix (rngB_sub (by decide) (by decide) rfl) (agree_ups rfl (agree_mix (rngB_sub (by decide) (by decide) rfl) (agree_ups rfl (agree_mix (rngB_sub (by decide) (by decide) rfl) (agree_ups rfl (agree_mix (rngB_sub (by decide) (by decide) rfl) (agree_ups rfl agree_self))))))))))))) ⟨rfl, rfl, rfl, rfl, trivial⟩ ⟨?_, ?_, hx0_19, (dj_eq (Dj.symm (dj_eq (Dj.symm hdj1) (hso9 rfl).1)) (hso10 rfl).1), ?_, ?_, ?_, ?_, ?_⟩ ?_
                · first | exact ho65 | (simpa using ho65)
                · first | exact ho69 | (simpa using ho69)
                · try dsimp only
                  omega
                · try dsimp only
                  omega
                · try dsimp only
                  first | omega | (simp only [List.length_take]; omega)
                · try dsimp only
                  first | omega | (simp only [List.length_take]; omega)
                · try dsimp only
                  exact take_b hg2b
                · first | omega | (dsimp only; omega)
  · refine lx_nil <| wi_false rfl <| wi_exit rfl <| wi_seq <| wi_reg rfl <| lx_call [] rfl rfl Try.call15 rfl (awake_spec hh1 ) (fun _ _ _ => trivial) ?_
    rintro _ h18 ⟨rfl, hx8⟩
    have hx0_21 := hx0_3.trans2 hx8 hx0_3.size
    have ho70 := ho4.extS hx8
    have ho71 := ho5.extS hx8
    refine lx_assign (.bool true) rfl rfl <| lx_nil <| ?_
    -- R1
    refine wi_ret ⟨.bool true, (res_one rfl rfl), ⟨rfl, hx0_21⟩⟩

end Go.Proofs.Ytjfickfgpkejpaa
