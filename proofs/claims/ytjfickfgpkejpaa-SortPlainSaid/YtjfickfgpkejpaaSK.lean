/-
  Walks: values, Run, SortStraight.
-/
import Derived.Test.YtjfickfgpkejpaaSJ
import Derived.Test.YtjfickfgpkejpaaXRunV
set_option linter.unusedSimpArgs false
set_option linter.unusedVariables false
namespace Go.Proofs.Ytjfickfgpkejpaa
open Go Go.X

set_option maxRecDepth 10000 in
theorem values_spec (h : Heap) (n : Nat) (vl : Value) (xs : List Int) (hr_vl : RdE encI h vl xs) (hp1 : n ≤ 10) (hp2 : xs.length ≤ 9223372036854775807) : Fx Try.prog 33 [.int .i64 ((n : Nat) : Int), vl] h (fun v h' => ∃ (s : Value), v = s ∧ OwE encI h' h.size 2 s (valuesF n xs) ∧ Ext h.size h h') := by
  refine fx_intro (n := 29) [(0, .int .i64 ((n : Nat) : Int)), (1, vl)] Try.func33 rfl rfl (by simp) ⟨rfl, rfl, trivial⟩ fun g0 => ?_
  refine wi_seq <| wi_reg rfl <| lx_assign (.slice none 0 0) rfl rfl <| lx_nil <| wi_seq <| wi_reg rfl <| lx_assign (.slice none 0 0) rfl rfl <| lx_nil <| wi_seq <| wi_seq <| wi_reg rfl <| lx_assign (.int .i64 0) rfl rfl <| lx_nil <| wi_block <| ?_
  refine wi_loop (σ := Nat × Value × (List Int)) (rngB 5 28 []) (fun (ss : Nat × Value × (List Int)) => [(6, .int .i64 ((ss.1 : Nat) : Int)), (5, ss.2.1)]) (fun (ss : Nat × Value × (List Int)) (hh : Heap) => OwE encI hh h.size 2 ss.2.1 ss.2.2 ∧ Ext h.size h hh ∧ (ss.1 ≤ n) ∧ (ss.2.2 = valuesK n xs ss.1)) (fun (ss : Nat × Value × (List Int)) => n - ss.1) (0, .slice none 0 0, []) ⟨rfl, rfl, trivial⟩ ⟨?_, (Ext.refl _ _), ?_, ?_⟩ ?_
  · first | exact (owE_nil encI _ h.size 2) | (simpa using (owE_nil encI _ h.size 2))
  · try dsimp only
    omega
  · try dsimp only
    first | done | rfl
  rintro g1 ⟨i, v, ys⟩ hh1 ⟨ho1, hx0_1, hi, hys⟩ IH1
  dsimp only at *
  have hyl : ys.length = i := by rw [hys]; exact valuesK_length _ _ _
  refine wi_seq <| wi_seq <| wi_reg rfl <| lx_move (.int .i64 ((i : Nat) : Int)) rfl rfl <| lx_move (.int .i64 ((n : Nat) : Int)) rfl rfl <| lx_lssS rfl rfl rfl (fun c1 => ?_) (fun c1 => ?_)
  · refine lx_nil <| wi_true rfl <| wi_skip <| wi_seq <| wi_block <| wi_seq <| wi_reg rfl <| lx_move (.int .i64 ((n : Nat) : Int)) rfl rfl <| lx_move (.int .i64 ((i : Nat) : Int)) rfl rfl <| lx_sub ((((n : Nat) : Int)) - (((i : Nat) : Int))) rfl rfl rfl (by omega) (by omega) (by omega) <| lx_assign (.int .i64 ((((n : Nat) : Int)) - (((i : Nat) : Int)))) rfl rfl <| lx_nil <| wi_seq <| wi_seq <| wi_reg rfl <| lx_move (.int .i64 ((i : Nat) : Int)) rfl rfl <| lx_move (vl) rfl rfl <| lx_len rfl Try.underlying29 hr_vl rfl <| lx_lssS rfl rfl rfl (fun c2 => ?_) (fun c2 => ?_)
    · refine lx_nil <| wi_true rfl <| wi_reg rfl <| lx_move (vl) rfl rfl <| lx_move (.int .i64 ((i : Nat) : Int)) rfl rfl <| lx_ix (i := i) rfl eT29 hr_vl rfl rfl (by first | omega | (simp only [List.length_set, List.length_append, List.length_cons, List.length_nil, List.length_replicate, List.length_take, swp_length, exch_length]; omega)) <| lx_ld (i := i) (j := 0) (.int .i64 (gt xs i)) rfl rfl fl2 (hr_vl.extS hx0_1) (by first | omega | (simp only [List.length_set, List.length_append, List.length_cons, List.length_nil, List.length_replicate, List.length_take, swp_length, exch_length]; omega)) rfl rfl <| lx_assign (.int .i64 (gt xs i)) rfl rfl <| lx_nil <| wi_reg rfl <| lx_move (v) rfl rfl <| lx_move (.int .i64 (gt xs i)) rfl rfl <| lx_appendL (E := encI) (B := h.size) [gt xs i] [.int .i64 (gt xs i)] rfl rfl (fun _ => rfl) rfl eT29 rfl rfl rfl rfl ho1 (fun _ => rfl) (by show ys.length + 1 ≤ _; omega) (by show (ys.length + 1) * 8 ≤ _; omega) hx0_1.size (fun _ _ => trivial) fun u1 v1 h1 ho2 hc1 hg1 => ?_
      have hx0_2 := hx0_1.trans (ho1.ext hc1 hx0_1.size)
      refine lx_assign (v1) rfl rfl <| lx_nil <| wi_inBlock <| wi_reg rfl <| lx_move (.int .i64 ((i : Nat) : Int)) rfl rfl <| lx_add (((i + 1 : Nat) : Int)) rfl rfl rfl (by omega) (by omega) (by omega) <| lx_assign (.int .i64 ((i + 1 : Nat) : Int)) rfl rfl <| lx_nil <| ?_
      -- L0.1
      refine IH1 _ _ (i + 1, v1, ys ++ [gt xs i]) (agree_ups rfl agree_self) ⟨rfl, rfl, trivial⟩ ⟨?_, hx0_2, ?_, ?_⟩ ?_
      · first | exact ho2 | (simpa using ho2)
      · try dsimp only
        omega
      · try dsimp only
        rw [valuesK_succ, ← hys, if_pos (by omega)]
      · first | omega | (dsimp only; omega)
    · refine lx_nil <| wi_false rfl <| wi_skip <| wi_reg rfl <| lx_move (v) rfl rfl <| lx_move (.int .i64 ((((n : Nat) : Int)) - (((i : Nat) : Int)))) rfl rfl <| lx_appendL (E := encI) (B := h.size) [(((n : Nat) : Int)) - (((i : Nat) : Int))] [.int .i64 ((((n : Nat) : Int)) - (((i : Nat) : Int)))] rfl rfl (fun _ => rfl) rfl eT29 rfl rfl rfl rfl ho1 (fun _ => rfl) (by show ys.length + 1 ≤ _; omega) (by show (ys.length + 1) * 8 ≤ _; omega) hx0_1.size (fun _ _ => trivial) fun u2 v2 h2 ho3 hc2 hg2 => ?_
      have hx0_3 := hx0_1.trans (ho1.ext hc2 hx0_1.size)
      refine lx_assign (v2) rfl rfl <| lx_nil <| wi_inBlock <| wi_reg rfl <| lx_move (.int .i64 ((i : Nat) : Int)) rfl rfl <| lx_add (((i + 1 : Nat) : Int)) rfl rfl rfl (by omega) (by omega) (by omega) <| lx_assign (.int .i64 ((i + 1 : Nat) : Int)) rfl rfl <| lx_nil <| ?_
      -- L0.2
      refine IH1 _ _ (i + 1, v2, ys ++ [(((n : Nat) : Int)) - (((i : Nat) : Int))]) (agree_ups rfl agree_self) ⟨rfl, rfl, trivial⟩ ⟨?_, hx0_3, ?_, ?_⟩ ?_
      · first | exact ho3 | (simpa using ho3)
      · try dsimp only
        omega
      · try dsimp only
        rw [valuesK_succ, ← hys, if_neg (by omega)]
      · first | omega | (dsimp only; omega)
  · refine lx_nil <| wi_false rfl <| wi_exit rfl <| wi_seq <| wi_reg rfl <| lx_move (v) rfl rfl <| lx_assign (v) rfl rfl <| lx_nil <| ?_
    -- R1
    refine wi_ret ⟨v, (res_one rfl rfl), ⟨v, rfl, ?_, hx0_1⟩⟩
    · have e : ys = valuesF n xs := by rw [hys, show i = n from by omega]; rfl
      rw [e] at ho1; exact ho1

set_option maxRecDepth 10000 in
theorem run_spec2 (h : Heap) (n : Int) (vl : Value) (ls : List (Int × Int)) (vv : Value) (xs : List Int) (hr_vl : RdE encP h vl ls) (hr_vv : RdE encI h vv xs) (hp1 : ls.length ≤ 4611686018427387904) (hp2 : xs.length ≤ 9223372036854775807) : Fx Try.prog 34 [.int .i64 n, vl, vv] h (fun v h' => ∃ (s : Value) (ys : List Int), v = .tuple #[s, .int .i64 (runE n ls xs)] ∧ OwE encI h' h.size 2 s ys ∧ ((runE n ls xs ≠ 0 ∧ ys = []) ∨ (runE n ls xs = 0 ∧ ys = runV ls xs)) ∧ Ext h.size h h') := by
  refine fx_intro (n := 38) [(0, .int .i64 n), (1, vl), (2, vv)] Try.func34 rfl rfl (by simp) ⟨rfl, rfl, rfl, trivial⟩ fun g0 => ?_
  refine wi_seq <| wi_reg rfl <| lx_assign (.slice none 0 0) rfl rfl <| lx_assign (.int .i64 0) rfl rfl <| lx_nil <| wi_seq <| wi_seq <| wi_reg rfl <| lx_move (.int .i64 n) rfl rfl <| lx_move (vl) rfl rfl <| lx_call [.int .i64 n, vl] rfl rfl Try.call45 rfl (check_spec h n vl ls hr_vl (by omega)) (fun _ _ _ => trivial) ?_
  rintro _ h1 ⟨rfl, hx1⟩
  refine lx_assign (.int .i64 (chkNet validC n ls)) rfl rfl <| lx_nil <| wi_seq <| wi_reg rfl <| lx_move (.int .i64 (chkNet validC n ls)) rfl rfl <| lx_neqS rfl rfl rfl (fun c1 => ?_) (fun c1 => ?_)
  · refine lx_nil <| wi_true rfl <| wi_seq <| wi_reg rfl <| lx_move (.int .i64 (chkNet validC n ls)) rfl rfl <| lx_assign (.slice none 0 0) rfl rfl <| lx_assign (.int .i64 (chkNet validC n ls)) rfl rfl <| lx_nil <| ?_
    -- R1
    refine wi_ret ⟨.tuple #[.slice none 0 0, .int .i64 (chkNet validC n ls)], (res_two rfl rfl rfl), ⟨.slice none 0 0, [], ?_, (owE_nil encI _ h.size 2), ?_, hx1⟩⟩
    · unfold runE; rw [if_pos (by omega)]
    · exact .inl ⟨by unfold runE; rw [if_pos (by omega)]; omega, rfl⟩
  · refine lx_nil <| wi_false rfl <| wi_skip <| wi_seq <| wi_seq <| wi_reg rfl <| ?_
    have hc0 : chkNet validC n ls = 0 := by omega
    obtain ⟨hn1, hn2, hll, hlv⟩ := chkNet_ok hc0
    refine lx_move (vv) rfl rfl <| lx_len rfl Try.underlying29 hr_vv rfl <| lx_move (.int .i64 n) rfl rfl <| lx_neqS rfl rfl rfl (fun c2 => ?_) (fun c2 => ?_)
    · refine lx_nil <| wi_true rfl <| wi_seq <| wi_reg rfl <| lx_assign (.slice none 0 0) rfl rfl <| lx_assign (.int .i64 7) rfl rfl <| lx_nil <| ?_
      -- R2
      refine wi_ret ⟨.tuple #[.slice none 0 0, .int .i64 7], (res_two rfl rfl rfl), ⟨.slice none 0 0, [], ?_, (owE_nil encI _ h.size 2), ?_, hx1⟩⟩
      · unfold runE; rw [if_neg (fun h => h hc0), if_pos (by omega)]
      · exact .inl ⟨by unfold runE; rw [if_neg (fun h => h hc0), if_pos (by omega)]; decide, rfl⟩
    · refine lx_nil <| wi_false rfl <| wi_skip <| wi_seq <| wi_reg rfl <| ?_
      have hlen : (xs.length : Int) = n := by omega
      have hz : runE n ls xs = 0 := by unfold runE; rw [if_neg (fun h => h hc0), if_neg (fun h => h hlen)]
      obtain ⟨m, rfl⟩ : ∃ m : Nat, n = ((m : Nat) : Int) := ⟨n.toNat, by omega⟩
      refine lx_move (vv) rfl rfl <| lx_call [vv] rfl rfl Try.call47 rfl (clone_spec h1 vv xs (hr_vv.extS hx1) (by omega)) (fun _ _ _ => trivial) ?_
      rintro v1 h2 ⟨_, rfl, ho1, hx2⟩
      have hx0_1 := hx1.trans2 hx2 hx1.size
      have ho2 := ho1.base hx1.size
      refine lx_assign (v1) rfl rfl <| lx_nil <| wi_seq <| wi_seq <| wi_reg rfl <| lx_move (vl) rfl rfl <| lx_len rfl Try.underlying38 hr_vl rfl <| lx_move (.int .i64 0) rfl rfl <| lx_nil <| wi_block <| ?_
      refine wi_loop (σ := Nat × (List Int)) (rngB 26 37 [11]) (fun (ss : Nat × (List Int)) => [(26, .int .i64 ((ss.1 : Nat) : Int))]) (fun (ss : Nat × (List Int)) (hh : Heap) => OwE encI hh h.size 2 v1 ss.2 ∧ Ext h.size h hh ∧ (ss.1 ≤ ls.length) ∧ (ss.2 = runV (ls.take ss.1) xs)) (fun (ss : Nat × (List Int)) => ls.length - ss.1) (0, xs) ⟨rfl, trivial⟩ ⟨?_, hx0_1, ?_, ?_⟩ ?_
      · first | exact ho2 | (simpa using ho2)
      · try dsimp only
        omega
      · try dsimp only
        simp [runV]
      rintro g1 ⟨k, ys⟩ hh1 ⟨ho3, hx0_2, hk, hys⟩ IH1
      dsimp only at *
      have hyl : ys.length = m := by rw [hys, runV_length]; omega
      refine wi_seq <| wi_reg rfl <| lx_lssS rfl rfl rfl (fun c3 => ?_) (fun c3 => ?_)
      · refine lx_nil <| wi_seq <| wi_true rfl <| wi_skip <| wi_seq <| wi_block <| wi_seq <| wi_reg rfl <| ?_
        obtain ⟨ha1, hb1, hab, hbm⟩ := validC_nat (hlv k (by omega))
        obtain ⟨a, b, hgc, ha, hb⟩ : ∃ a b : Nat, gt ls k = ((a : Int), (b : Int)) ∧ a < b ∧ b < m := ⟨_, _, Prod.ext ha1 hb1, hab, hbm⟩
        refine lx_ix (i := k) rfl eT38 hr_vl rfl rfl (by first | omega | (simp only [List.length_set, List.length_append, List.length_cons, List.length_nil, List.length_replicate, List.length_take, swp_length, exch_length]; omega)) <| lx_ldA (i := k) [.int .i64 ((a : Nat) : Int), .int .i64 ((b : Nat) : Int)] rfl rfl wd60 (hr_vl.extS hx0_2) (by first | omega | (simp only [List.length_set, List.length_append, List.length_cons, List.length_nil, List.length_replicate, List.length_take, swp_length, exch_length]; omega)) (by rw [hgc]; rfl) rfl <| lx_alloc rfl rfl Try.zeroValue60 (fun _ _ _ => trivial) fun bn1 h3 hbn1 hbk1 hx3 hsz1 => ?_
        have hbb1 : h.size ≤ bn1 := by have := hx0_2.size; omega
        have hdj1 : Value.ownBlock v1 ≠ some bn1 := by intro e; have := (ho3.lt e).2; omega
        have hx0_3 := hx0_2.trans2 hx3 hx0_2.size
        have ho4 := ho3.extS hx3
        have hbk1 : Blk h3 bn1 #[.int .i64 0, .int .i64 0] 60 := hbk1
        refine lx_stBA (#[.int .i64 ((a : Nat) : Int), .int .i64 ((b : Nat) : Int)]) rfl rfl Try.sizeOf60 hbk1 rfl rfl rfl rfl (by simp [Value.oneCell']) (fun _ _ _ _ => trivial) fun h4 hbk2 hc1 => ?_
        have hx0_4 := hx0_3.trans (hc1.ext hbb1)
        have ho5 := hc1.owE ho4 hdj1
        refine lx_nil <| wi_reg rfl <| lx_move (v1) rfl rfl <| lx_ixB (i := 0) (0) rfl Try.underlying60 Try.sizeOf3 rfl rfl (by omega) rfl <| lx_ldB (.int .i64 ((a : Nat) : Int)) rfl rfl fl3 hbk2 rfl rfl <| lx_ixB (i := 1) (1) rfl Try.underlying60 Try.sizeOf3 rfl rfl (by omega) rfl <| lx_ldB (.int .i64 ((b : Nat) : Int)) rfl rfl fl3 hbk2 rfl rfl <| lx_call [v1, .int .i64 ((a : Nat) : Int), .int .i64 ((b : Nat) : Int)] rfl rfl Try.call51 rfl (exchange_spec h4 h.size v1 ys a b ho5 hx0_4.size (by omega) (by omega) (by omega)) (fun _ _ _ => trivial) ?_
        rintro _ h5 ⟨rfl, ho6, hx4⟩
        have hx0_5 := hx0_4.trans (ho5.ext hx4 hx0_4.size)
        have hb1 := hbk2.chg hx4 hdj1
        refine lx_nil <| wi_inBlock <| wi_reg rfl <| lx_add (((k + 1 : Nat) : Int)) rfl rfl rfl (by omega) (by omega) (by omega) <| lx_move (.int .i64 ((k + 1 : Nat) : Int)) rfl rfl <| lx_nil <| ?_
        -- L0.1
        refine IH1 _ _ (k + 1, exch ys a b) (agree_ups rfl agree_self) ⟨rfl, trivial⟩ ⟨?_, hx0_5, ?_, ?_⟩ ?_
        · first | exact ho6 | (simpa using ho6)
        · try dsimp only
          omega
        · try dsimp only
          exact runV_step (by omega) hys hgc
        · first | omega | (dsimp only; omega)
      · refine lx_nil <| wi_seq <| wi_false rfl <| wi_exit rfl <| wi_seq <| wi_reg rfl <| lx_move (v1) rfl rfl <| lx_assign (v1) rfl rfl <| lx_assign (.int .i64 0) rfl rfl <| lx_nil <| ?_
        -- R3
        refine wi_ret ⟨.tuple #[v1, .int .i64 0], (res_two rfl rfl rfl), ⟨v1, ys, ?_, ho3, ?_, hx0_2⟩⟩
        · rw [hz]
        · exact .inr ⟨hz, runV_all (by omega) hys⟩

set_option maxRecDepth 10000 in
theorem sortStraight_spec (h : Heap) (n : Int) (vl : Value) (ls : List (Int × Int)) (vv : Value) (xs : List Int) (hr_vl : RdE encP h vl ls) (hr_vv : RdE encI h vv xs) (hp1 : -9223372036854775808 ≤ n) (hp2 : n ≤ 9223372036854775807) (hp3 : ls.length ≤ 9223372036854775807) (hp4 : xs.length ≤ 9223372036854775807) : Fx Try.prog 7 [.int .i64 n, vl, vv] h (fun v h' => v = .bool true ∧ Ext h.size h h') := by
  refine fx_intro (n := 135) [(0, .int .i64 n), (1, vl), (2, vv)] Try.func7 rfl rfl (by simp) ⟨rfl, rfl, rfl, trivial⟩ fun g0 => ?_
  refine wi_seq <| wi_reg rfl <| lx_assign (.bool false) rfl rfl <| lx_nil <| wi_seq <| wi_reg rfl <| lx_move (.int .i64 n) rfl rfl <| lx_call [.int .i64 n] rfl rfl Try.call23 rfl (wires_spec h n ) (fun _ _ _ => trivial) ?_
  rintro _ h1 ⟨rfl, rfl⟩
  refine lx_assign (.int .i64 ((1 + ur n % 10 : Nat) : Int)) rfl rfl <| lx_nil <| wi_seq <| wi_reg rfl <| ?_
  generalize hm : 1 + ur n % 10 = m
  have hm1 : 1 ≤ m ∧ m ≤ 10 := by omega
  refine lx_move (.int .i64 ((m : Nat) : Int)) rfl rfl <| lx_move (vl) rfl rfl <| lx_call [.int .i64 ((m : Nat) : Int), vl, .int .i64 40, .bool true] rfl rfl Try.call24 rfl (tame_spec h m vl ls 40 true hr_vl (by omega) (by omega) (by omega)) (fun _ _ _ => trivial) ?_
  rintro vown h2 ⟨_, rfl, ho1, hx1⟩
  have ho2 := ho1.base (Nat.le_refl h.size)
  refine lx_assign (vown) rfl rfl <| lx_nil <| wi_seq <| wi_reg rfl <| ?_
  have htl := tameF_length (n := m) (most := 40) (loose := true) (ls := ls)
  have hv := tameF_validL (n := m) (most := 40) (ls := ls) true (by omega) (by omega) (by omega)
  have hok : ∀ i, i < (tameF m 40 true ls).length → ∃ a b : Nat, gt (tameF m 40 true ls) i = ((a : Int), (b : Int)) ∧ a < m ∧ b < m ∧ a ≠ b := fun i hi => by obtain ⟨a, b, h1, h2, h3, h4, _⟩ := tameF_ok hi; exact ⟨a, b, h1, h2, h3, h4⟩
  refine lx_move (.int .i64 ((m : Nat) : Int)) rfl rfl <| lx_move (vown) rfl rfl <| lx_call [.int .i64 ((m : Nat) : Int), vown] rfl rfl Try.call25 rfl (straight_spec h2 (((m : Nat) : Int)) vown (tameF m 40 true ls) ho2.rd (by omega)) (fun _ _ _ => trivial) ?_
  rintro _ h3 ⟨vs, vw, ms, ws, rfl, ho3, ho4, hst_1, hx2⟩
  have hx0_1 := hx1.trans2 hx2 hx1.size
  have ho5 := ho2.extS hx2
  have ho6 := ho3.base hx1.size
  have ho7 := ho4.base hx1.size
  refine lx_move (.tuple #[vs, vw, .int .i64 (chkNet validL (((m : Nat) : Int)) (tameF m 40 true ls))]) rfl rfl <| lx_extract (vs) rfl rfl rfl <| lx_extract (vw) rfl rfl rfl <| lx_extract (.int .i64 (chkNet validL (((m : Nat) : Int)) (tameF m 40 true ls))) rfl rfl rfl <| lx_assign (vs) rfl rfl <| lx_assign (vw) rfl rfl <| lx_assign (.int .i64 (chkNet validL (((m : Nat) : Int)) (tameF m 40 true ls))) rfl rfl <| lx_nil <| wi_seq <| wi_reg rfl <| ?_
  obtain ⟨hms, hws⟩ := good_ hst_1 hv
  rw [Int.toNat_natCast] at hms hws
  have hl1 : ms.length = (tameF m 40 true ls).length := by rw [hms]; exact stO_length _ _ _
  have hl2 : ws.length = m := by rw [hws]; exact stA_length _ _ _
  refine lx_move (.int .i64 ((m : Nat) : Int)) rfl rfl <| lx_move (vv) rfl rfl <| lx_call [.int .i64 ((m : Nat) : Int), vv] rfl rfl Try.call33 rfl (values_spec h3 m vv xs (hr_vv.extS hx0_1) (by omega) (by omega)) (fun _ _ _ => trivial) ?_
  rintro vin h4 ⟨_, rfl, ho8, hx3⟩
  have hx0_2 := hx0_1.trans2 hx3 hx0_1.size
  have ho9 := ho5.extS hx3
  have ho10 := ho6.extS hx3
  have ho11 := ho7.extS hx3
  have ho12 := ho8.base hx0_1.size
  refine lx_assign (vin) rfl rfl <| lx_nil <| wi_seq <| wi_reg rfl <| ?_
  have hl3 := valuesF_length m xs
  refine lx_move (.int .i64 ((m : Nat) : Int)) rfl rfl <| lx_move (vs) rfl rfl <| lx_move (vin) rfl rfl <| lx_call [.int .i64 ((m : Nat) : Int), vs, vin] rfl rfl Try.call34 rfl (run_spec2 h4 (((m : Nat) : Int)) vs ms vin (valuesF m xs) ho10.rd ho12.rd (by omega) (by omega)) (fun _ _ _ => trivial) ?_
  rintro _ h5 ⟨vx, ys, rfl, ho13, hrv_1, hx4⟩
  have hx0_3 := hx0_2.trans2 hx4 hx0_2.size
  have ho14 := ho9.extS hx4
  have ho15 := ho10.extS hx4
  have ho16 := ho11.extS hx4
  have ho17 := ho12.extS hx4
  have ho18 := ho13.base hx0_2.size
  refine lx_move (.tuple #[vx, .int .i64 (runE (((m : Nat) : Int)) ms (valuesF m xs))]) rfl rfl <| lx_extract (vx) rfl rfl rfl <| lx_extract (.int .i64 (runE (((m : Nat) : Int)) ms (valuesF m xs))) rfl rfl rfl <| lx_assign (vx) rfl rfl <| lx_assign (.int .i64 (runE (((m : Nat) : Int)) ms (valuesF m xs))) rfl rfl <| lx_nil <| wi_seq <| wi_seq <| wi_reg rfl <| ?_
  have hre : runE ((m : Nat) : Int) ms (valuesF m xs) = 0 := runE_zero (by rw [hms]; exact stO_chk (by omega) (by omega) (by omega) hok) hl3
  have hys := good_ hrv_1 hre
  have hyl : ys.length = m := by rw [hys, runV_length]; exact hl3
  refine lx_move (.int .i64 (chkNet validL (((m : Nat) : Int)) (tameF m 40 true ls))) rfl rfl <| lx_neqF rfl rfl rfl (fun h => h hv) <| lx_move (.bool false) rfl rfl <| lx_move (.int .i64 (runE (((m : Nat) : Int)) ms (valuesF m xs))) rfl rfl <| lx_neqF rfl rfl rfl (fun h => h hre) <| lx_pick false (.bool false) rfl rfl rfl <| lx_move (.bool false) rfl rfl <| lx_move (vs) rfl rfl <| lx_len rfl Try.underlying38 ho15.rd rfl <| lx_move (vown) rfl rfl <| lx_len rfl Try.underlying38 ho14.rd rfl <| lx_neqF rfl rfl rfl (by omega) <| lx_pick false (.bool false) rfl rfl rfl <| lx_move (.bool false) rfl rfl <| lx_move (vw) rfl rfl <| lx_len rfl Try.underlying35 ho16.rd rfl <| lx_move (.int .i64 ((m : Nat) : Int)) rfl rfl <| lx_neqF rfl rfl rfl (by omega) <| lx_pick false (.bool false) rfl rfl rfl <| lx_nil <| wi_false rfl <| wi_skip <| wi_seq <| wi_reg rfl <| lx_move (.int .i64 ((m : Nat) : Int)) rfl rfl <| lx_move (vv) rfl rfl <| lx_call [.int .i64 ((m : Nat) : Int), vv] rfl rfl Try.call33 rfl (values_spec h5 m vv xs (hr_vv.extS hx0_3) (by omega) (by omega)) (fun _ _ _ => trivial) ?_
  rintro vnow h6 ⟨_, rfl, ho19, hx5⟩
  have hx0_4 := hx0_3.trans2 hx5 hx0_3.size
  have ho20 := ho14.extS hx5
  have ho21 := ho15.extS hx5
  have ho22 := ho16.extS hx5
  have ho23 := ho17.extS hx5
  have ho24 := ho18.extS hx5
  have ho25 := ho19.base hx0_3.size
  refine lx_assign (vnow) rfl rfl <| lx_nil <| wi_seq <| wi_seq <| wi_reg rfl <| lx_assign (.int .i64 0) rfl rfl <| lx_nil <| wi_block <| ?_
  refine wi_loop (σ := Nat × (List Int)) (rngB 63 102 [15, 16, 17]) (fun (ss : Nat × (List Int)) => [(15, .int .i64 ((ss.1 : Nat) : Int))]) (fun (ss : Nat × (List Int)) (hh : Heap) => OwE encP hh h.size 60 vown (tameF m 40 true ls) ∧ OwE encI hh h.size 3 vw ws ∧ OwE encI hh h.size 2 vx ys ∧ OwE encI hh h.size 2 vnow ss.2 ∧ Ext h.size h hh ∧ (ss.1 ≤ (tameF m 40 true ls).length) ∧ (ss.2 = runV ((tameF m 40 true ls).take ss.1) (valuesF m xs))) (fun (ss : Nat × (List Int)) => (tameF m 40 true ls).length - ss.1) (0, valuesF m xs) ⟨rfl, trivial⟩ ⟨?_, ?_, ?_, ?_, hx0_4, ?_, ?_⟩ ?_
  · first | exact ho20 | (simpa using ho20)
  · first | exact ho22 | (simpa using ho22)
  · first | exact ho24 | (simpa using ho24)
  · first | exact ho25 | (simpa using ho25)
  · try dsimp only
    omega
  · try dsimp only
    simp [runV]
  rintro g1 ⟨i, now⟩ hh1 ⟨ho26, ho27, ho28, ho29, hx0_5, hi, hnow⟩ IH1
  dsimp only at *
  have hnl : now.length = m := by rw [hnow, runV_length]; exact hl3
  refine wi_seq <| wi_seq <| wi_reg rfl <| lx_move (.int .i64 ((i : Nat) : Int)) rfl rfl <| lx_move (vown) rfl rfl <| lx_len rfl Try.underlying38 ho26.rd rfl <| lx_lssS rfl rfl rfl (fun c1 => ?_) (fun c1 => ?_)
  · refine lx_nil <| wi_true rfl <| wi_skip <| wi_seq <| wi_block <| wi_seq <| wi_draw mo rfl (by decide +kernel) <| ?_
    obtain ⟨a, b, hgc, ha, hb, hab⟩ := hok i (by omega)
    refine lx_move (vown) rfl rfl <| lx_move (.int .i64 ((i : Nat) : Int)) rfl rfl <| lx_ix (i := i) rfl eT38 ho26.rd rfl rfl (by first | omega | (simp only [List.length_set, List.length_append, List.length_cons, List.length_nil, List.length_replicate, List.length_take, swp_length, exch_length]; omega)) <| lx_ixP (i := i) (c := 0) rfl Try.underlying60 Try.sizeOf3 ho26.rd (by first | omega | (simp only [List.length_set, List.length_append, List.length_cons, List.length_nil, List.length_replicate, List.length_take, swp_length, exch_length]; omega)) rfl rfl (by decide) <| lx_ld (i := i) (j := 0) (.int .i64 ((a : Nat) : Int)) rfl rfl fl3 ho26.rd (by first | omega | (simp only [List.length_set, List.length_append, List.length_cons, List.length_nil, List.length_replicate, List.length_take, swp_length, exch_length]; omega)) (by rw [hgc]; rfl) rfl <| lx_move (vown) rfl rfl <| lx_move (.int .i64 ((i : Nat) : Int)) rfl rfl <| lx_ix (i := i) rfl eT38 ho26.rd rfl rfl (by first | omega | (simp only [List.length_set, List.length_append, List.length_cons, List.length_nil, List.length_replicate, List.length_take, swp_length, exch_length]; omega)) <| lx_ixP (i := i) (c := 1) rfl Try.underlying60 Try.sizeOf3 ho26.rd (by first | omega | (simp only [List.length_set, List.length_append, List.length_cons, List.length_nil, List.length_replicate, List.length_take, swp_length, exch_length]; omega)) rfl rfl (by decide) <| lx_ld (i := i) (j := 1) (.int .i64 ((b : Nat) : Int)) rfl rfl fl3 ho26.rd (by first | omega | (simp only [List.length_set, List.length_append, List.length_cons, List.length_nil, List.length_replicate, List.length_take, swp_length, exch_length]; omega)) (by rw [hgc]; rfl) rfl <| lx_assign (.int .i64 ((a : Nat) : Int)) rfl rfl <| lx_assign (.int .i64 ((b : Nat) : Int)) rfl rfl <| lx_nil <| wi_seq <| wi_draw mo rfl (by decide +kernel) <| lx_move (vnow) rfl rfl <| lx_move (.int .i64 ((a : Nat) : Int)) rfl rfl <| lx_ix (i := a) rfl eT29 ho29.rd rfl rfl (by first | omega | (simp only [List.length_set, List.length_append, List.length_cons, List.length_nil, List.length_replicate, List.length_take, swp_length, exch_length]; omega)) <| lx_ld (i := a) (j := 0) (.int .i64 (gt now a)) rfl rfl fl2 ho29.rd (by first | omega | (simp only [List.length_set, List.length_append, List.length_cons, List.length_nil, List.length_replicate, List.length_take, swp_length, exch_length]; omega)) rfl rfl <| lx_move (vnow) rfl rfl <| lx_move (.int .i64 ((b : Nat) : Int)) rfl rfl <| lx_ix (i := b) rfl eT29 ho29.rd rfl rfl (by first | omega | (simp only [List.length_set, List.length_append, List.length_cons, List.length_nil, List.length_replicate, List.length_take, swp_length, exch_length]; omega)) <| lx_ld (i := b) (j := 0) (.int .i64 (gt now b)) rfl rfl fl2 ho29.rd (by first | omega | (simp only [List.length_set, List.length_append, List.length_cons, List.length_nil, List.length_replicate, List.length_take, swp_length, exch_length]; omega)) rfl rfl <| lx_gtrS rfl rfl rfl (fun c2 => ?_) (fun c2 => ?_)
    · refine lx_nil <| wi_true rfl <| wi_draw mo rfl (by decide +kernel) <| lx_move (vnow) rfl rfl <| lx_move (.int .i64 ((a : Nat) : Int)) rfl rfl <| lx_move (vnow) rfl rfl <| lx_move (.int .i64 ((b : Nat) : Int)) rfl rfl <| lx_move (vnow) rfl rfl <| lx_move (.int .i64 ((b : Nat) : Int)) rfl rfl <| lx_ix (i := b) rfl eT29 ho29.rd rfl rfl (by first | omega | (simp only [List.length_set, List.length_append, List.length_cons, List.length_nil, List.length_replicate, List.length_take, swp_length, exch_length]; omega)) <| lx_ld (i := b) (j := 0) (.int .i64 (gt now b)) rfl rfl fl2 ho29.rd (by first | omega | (simp only [List.length_set, List.length_append, List.length_cons, List.length_nil, List.length_replicate, List.length_take, swp_length, exch_length]; omega)) rfl rfl <| lx_move (vnow) rfl rfl <| lx_move (.int .i64 ((a : Nat) : Int)) rfl rfl <| lx_ix (i := a) rfl eT29 ho29.rd rfl rfl (by first | omega | (simp only [List.length_set, List.length_append, List.length_cons, List.length_nil, List.length_replicate, List.length_take, swp_length, exch_length]; omega)) <| lx_ld (i := a) (j := 0) (.int .i64 (gt now a)) rfl rfl fl2 ho29.rd (by first | omega | (simp only [List.length_set, List.length_append, List.length_cons, List.length_nil, List.length_replicate, List.length_take, swp_length, exch_length]; omega)) rfl rfl <| lx_ix (i := a) rfl eT29 ho29.rd rfl rfl (by first | omega | (simp only [List.length_set, List.length_append, List.length_cons, List.length_nil, List.length_replicate, List.length_take, swp_length, exch_length]; omega)) <| lx_st (i := a) (gt now b) rfl rfl Try.sizeOf2 ho29 (by first | omega | (simp only [List.length_set, List.length_append, List.length_cons, List.length_nil, List.length_replicate, List.length_take, swp_length, exch_length]; omega)) rfl rfl (fun _ _ _ _ _ => trivial) fun h7 ho30 hc1 hsz1 => ?_
      have hx0_6 := hx0_5.trans (ho29.ext hc1 hx0_5.size)
      have ho31 := ho26.chg hc1 (dj_new ho14 ho19)
      have ho32 := ho27.chg hc1 (dj_new ho16 ho19)
      have ho33 := ho28.chg hc1 (dj_new ho18 ho19)
      refine lx_ix (i := b) rfl eT29 ho30.rd rfl rfl (by first | omega | (simp only [List.length_set, List.length_append, List.length_cons, List.length_nil, List.length_replicate, List.length_take, swp_length, exch_length]; omega)) <| lx_st (i := b) (gt now a) rfl rfl Try.sizeOf2 ho30 (by first | omega | (simp only [List.length_set, List.length_append, List.length_cons, List.length_nil, List.length_replicate, List.length_take, swp_length, exch_length]; omega)) rfl rfl (fun _ _ _ _ _ => trivial) fun h8 ho34 hc2 hsz2 => ?_
      have hx0_7 := hx0_6.trans (ho30.ext hc2 hx0_6.size)
      have ho35 := ho31.chg hc2 (dj_new ho14 ho19)
      have ho36 := ho32.chg hc2 (dj_new ho16 ho19)
      have ho37 := ho33.chg hc2 (dj_new ho18 ho19)
      refine lx_nil <| wi_inBlock <| wi_reg rfl <| lx_move (.int .i64 ((i : Nat) : Int)) rfl rfl <| lx_add (((i + 1 : Nat) : Int)) rfl rfl rfl (by omega) (by omega) (by omega) <| lx_assign (.int .i64 ((i + 1 : Nat) : Int)) rfl rfl <| lx_nil <| ?_
      -- L0.1
      refine IH1 _ _ (i + 1, (now.set a (gt now b)).set b (gt now a)) (agree_ups rfl agree_self) ⟨rfl, trivial⟩ ⟨?_, ?_, ?_, ?_, hx0_7, ?_, ?_⟩ ?_
      · first | exact ho35 | (simpa using ho35)
      · first | exact ho36 | (simpa using ho36)
      · first | exact ho37 | (simpa using ho37)
      · first | exact ho34 | (simpa using ho34)
      · try dsimp only
        omega
      · try dsimp only
        exact runV_yes (by omega) hnow hgc (by omega)
      · first | omega | (dsimp only; omega)
    · refine lx_nil <| wi_false rfl <| wi_skip <| wi_inBlock <| wi_reg rfl <| lx_move (.int .i64 ((i : Nat) : Int)) rfl rfl <| lx_add (((i + 1 : Nat) : Int)) rfl rfl rfl (by omega) (by omega) (by omega) <| lx_assign (.int .i64 ((i + 1 : Nat) : Int)) rfl rfl <| lx_nil <| ?_
      -- L0.2
      refine IH1 _ _ (i + 1, now) (agree_ups rfl agree_self) ⟨rfl, trivial⟩ ⟨?_, ?_, ?_, ?_, hx0_5, ?_, ?_⟩ ?_
      · first | exact ho26 | (simpa using ho26)
      · first | exact ho27 | (simpa using ho27)
      · first | exact ho28 | (simpa using ho28)
      · first | exact ho29 | (simpa using ho29)
      · try dsimp only
        omega
      · try dsimp only
        exact runV_no (by omega) hnow hgc (by omega)
      · first | omega | (dsimp only; omega)
  · refine lx_nil <| wi_false rfl <| wi_exit rfl <| wi_seq <| wi_seq <| wi_reg rfl <| ?_
    have hnf := runV_all (by omega) hnow
    have hinv := stInv (x := valuesF m xs) hl3 hok _ (Nat.le_refl _)
    rw [List.take_length, ← hms, ← hws, ← hys, ← hnf] at hinv
    refine lx_assign (.int .i64 0) rfl rfl <| lx_nil <| wi_block <| ?_
    refine wi_loop (σ := Nat) (rngB 102 134 [6, 18]) (fun (j : Nat) => [(18, .int .i64 ((j : Nat) : Int))]) (fun (j : Nat) (hh : Heap) => hh1 = hh ∧ (j ≤ m)) (fun (j : Nat) => m - j) 0 ⟨rfl, trivial⟩ ⟨rfl, ?_⟩ ?_
    · try dsimp only
      omega
    rintro g2 j hh2 ⟨rfl, hj⟩ IH2
    refine wi_seq <| wi_seq <| wi_reg rfl <| lx_move (.int .i64 ((j : Nat) : Int)) rfl rfl <| lx_move (.int .i64 ((m : Nat) : Int)) rfl rfl <| lx_lssS rfl rfl rfl (fun c3 => ?_) (fun c3 => ?_)
    · refine lx_nil <| wi_true rfl <| wi_skip <| wi_seq <| wi_block <| wi_seq <| wi_draw mo rfl (by decide +kernel) <| ?_
      have hr1 := hinv.rng j (by omega)
      have hr2 := hinv.val j (by omega)
      obtain ⟨u, hu⟩ : ∃ u : Nat, gt ws j = (u : Int) := ⟨(gt ws j).toNat, by omega⟩
      rw [hu, Int.toNat_natCast] at hr2
      have hum : u < m := by omega
      refine lx_move (vw) rfl rfl <| lx_move (.int .i64 ((j : Nat) : Int)) rfl rfl <| lx_ix (i := j) rfl eT35 ho27.rd rfl rfl (by first | omega | (simp only [List.length_set, List.length_append, List.length_cons, List.length_nil, List.length_replicate, List.length_take, swp_length, exch_length]; omega)) <| lx_ld (i := j) (j := 0) (.int .i64 (gt ws j)) rfl rfl fl3 ho27.rd (by first | omega | (simp only [List.length_set, List.length_append, List.length_cons, List.length_nil, List.length_replicate, List.length_take, swp_length, exch_length]; omega)) rfl rfl <| lx_lssF rfl rfl rfl (by omega) <| lx_move (.bool false) rfl rfl <| lx_move (vw) rfl rfl <| lx_move (.int .i64 ((j : Nat) : Int)) rfl rfl <| lx_ix (i := j) rfl eT35 ho27.rd rfl rfl (by first | omega | (simp only [List.length_set, List.length_append, List.length_cons, List.length_nil, List.length_replicate, List.length_take, swp_length, exch_length]; omega)) <| lx_ld (i := j) (j := 0) (.int .i64 (gt ws j)) rfl rfl fl3 ho27.rd (by first | omega | (simp only [List.length_set, List.length_append, List.length_cons, List.length_nil, List.length_replicate, List.length_take, swp_length, exch_length]; omega)) rfl rfl <| lx_move (.int .i64 ((m : Nat) : Int)) rfl rfl <| lx_geqF rfl rfl rfl (by omega) <| lx_pick false (.bool false) rfl rfl rfl <| lx_move (.bool false) rfl rfl <| lx_move (vx) rfl rfl <| lx_move (vw) rfl rfl <| lx_move (.int .i64 ((j : Nat) : Int)) rfl rfl <| lx_ix (i := j) rfl eT35 ho27.rd rfl rfl (by first | omega | (simp only [List.length_set, List.length_append, List.length_cons, List.length_nil, List.length_replicate, List.length_take, swp_length, exch_length]; omega)) <| lx_ld (i := j) (j := 0) (.int .i64 ((u : Nat) : Int)) rfl rfl fl3 ho27.rd (by first | omega | (simp only [List.length_set, List.length_append, List.length_cons, List.length_nil, List.length_replicate, List.length_take, swp_length, exch_length]; omega)) (by show some (Value.int .i64 (gt ws j)) = _; rw [hu]) rfl <| lx_ix (i := u) rfl eT29 ho28.rd rfl rfl (by first | omega | (simp only [List.length_set, List.length_append, List.length_cons, List.length_nil, List.length_replicate, List.length_take, swp_length, exch_length]; omega)) <| lx_ld (i := u) (j := 0) (.int .i64 (gt ys u)) rfl rfl fl2 ho28.rd (by first | omega | (simp only [List.length_set, List.length_append, List.length_cons, List.length_nil, List.length_replicate, List.length_take, swp_length, exch_length]; omega)) rfl rfl <| lx_move (vnow) rfl rfl <| lx_move (.int .i64 ((j : Nat) : Int)) rfl rfl <| lx_ix (i := j) rfl eT29 ho29.rd rfl rfl (by first | omega | (simp only [List.length_set, List.length_append, List.length_cons, List.length_nil, List.length_replicate, List.length_take, swp_length, exch_length]; omega)) <| lx_ld (i := j) (j := 0) (.int .i64 (gt now j)) rfl rfl fl2 ho29.rd (by first | omega | (simp only [List.length_set, List.length_append, List.length_cons, List.length_nil, List.length_replicate, List.length_take, swp_length, exch_length]; omega)) rfl rfl <| lx_neqF rfl rfl rfl (fun h => h hr2) <| lx_pick false (.bool false) rfl rfl rfl <| lx_nil <| wi_false rfl <| wi_skip <| wi_inBlock <| wi_reg rfl <| lx_move (.int .i64 ((j : Nat) : Int)) rfl rfl <| lx_add (((j + 1 : Nat) : Int)) rfl rfl rfl (by omega) (by omega) (by omega) <| lx_assign (.int .i64 ((j + 1 : Nat) : Int)) rfl rfl <| lx_nil <| ?_
      -- L2.1
      refine IH2 _ _ (j + 1) (agree_ups rfl agree_self) ⟨rfl, trivial⟩ ⟨rfl, ?_⟩ ?_
      · try dsimp only
        omega
      · first | omega | (dsimp only; omega)
    · refine lx_nil <| wi_false rfl <| wi_exit rfl <| wi_seq <| wi_reg rfl <| lx_call [] rfl rfl Try.call15 rfl (awake_spec hh1 ) (fun _ _ _ => trivial) ?_
      rintro _ h9 ⟨rfl, hx6⟩
      have hx0_8 := hx0_5.trans2 hx6 hx0_5.size
      have ho38 := ho26.extS hx6
      have ho39 := ho27.extS hx6
      have ho40 := ho28.extS hx6
      have ho41 := ho29.extS hx6
      refine lx_assign (.bool true) rfl rfl <| lx_nil <| ?_
      -- R1
      refine wi_ret ⟨.bool true, (res_one rfl rfl), ⟨rfl, hx0_8⟩⟩

end Go.Proofs.Ytjfickfgpkejpaa
