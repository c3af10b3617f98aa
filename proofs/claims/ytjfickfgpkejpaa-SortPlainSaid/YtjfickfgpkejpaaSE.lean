/-
  Walks: rows.
-/
import Derived.Test.YtjfickfgpkejpaaSD
import Derived.Test.YtjfickfgpkejpaaXRows
import Derived.Test.YtjfickfgpkejpaaXGale
set_option linter.unusedSimpArgs false
set_option linter.unusedVariables false
namespace Go.Proofs.Ytjfickfgpkejpaa
open Go Go.X

theorem chk_single {xs : List Int} {x : Int} (hl : xs.length ≤ 200) (hx : 1 ≤ x) : chkRow xs [x] = 0 := by
  unfold chkRow
  rw [if_neg (by simp; omega), if_neg (by simp; omega)]

set_option maxRecDepth 10000 in
theorem sorted_spec (h : Heap) (vr : Value) (xs : List Int) (hh : Int) (hr_vr : RdE encI h vr xs) (hp1 : xs.length ≤ 1000000) (hp2 : hh ≤ 9223372036854775807) : Fx Try.prog 17 [vr, .int .i64 hh] h (fun v h' => ∃ (p : Nat) (ok : Bool), v = .tuple #[.int .i64 ((p : Nat) : Int), .bool ok, .int .i64 (chkRow xs [hh])] ∧ ((chkRow xs [hh] ≠ 0 ∧ p = 0 ∧ ok = false) ∨ (chkRow xs [hh] = 0 ∧ sortedR hh.toNat xs p ok)) ∧ (p ≤ 1000000) ∧ Ext h.size h h') := by
  refine fx_intro (n := 40) [(0, vr), (1, .int .i64 hh)] Try.func17 rfl rfl (by simp) ⟨rfl, rfl, trivial⟩ fun g0 => ?_
  refine wi_seq <| wi_reg rfl <| lx_assign (.int .i64 0) rfl rfl <| lx_assign (.bool false) rfl rfl <| lx_assign (.int .i64 0) rfl rfl <| lx_nil <| wi_seq <| wi_seq <| wi_reg rfl <| lx_move (vr) rfl rfl <| lx_move (.int .i64 hh) rfl rfl <| lx_buildSlice (E := encI) h.size [hh] [.int .i64 hh] rfl rfl eT35 rfl rfl rfl rfl (Nat.le_refl _) (fun _ _ _ => trivial) fun v1 h1 ho1 hx1 hvb1 hsz1 => ?_
  have ho2 := ho1.base (Nat.le_refl h.size)
  refine lx_call [vr, v1] rfl rfl Try.call46 rfl (checkRow_spec h1 vr xs v1 ([hh]) (hr_vr.extS hx1) ho2.rd (by omega) (by simp)) (fun _ _ _ => trivial) ?_
  rintro _ h2 ⟨rfl, rfl⟩
  refine lx_assign (.int .i64 (chkRow xs ([hh]))) rfl rfl <| lx_nil <| wi_seq <| wi_reg rfl <| lx_move (.int .i64 (chkRow xs ([hh]))) rfl rfl <| lx_neqS rfl rfl rfl (fun c1 => ?_) (fun c1 => ?_)
  · refine lx_nil <| wi_true rfl <| wi_seq <| wi_reg rfl <| lx_move (.int .i64 (chkRow xs ([hh]))) rfl rfl <| lx_assign (.int .i64 0) rfl rfl <| lx_assign (.bool false) rfl rfl <| lx_assign (.int .i64 (chkRow xs ([hh]))) rfl rfl <| lx_nil <| ?_
    -- R1
    refine wi_ret ⟨.tuple #[.int .i64 0, .bool false, .int .i64 (chkRow xs ([hh]))], (res_three rfl rfl rfl rfl), ⟨0, false, ?_, ?_, ?_, hx1⟩⟩
    · first | rfl | (simp; done) | (simp; omega)
    · exact .inl ⟨by omega, rfl, rfl⟩
    · omega
  · refine lx_nil <| wi_false rfl <| wi_skip <| wi_seq <| wi_seq <| wi_reg rfl <| ?_
    have hc0 : chkRow xs [hh] = 0 := by omega
    have hg1 : 1 ≤ hh := chk_gap hc0 (i := 0) (by simp)
    obtain ⟨hcl, _⟩ := chk_len hc0
    obtain ⟨m, rfl⟩ : ∃ m : Nat, hh = ((m : Nat) : Int) := ⟨hh.toNat, by omega⟩
    refine lx_move (vr) rfl rfl <| lx_len rfl Try.underlying29 hr_vr rfl <| lx_move (.int .i64 ((m : Nat) : Int)) rfl rfl <| lx_move (vr) rfl rfl <| lx_len rfl Try.underlying29 hr_vr rfl <| lx_min (((min m xs.length : Nat) : Int)) rfl rfl rfl (by omega) <| lx_sub (((xs.length - m : Nat) : Int)) rfl rfl rfl (by omega) (by omega) (by omega) <| lx_max (((xs.length - m : Nat) : Int)) rfl rfl rfl (by omega) <| lx_move (.int .i64 0) rfl rfl <| lx_nil <| wi_block <| ?_
    refine wi_loop (σ := Nat) (rngB 24 40 [4, 5, 6, 8]) (fun (i : Nat) => [(24, .int .i64 ((i : Nat) : Int))]) (fun (i : Nat) (hh : Heap) => Ext h.size h hh ∧ (i ≤ xs.length - m) ∧ (∀ j, j < i → gt xs j ≤ gt xs (j + m))) (fun (i : Nat) => xs.length - i) 0 ⟨rfl, trivial⟩ ⟨hx1, ?_, ?_⟩ ?_
    · try dsimp only
      omega
    · try dsimp only
      intro j hj; omega
    rintro g1 i hh1 ⟨hx0_1, hi, he⟩ IH1
    refine wi_seq <| wi_reg rfl <| lx_lssS rfl rfl rfl (fun c2 => ?_) (fun c2 => ?_)
    · refine lx_nil <| wi_seq <| wi_true rfl <| wi_skip <| wi_seq <| wi_block <| wi_seq <| wi_reg rfl <| lx_move (.int .i64 ((i : Nat) : Int)) rfl rfl <| lx_assign (.int .i64 ((i : Nat) : Int)) rfl rfl <| lx_nil <| wi_seq <| wi_draw mo rfl (by decide +kernel) <| lx_move (vr) rfl rfl <| lx_move (.int .i64 ((i : Nat) : Int)) rfl rfl <| lx_ix (i := i) rfl eT29 hr_vr rfl rfl (by first | omega | (simp only [List.length_set, List.length_append, List.length_cons, List.length_nil, List.length_replicate, List.length_take, swp_length, exch_length]; omega)) <| lx_ld (i := i) (j := 0) (.int .i64 (gt xs i)) rfl rfl fl2 (hr_vr.extS hx0_1) (by first | omega | (simp only [List.length_set, List.length_append, List.length_cons, List.length_nil, List.length_replicate, List.length_take, swp_length, exch_length]; omega)) rfl rfl <| lx_move (vr) rfl rfl <| lx_move (.int .i64 ((i : Nat) : Int)) rfl rfl <| lx_move (.int .i64 ((m : Nat) : Int)) rfl rfl <| lx_add (((i + m : Nat) : Int)) rfl rfl rfl (by omega) (by omega) (by omega) <| lx_ix (i := i + m) rfl eT29 hr_vr rfl rfl (by first | omega | (simp only [List.length_set, List.length_append, List.length_cons, List.length_nil, List.length_replicate, List.length_take, swp_length, exch_length]; omega)) <| lx_ld (i := i + m) (j := 0) (.int .i64 (gt xs (i + m))) rfl rfl fl2 (hr_vr.extS hx0_1) (by first | omega | (simp only [List.length_set, List.length_append, List.length_cons, List.length_nil, List.length_replicate, List.length_take, swp_length, exch_length]; omega)) rfl rfl <| lx_gtrS rfl rfl rfl (fun c3 => ?_) (fun c3 => ?_)
      · refine lx_nil <| wi_true rfl <| wi_seq <| wi_reg rfl <| lx_move (.int .i64 ((i : Nat) : Int)) rfl rfl <| lx_assign (.int .i64 ((i : Nat) : Int)) rfl rfl <| lx_assign (.bool false) rfl rfl <| lx_assign (.int .i64 0) rfl rfl <| lx_nil <| ?_
        -- R2
        refine wi_ret ⟨.tuple #[.int .i64 ((i : Nat) : Int), .bool false, .int .i64 0], (res_three rfl rfl rfl rfl), ⟨i, false, ?_, ?_, ?_, hx0_1⟩⟩
        · first | rfl | (simp; done) | (simp; omega)
        · exact .inr ⟨hc0, .inr ⟨rfl, by simp only [Int.toNat_natCast]; omega, by simp only [Int.toNat_natCast]; omega, fun q hq => by simp only [Int.toNat_natCast]; exact he q hq⟩⟩
        · omega
      · refine lx_nil <| wi_false rfl <| wi_skip <| wi_inBlock <| wi_reg rfl <| lx_add (((i + 1 : Nat) : Int)) rfl rfl rfl (by omega) (by omega) (by omega) <| lx_move (.int .i64 ((i + 1 : Nat) : Int)) rfl rfl <| lx_nil <| ?_
        -- L0.1
        refine IH1 _ _ (i + 1) (agree_ups rfl agree_self) ⟨rfl, trivial⟩ ⟨hx0_1, ?_, ?_⟩ ?_
        · try dsimp only
          omega
        · try dsimp only
          intro j hj; by_cases hji : j = i
          · subst hji; omega
          · exact he j (by omega)
        · first | omega | (dsimp only; omega)
    · refine lx_nil <| wi_seq <| wi_false rfl <| wi_exit rfl <| wi_seq <| wi_reg rfl <| lx_assign (.int .i64 0) rfl rfl <| lx_assign (.bool true) rfl rfl <| lx_assign (.int .i64 0) rfl rfl <| lx_nil <| ?_
      -- R3
      refine wi_ret ⟨.tuple #[.int .i64 0, .bool true, .int .i64 0], (res_three rfl rfl rfl rfl), ⟨0, true, ?_, ?_, ?_, hx0_1⟩⟩
      · first | rfl | (simp; done) | (simp; omega)
      · exact .inr ⟨hc0, .inl ⟨rfl, rfl, fun q hq => by simp only [Int.toNat_natCast] at hq ⊢; exact he q (by omega)⟩⟩
      · omega

set_option maxRecDepth 10000 in
theorem comb_spec (h : Heap) (vr : Value) (xs : List Int) (hh : Int) (hr_vr : RdE encI h vr xs) (hp1 : xs.length ≤ 1000000) (hp2 : hh ≤ 9223372036854775807) : Fx Try.prog 28 [vr, .int .i64 hh] h (fun v h' => ∃ (s : Value) (ys : List Int) (n : Nat), v = .tuple #[s, .int .i64 ((n : Nat) : Int), .int .i64 (chkRow xs [hh])] ∧ OwE encI h' h.size 2 s ys ∧ ((chkRow xs [hh] ≠ 0 ∧ ys = [] ∧ n = 0) ∨ (chkRow xs [hh] = 0 ∧ ys = (combF hh.toNat xs).1 ∧ n = (combF hh.toNat xs).2)) ∧ (n ≤ 1000000) ∧ Ext h.size h h') := by
  refine fx_intro (n := 42) [(0, vr), (1, .int .i64 hh)] Try.func28 rfl rfl (by simp) ⟨rfl, rfl, trivial⟩ fun g0 => ?_
  refine wi_seq <| wi_reg rfl <| lx_assign (.slice none 0 0) rfl rfl <| lx_assign (.int .i64 0) rfl rfl <| lx_assign (.int .i64 0) rfl rfl <| lx_nil <| wi_seq <| wi_seq <| wi_reg rfl <| lx_move (vr) rfl rfl <| lx_move (.int .i64 hh) rfl rfl <| lx_buildSlice (E := encI) h.size [hh] [.int .i64 hh] rfl rfl eT35 rfl rfl rfl rfl (Nat.le_refl _) (fun _ _ _ => trivial) fun v1 h1 ho1 hx1 hvb1 hsz1 => ?_
  have ho2 := ho1.base (Nat.le_refl h.size)
  refine lx_call [vr, v1] rfl rfl Try.call46 rfl (checkRow_spec h1 vr xs v1 ([hh]) (hr_vr.extS hx1) ho2.rd (by omega) (by simp)) (fun _ _ _ => trivial) ?_
  rintro _ h2 ⟨rfl, rfl⟩
  refine lx_assign (.int .i64 (chkRow xs ([hh]))) rfl rfl <| lx_nil <| wi_seq <| wi_reg rfl <| lx_move (.int .i64 (chkRow xs ([hh]))) rfl rfl <| lx_neqS rfl rfl rfl (fun c1 => ?_) (fun c1 => ?_)
  · refine lx_nil <| wi_true rfl <| wi_seq <| wi_reg rfl <| lx_move (.int .i64 (chkRow xs ([hh]))) rfl rfl <| lx_assign (.slice none 0 0) rfl rfl <| lx_assign (.int .i64 0) rfl rfl <| lx_assign (.int .i64 (chkRow xs ([hh]))) rfl rfl <| lx_nil <| ?_
    -- R1
    refine wi_ret ⟨.tuple #[.slice none 0 0, .int .i64 0, .int .i64 (chkRow xs ([hh]))], (res_three rfl rfl rfl rfl), ⟨.slice none 0 0, [], 0, ?_, (owE_nil encI _ h.size 2), ?_, ?_, hx1⟩⟩
    · first | rfl | (simp; done) | (simp; omega)
    · exact .inl ⟨by omega, rfl, rfl⟩
    · omega
  · refine lx_nil <| wi_false rfl <| wi_skip <| wi_seq <| wi_reg rfl <| ?_
    have hc0 : chkRow xs [hh] = 0 := by omega
    have hg1 : 1 ≤ hh := chk_gap hc0 (i := 0) (by simp)
    obtain ⟨hcl, _⟩ := chk_len hc0
    obtain ⟨m, rfl⟩ : ∃ m : Nat, hh = ((m : Nat) : Int) := ⟨hh.toNat, by omega⟩
    refine lx_move (vr) rfl rfl <| lx_call [vr] rfl rfl Try.call47 rfl (clone_spec h1 vr xs (hr_vr.extS hx1) (by omega)) (fun _ _ _ => trivial) ?_
    rintro v2 h3 ⟨_, rfl, ho3, hx2⟩
    have hx0_1 := hx1.trans2 hx2 hx1.size
    have ho4 := ho2.extS hx2
    have ho5 := ho3.base hx1.size
    refine lx_assign (v2) rfl rfl <| lx_assign (.int .i64 0) rfl rfl <| lx_nil <| wi_seq <| wi_seq <| wi_reg rfl <| lx_move (vr) rfl rfl <| lx_len rfl Try.underlying29 hr_vr rfl <| lx_move (.int .i64 ((m : Nat) : Int)) rfl rfl <| lx_move (vr) rfl rfl <| lx_len rfl Try.underlying29 hr_vr rfl <| lx_min (((min m xs.length : Nat) : Int)) rfl rfl rfl (by omega) <| lx_sub (((xs.length - m : Nat) : Int)) rfl rfl rfl (by omega) (by omega) (by omega) <| lx_max (((xs.length - m : Nat) : Int)) rfl rfl rfl (by omega) <| lx_move (.int .i64 0) rfl rfl <| lx_nil <| wi_block <| ?_
    refine wi_loop (σ := Nat × Nat × (List Int)) (rngB 28 40 [9, 10]) (fun (ss : Nat × Nat × (List Int)) => [(28, .int .i64 ((ss.1 : Nat) : Int)), (9, .int .i64 ((ss.2.1 : Nat) : Int))]) (fun (ss : Nat × Nat × (List Int)) (hh : Heap) => OwE encI hh h.size 2 v2 ss.2.2 ∧ Ext h.size h hh ∧ (ss.1 ≤ xs.length - m) ∧ (ss.2.2 = (combS m xs ss.1).1) ∧ (ss.2.1 = (combS m xs ss.1).2) ∧ (ss.2.1 ≤ ss.1)) (fun (ss : Nat × Nat × (List Int)) => xs.length - ss.1) (0, 0, xs) ⟨rfl, rfl, trivial⟩ ⟨?_, hx0_1, ?_, ?_, ?_, ?_⟩ ?_
    · first | exact ho5 | (simpa using ho5)
    · try dsimp only
      omega
    · try dsimp only
      first | done | rfl
    · try dsimp only
      first | done | rfl
    · try dsimp only
      omega
    rintro g1 ⟨i, n, ys⟩ hh1 ⟨ho6, hx0_2, hi, hys, hn, hnl⟩ IH1
    dsimp only at *
    have hly : ys.length = xs.length := by rw [hys]; exact combS_length _ _ _
    refine wi_seq <| wi_reg rfl <| lx_lssS rfl rfl rfl (fun c2 => ?_) (fun c2 => ?_)
    · refine lx_nil <| wi_seq <| wi_true rfl <| wi_skip <| wi_seq <| wi_block <| wi_seq <| wi_reg rfl <| lx_move (.int .i64 ((i : Nat) : Int)) rfl rfl <| lx_assign (.int .i64 ((i : Nat) : Int)) rfl rfl <| lx_nil <| wi_seq <| wi_reg rfl <| lx_move (v2) rfl rfl <| lx_move (.int .i64 ((i : Nat) : Int)) rfl rfl <| lx_move (.int .i64 ((i : Nat) : Int)) rfl rfl <| lx_move (.int .i64 ((m : Nat) : Int)) rfl rfl <| lx_add (((i + m : Nat) : Int)) rfl rfl rfl (by omega) (by omega) (by omega) <| lx_call [v2, .int .i64 ((i : Nat) : Int), .int .i64 ((i + m : Nat) : Int)] rfl rfl Try.call51 rfl (exchange_spec hh1 h.size v2 ys i (i + m) ho6 hx0_2.size (by omega) (by omega) (by omega)) (fun _ _ _ => trivial) ?_
      rintro _ h4 ⟨rfl, ho7, hx3⟩
      have hx0_3 := hx0_2.trans (ho6.ext hx3 hx0_2.size)
      refine lx_nil <| wi_condS (t := decide (gt ys (i + m) < gt ys i)) rfl (fun c3 => ?_) (fun c3 => ?_)
      · refine wi_reg rfl <| lx_move (.int .i64 ((n : Nat) : Int)) rfl rfl <| lx_add (((n + 1 : Nat) : Int)) rfl rfl rfl (by omega) (by omega) (by omega) <| lx_assign (.int .i64 ((n + 1 : Nat) : Int)) rfl rfl <| lx_nil <| wi_inBlock <| wi_reg rfl <| lx_add (((i + 1 : Nat) : Int)) rfl rfl rfl (by omega) (by omega) (by omega) <| lx_move (.int .i64 ((i + 1 : Nat) : Int)) rfl rfl <| lx_nil <| ?_
        -- L0.1
        refine IH1 _ _ (i + 1, n + 1, exch ys i (i + m)) (agree_ups rfl agree_self) ⟨rfl, rfl, trivial⟩ ⟨?_, hx0_3, ?_, ?_, ?_, ?_⟩ ?_
        · first | exact ho7 | (simpa using ho7)
        · try dsimp only
          omega
        · try dsimp only
          exact combS_ex hys
        · try dsimp only
          exact combS_yes hys hn (of_decide_eq_true (by assumption))
        · try dsimp only
          omega
        · first | omega | (dsimp only; omega)
      · refine wi_skip <| wi_inBlock <| wi_reg rfl <| lx_add (((i + 1 : Nat) : Int)) rfl rfl rfl (by omega) (by omega) (by omega) <| lx_move (.int .i64 ((i + 1 : Nat) : Int)) rfl rfl <| lx_nil <| ?_
        -- L0.2
        refine IH1 _ _ (i + 1, n, exch ys i (i + m)) (agree_ups rfl agree_self) ⟨rfl, rfl, trivial⟩ ⟨?_, hx0_3, ?_, ?_, ?_, ?_⟩ ?_
        · first | exact ho7 | (simpa using ho7)
        · try dsimp only
          omega
        · try dsimp only
          exact combS_ex hys
        · try dsimp only
          exact combS_no hys hn (of_decide_eq_false (by assumption))
        · try dsimp only
          omega
        · first | omega | (dsimp only; omega)
    · refine lx_nil <| wi_seq <| wi_false rfl <| wi_exit rfl <| wi_seq <| wi_reg rfl <| lx_move (v2) rfl rfl <| lx_move (.int .i64 ((n : Nat) : Int)) rfl rfl <| lx_assign (v2) rfl rfl <| lx_assign (.int .i64 ((n : Nat) : Int)) rfl rfl <| lx_assign (.int .i64 0) rfl rfl <| lx_nil <| ?_
      -- R2
      refine wi_ret ⟨.tuple #[v2, .int .i64 ((n : Nat) : Int), .int .i64 0], (res_three rfl rfl rfl rfl), ⟨v2, ys, n, ?_, ho6, ?_, ?_, hx0_2⟩⟩
      · first | rfl | (simp; done) | (simp; omega)
      · refine .inr ⟨hc0, ?_⟩
        simp only [Int.toNat_natCast]
        obtain rfl : i = xs.length - m := by omega
        exact ⟨hys, hn⟩
      · omega

set_option maxRecDepth 10000 in
theorem rsorted_spec (h : Heap) (vr : Value) (xs : List Int) (k : Nat) (hr_vr : RdE encI h vr xs) (hp1 : xs.length ≤ 1000000) (hp2 : k ≤ 9223372036854775807) : Fx Try.prog 29 [vr, .int .i64 ((k : Nat) : Int)] h (fun v h' => ∃ (p : Nat) (ok : Bool), v = .tuple #[.int .i64 ((p : Nat) : Int), .bool ok] ∧ (sortedR k xs p ok) ∧ (p ≤ 1000000) ∧ h = h') := by
  refine fx_intro (n := 33) [(0, vr), (1, .int .i64 ((k : Nat) : Int))] Try.func29 rfl rfl (by simp) ⟨rfl, rfl, trivial⟩ fun g0 => ?_
  refine wi_seq <| wi_reg rfl <| lx_assign (.int .i64 0) rfl rfl <| lx_assign (.bool false) rfl rfl <| lx_nil <| wi_seq <| wi_seq <| wi_reg rfl <| lx_assign (.int .i64 0) rfl rfl <| lx_nil <| wi_block <| ?_
  refine wi_loop (σ := Nat) (rngB 4 33 []) (fun (i : Nat) => [(6, .int .i64 ((i : Nat) : Int))]) (fun (i : Nat) (hh : Heap) => h = hh ∧ (i ≤ xs.length) ∧ (∀ j, j < i → gt xs j ≤ gt xs (j + k))) (fun (i : Nat) => xs.length - i) 0 ⟨rfl, trivial⟩ ⟨rfl, ?_, ?_⟩ ?_
  · try dsimp only
    omega
  · try dsimp only
    intro j hj; omega
  rintro g1 i hh1 ⟨rfl, hi, he⟩ IH1
  refine wi_seq <| wi_seq <| wi_reg rfl <| lx_move (.int .i64 ((k : Nat) : Int)) rfl rfl <| lx_move (vr) rfl rfl <| lx_len rfl Try.underlying29 hr_vr rfl <| lx_lssS rfl rfl rfl (fun c1 => ?_) (fun c1 => ?_)
  · refine lx_move (.bool true) rfl rfl <| lx_move (.int .i64 ((i : Nat) : Int)) rfl rfl <| lx_move (.int .i64 ((k : Nat) : Int)) rfl rfl <| lx_add (((i + k : Nat) : Int)) rfl rfl rfl (by omega) (by omega) (by omega) <| lx_move (vr) rfl rfl <| lx_len rfl Try.underlying29 hr_vr rfl <| lx_lssS rfl rfl rfl (fun c2 => ?_) (fun c2 => ?_)
    · refine lx_pick true (.bool true) rfl rfl rfl <| lx_nil <| wi_true rfl <| wi_skip <| wi_seq <| wi_block <| wi_seq <| wi_draw mo rfl (by decide +kernel) <| lx_move (vr) rfl rfl <| lx_move (.int .i64 ((i : Nat) : Int)) rfl rfl <| lx_ix (i := i) rfl eT29 hr_vr rfl rfl (by first | omega | (simp only [List.length_set, List.length_append, List.length_cons, List.length_nil, List.length_replicate, List.length_take, swp_length, exch_length]; omega)) <| lx_ld (i := i) (j := 0) (.int .i64 (gt xs i)) rfl rfl fl2 hr_vr (by first | omega | (simp only [List.length_set, List.length_append, List.length_cons, List.length_nil, List.length_replicate, List.length_take, swp_length, exch_length]; omega)) rfl rfl <| lx_move (vr) rfl rfl <| lx_move (.int .i64 ((i : Nat) : Int)) rfl rfl <| lx_move (.int .i64 ((k : Nat) : Int)) rfl rfl <| lx_add (((i + k : Nat) : Int)) rfl rfl rfl (by omega) (by omega) (by omega) <| lx_ix (i := i + k) rfl eT29 hr_vr rfl rfl (by first | omega | (simp only [List.length_set, List.length_append, List.length_cons, List.length_nil, List.length_replicate, List.length_take, swp_length, exch_length]; omega)) <| lx_ld (i := i + k) (j := 0) (.int .i64 (gt xs (i + k))) rfl rfl fl2 hr_vr (by first | omega | (simp only [List.length_set, List.length_append, List.length_cons, List.length_nil, List.length_replicate, List.length_take, swp_length, exch_length]; omega)) rfl rfl <| lx_gtrS rfl rfl rfl (fun c3 => ?_) (fun c3 => ?_)
      · refine lx_nil <| wi_true rfl <| wi_seq <| wi_reg rfl <| lx_move (.int .i64 ((i : Nat) : Int)) rfl rfl <| lx_assign (.int .i64 ((i : Nat) : Int)) rfl rfl <| lx_assign (.bool false) rfl rfl <| lx_nil <| ?_
        -- R1
        refine wi_ret ⟨.tuple #[.int .i64 ((i : Nat) : Int), .bool false], (res_two rfl rfl rfl), ⟨i, false, rfl, ?_, ?_, rfl⟩⟩
        · exact .inr ⟨rfl, by omega, by omega, he⟩
        · omega
      · refine lx_nil <| wi_false rfl <| wi_skip <| wi_inBlock <| wi_reg rfl <| lx_move (.int .i64 ((i : Nat) : Int)) rfl rfl <| lx_add (((i + 1 : Nat) : Int)) rfl rfl rfl (by omega) (by omega) (by omega) <| lx_assign (.int .i64 ((i + 1 : Nat) : Int)) rfl rfl <| lx_nil <| ?_
        -- L0.1
        refine IH1 _ _ (i + 1) (agree_ups rfl agree_self) ⟨rfl, trivial⟩ ⟨rfl, ?_, ?_⟩ ?_
        · try dsimp only
          omega
        · try dsimp only
          intro j hj; by_cases hji : j = i
          · subst hji; omega
          · exact he j (by omega)
        · first | omega | (dsimp only; omega)
    · refine lx_pick true (.bool false) rfl rfl rfl <| lx_nil <| wi_false rfl <| wi_exit rfl <| wi_seq <| wi_reg rfl <| lx_assign (.int .i64 0) rfl rfl <| lx_assign (.bool true) rfl rfl <| lx_nil <| ?_
      -- R2
      refine wi_ret ⟨.tuple #[.int .i64 0, .bool true], (res_two rfl rfl rfl), ⟨0, true, ?_, ?_, ?_, rfl⟩⟩
      · first | rfl | (simp; done) | (simp; omega)
      · exact .inl ⟨rfl, rfl, fun q hq => by first | exact he q (by omega) | (exfalso; omega)⟩
      · omega
  · refine lx_move (.bool false) rfl rfl <| lx_skip rfl <| lx_skip rfl <| lx_skip rfl <| lx_skip rfl <| lx_skip rfl <| lx_skip rfl <| lx_pick false (.bool false) rfl rfl rfl <| lx_nil <| wi_false rfl <| wi_exit rfl <| wi_seq <| wi_reg rfl <| lx_assign (.int .i64 0) rfl rfl <| lx_assign (.bool true) rfl rfl <| lx_nil <| ?_
    -- R3
    refine wi_ret ⟨.tuple #[.int .i64 0, .bool true], (res_two rfl rfl rfl), ⟨0, true, ?_, ?_, ?_, rfl⟩⟩
    · first | rfl | (simp; done) | (simp; omega)
    · exact .inl ⟨rfl, rfl, fun q hq => by first | exact he q (by omega) | (exfalso; omega)⟩
    · omega

set_option maxRecDepth 10000 in
theorem rcomb_spec (h : Heap) (vr : Value) (xs : List Int) (k : Nat) (hr_vr : RdE encI h vr xs) (hp1 : xs.length ≤ 1000000) (hp2 : k ≤ 9223372036854775807) : Fx Try.prog 30 [vr, .int .i64 ((k : Nat) : Int)] h (fun v h' => ∃ (s : Value), v = .tuple #[s, .int .i64 (((combF k xs).2 : Nat) : Int)] ∧ OwE encI h' h.size 2 s ((combF k xs).1) ∧ Ext h.size h h') := by
  refine fx_intro (n := 59) [(0, vr), (1, .int .i64 ((k : Nat) : Int))] Try.func30 rfl rfl (by simp) ⟨rfl, rfl, trivial⟩ fun g0 => ?_
  refine wi_seq <| wi_reg rfl <| lx_assign (.slice none 0 0) rfl rfl <| lx_assign (.int .i64 0) rfl rfl <| lx_nil <| wi_seq <| wi_reg rfl <| lx_assign (.slice none 0 0) rfl rfl <| lx_nil <| wi_seq <| wi_reg rfl <| lx_move (.slice none 0 0) rfl rfl <| lx_move (vr) rfl rfl <| lx_append (E := encI) (B := h.size) (xs := []) (ys := xs) rfl rfl eT29 (owE_nil encI _ h.size 2) hr_vr rfl rfl (by first | omega | (simp only [List.length_nil, List.length_take]; omega)) (by first | omega | (simp only [List.length_nil, List.length_take]; omega)) (Nat.le_refl h.size) (fun _ _ => trivial) fun v1 h1 ho1 hc1 hg1 => ?_
  have hx0_1 := (owE_nil encI _ h.size 2).ext hc1 (Nat.le_refl h.size)
  rw [List.nil_append] at ho1
  refine lx_assign (v1) rfl rfl <| lx_nil <| wi_seq <| wi_reg rfl <| lx_assign (.int .i64 0) rfl rfl <| lx_nil <| wi_seq <| wi_seq <| wi_reg rfl <| lx_assign (.int .i64 0) rfl rfl <| lx_nil <| wi_block <| ?_
  refine wi_loop (σ := Nat × Nat × (List Int)) (rngB 12 57 [7, 8]) (fun (ss : Nat × Nat × (List Int)) => [(8, .int .i64 ((ss.1 : Nat) : Int)), (7, .int .i64 ((ss.2.1 : Nat) : Int))]) (fun (ss : Nat × Nat × (List Int)) (hh : Heap) => OwE encI hh h.size 2 v1 ss.2.2 ∧ Ext h.size h hh ∧ (ss.1 ≤ xs.length - k) ∧ (ss.2.2 = (combS k xs ss.1).1) ∧ (ss.2.1 = (combS k xs ss.1).2) ∧ (ss.2.1 ≤ ss.1)) (fun (ss : Nat × Nat × (List Int)) => xs.length - ss.1) (0, 0, xs) ⟨rfl, rfl, trivial⟩ ⟨?_, hx0_1, ?_, ?_, ?_, ?_⟩ ?_
  · first | exact ho1 | (simpa using ho1)
  · try dsimp only
    omega
  · try dsimp only
    first | done | rfl
  · try dsimp only
    first | done | rfl
  · try dsimp only
    omega
  rintro g1 ⟨i, n, ys⟩ hh1 ⟨ho2, hx0_2, hi, hys, hn, hnl⟩ IH1
  dsimp only at *
  have hly : ys.length = xs.length := by rw [hys]; exact combS_length _ _ _
  refine wi_seq <| wi_seq <| wi_reg rfl <| lx_move (.int .i64 ((k : Nat) : Int)) rfl rfl <| lx_move (v1) rfl rfl <| lx_len rfl Try.underlying29 ho2.rd rfl <| lx_lssS rfl rfl rfl (fun c1 => ?_) (fun c1 => ?_)
  · refine lx_move (.bool true) rfl rfl <| lx_move (.int .i64 ((i : Nat) : Int)) rfl rfl <| lx_move (.int .i64 ((k : Nat) : Int)) rfl rfl <| lx_add (((i + k : Nat) : Int)) rfl rfl rfl (by omega) (by omega) (by omega) <| lx_move (v1) rfl rfl <| lx_len rfl Try.underlying29 ho2.rd rfl <| lx_lssS rfl rfl rfl (fun c2 => ?_) (fun c2 => ?_)
    · refine lx_pick true (.bool true) rfl rfl rfl <| lx_nil <| wi_true rfl <| wi_skip <| wi_seq <| wi_block <| wi_seq <| wi_draw mo rfl (by decide +kernel) <| lx_move (v1) rfl rfl <| lx_move (.int .i64 ((i : Nat) : Int)) rfl rfl <| lx_ix (i := i) rfl eT29 ho2.rd rfl rfl (by first | omega | (simp only [List.length_set, List.length_append, List.length_cons, List.length_nil, List.length_replicate, List.length_take, swp_length, exch_length]; omega)) <| lx_ld (i := i) (j := 0) (.int .i64 (gt ys i)) rfl rfl fl2 ho2.rd (by first | omega | (simp only [List.length_set, List.length_append, List.length_cons, List.length_nil, List.length_replicate, List.length_take, swp_length, exch_length]; omega)) rfl rfl <| lx_move (v1) rfl rfl <| lx_move (.int .i64 ((i : Nat) : Int)) rfl rfl <| lx_move (.int .i64 ((k : Nat) : Int)) rfl rfl <| lx_add (((i + k : Nat) : Int)) rfl rfl rfl (by omega) (by omega) (by omega) <| lx_ix (i := i + k) rfl eT29 ho2.rd rfl rfl (by first | omega | (simp only [List.length_set, List.length_append, List.length_cons, List.length_nil, List.length_replicate, List.length_take, swp_length, exch_length]; omega)) <| lx_ld (i := i + k) (j := 0) (.int .i64 (gt ys (i + k))) rfl rfl fl2 ho2.rd (by first | omega | (simp only [List.length_set, List.length_append, List.length_cons, List.length_nil, List.length_replicate, List.length_take, swp_length, exch_length]; omega)) rfl rfl <| lx_gtrS rfl rfl rfl (fun c3 => ?_) (fun c3 => ?_)
      · refine lx_nil <| wi_true rfl <| wi_seq <| wi_draw mo rfl (by decide +kernel) <| lx_move (v1) rfl rfl <| lx_move (.int .i64 ((i : Nat) : Int)) rfl rfl <| lx_move (v1) rfl rfl <| lx_move (.int .i64 ((i : Nat) : Int)) rfl rfl <| lx_move (.int .i64 ((k : Nat) : Int)) rfl rfl <| lx_add (((i + k : Nat) : Int)) rfl rfl rfl (by omega) (by omega) (by omega) <| lx_move (v1) rfl rfl <| lx_move (.int .i64 ((i : Nat) : Int)) rfl rfl <| lx_move (.int .i64 ((k : Nat) : Int)) rfl rfl <| lx_add (((i + k : Nat) : Int)) rfl rfl rfl (by omega) (by omega) (by omega) <| lx_ix (i := i + k) rfl eT29 ho2.rd rfl rfl (by first | omega | (simp only [List.length_set, List.length_append, List.length_cons, List.length_nil, List.length_replicate, List.length_take, swp_length, exch_length]; omega)) <| lx_ld (i := i + k) (j := 0) (.int .i64 (gt ys (i + k))) rfl rfl fl2 ho2.rd (by first | omega | (simp only [List.length_set, List.length_append, List.length_cons, List.length_nil, List.length_replicate, List.length_take, swp_length, exch_length]; omega)) rfl rfl <| lx_move (v1) rfl rfl <| lx_move (.int .i64 ((i : Nat) : Int)) rfl rfl <| lx_ix (i := i) rfl eT29 ho2.rd rfl rfl (by first | omega | (simp only [List.length_set, List.length_append, List.length_cons, List.length_nil, List.length_replicate, List.length_take, swp_length, exch_length]; omega)) <| lx_ld (i := i) (j := 0) (.int .i64 (gt ys i)) rfl rfl fl2 ho2.rd (by first | omega | (simp only [List.length_set, List.length_append, List.length_cons, List.length_nil, List.length_replicate, List.length_take, swp_length, exch_length]; omega)) rfl rfl <| lx_ix (i := i) rfl eT29 ho2.rd rfl rfl (by first | omega | (simp only [List.length_set, List.length_append, List.length_cons, List.length_nil, List.length_replicate, List.length_take, swp_length, exch_length]; omega)) <| lx_st (i := i) (gt ys (i + k)) rfl rfl Try.sizeOf2 ho2 (by first | omega | (simp only [List.length_set, List.length_append, List.length_cons, List.length_nil, List.length_replicate, List.length_take, swp_length, exch_length]; omega)) rfl rfl (fun _ _ _ _ _ => trivial) fun h2 ho3 hc2 hsz1 => ?_
        have hx0_3 := hx0_2.trans (ho2.ext hc2 hx0_2.size)
        refine lx_ix (i := i + k) rfl eT29 ho3.rd rfl rfl (by first | omega | (simp only [List.length_set, List.length_append, List.length_cons, List.length_nil, List.length_replicate, List.length_take, swp_length, exch_length]; omega)) <| lx_st (i := i + k) (gt ys i) rfl rfl Try.sizeOf2 ho3 (by first | omega | (simp only [List.length_set, List.length_append, List.length_cons, List.length_nil, List.length_replicate, List.length_take, swp_length, exch_length]; omega)) rfl rfl (fun _ _ _ _ _ => trivial) fun h3 ho4 hc3 hsz2 => ?_
        have hx0_4 := hx0_3.trans (ho3.ext hc3 hx0_3.size)
        refine lx_nil <| wi_reg rfl <| lx_move (.int .i64 ((n : Nat) : Int)) rfl rfl <| lx_add (((n + 1 : Nat) : Int)) rfl rfl rfl (by omega) (by omega) (by omega) <| lx_assign (.int .i64 ((n + 1 : Nat) : Int)) rfl rfl <| lx_nil <| wi_inBlock <| wi_reg rfl <| lx_move (.int .i64 ((i : Nat) : Int)) rfl rfl <| lx_add (((i + 1 : Nat) : Int)) rfl rfl rfl (by omega) (by omega) (by omega) <| lx_assign (.int .i64 ((i + 1 : Nat) : Int)) rfl rfl <| lx_nil <| ?_
        -- L0.1
        refine IH1 _ _ (i + 1, n + 1, (ys.set i (gt ys (i + k))).set (i + k) (gt ys i)) (agree_ups rfl agree_self) ⟨rfl, rfl, trivial⟩ ⟨?_, hx0_4, ?_, ?_, ?_, ?_⟩ ?_
        · first | exact ho4 | (simpa using ho4)
        · try dsimp only
          omega
        · try dsimp only
          rw [← combS_ex hys]; unfold exch; rw [if_pos (by omega)]; rfl
        · try dsimp only
          exact combS_yes hys hn (by omega)
        · try dsimp only
          omega
        · first | omega | (dsimp only; omega)
      · refine lx_nil <| wi_false rfl <| wi_skip <| wi_inBlock <| wi_reg rfl <| lx_move (.int .i64 ((i : Nat) : Int)) rfl rfl <| lx_add (((i + 1 : Nat) : Int)) rfl rfl rfl (by omega) (by omega) (by omega) <| lx_assign (.int .i64 ((i + 1 : Nat) : Int)) rfl rfl <| lx_nil <| ?_
        -- L0.2
        refine IH1 _ _ (i + 1, n, ys) (agree_ups rfl agree_self) ⟨rfl, rfl, trivial⟩ ⟨?_, hx0_2, ?_, ?_, ?_, ?_⟩ ?_
        · first | exact ho2 | (simpa using ho2)
        · try dsimp only
          omega
        · try dsimp only
          rw [← combS_ex hys]; unfold exch; rw [if_neg (by omega)]
        · try dsimp only
          exact combS_no hys hn (by omega)
        · try dsimp only
          omega
        · first | omega | (dsimp only; omega)
    · refine lx_pick true (.bool false) rfl rfl rfl <| lx_nil <| wi_false rfl <| wi_exit rfl <| wi_seq <| wi_reg rfl <| lx_move (v1) rfl rfl <| lx_move (.int .i64 ((n : Nat) : Int)) rfl rfl <| lx_assign (v1) rfl rfl <| lx_assign (.int .i64 ((n : Nat) : Int)) rfl rfl <| lx_nil <| ?_
      -- R1
      refine wi_ret ⟨.tuple #[v1, .int .i64 ((n : Nat) : Int)], (res_two rfl rfl rfl), ⟨v1, ?_, ?_, hx0_2⟩⟩
      · obtain rfl : i = xs.length - k := by omega
        rw [hn]; rfl
      · obtain rfl : i = xs.length - k := by omega
        rw [hys] at ho2
        exact ho2
  · refine lx_move (.bool false) rfl rfl <| lx_skip rfl <| lx_skip rfl <| lx_skip rfl <| lx_skip rfl <| lx_skip rfl <| lx_skip rfl <| lx_pick false (.bool false) rfl rfl rfl <| lx_nil <| wi_false rfl <| wi_exit rfl <| wi_seq <| wi_reg rfl <| lx_move (v1) rfl rfl <| lx_move (.int .i64 ((n : Nat) : Int)) rfl rfl <| lx_assign (v1) rfl rfl <| lx_assign (.int .i64 ((n : Nat) : Int)) rfl rfl <| lx_nil <| ?_
    -- R2
    refine wi_ret ⟨.tuple #[v1, .int .i64 ((n : Nat) : Int)], (res_two rfl rfl rfl), ⟨v1, ?_, ?_, hx0_2⟩⟩
    · obtain rfl : i = xs.length - k := by omega
      rw [hn]; rfl
    · obtain rfl : i = xs.length - k := by omega
      rw [hys] at ho2
      exact ho2

set_option maxRecDepth 10000 in
theorem rsortBy_spec (h : Heap) (vr : Value) (xs : List Int) (k : Nat) (hr_vr : RdE encI h vr xs) (hp1 : xs.length ≤ 200) (hp2 : 1 ≤ k) (hp3 : k ≤ 9223372036854775807) : Fx Try.prog 31 [vr, .int .i64 ((k : Nat) : Int)] h (fun v h' => ∃ (s : Value) (ys : List Int) (q : Nat), v = .tuple #[s, .int .i64 ((pairs k xs : Nat) : Int)] ∧ OwE encI h' h.size 2 s ys ∧ (GS k q xs ys) ∧ (SortedBy k ys) ∧ (pairs k xs = q ∧ q ≤ 40000) ∧ Ext h.size h h') := by
  refine fx_intro (n := 60) [(0, vr), (1, .int .i64 ((k : Nat) : Int))] Try.func31 rfl rfl (by simp) ⟨rfl, rfl, trivial⟩ fun g0 => ?_
  refine wi_seq <| wi_reg rfl <| lx_assign (.slice none 0 0) rfl rfl <| lx_assign (.int .i64 0) rfl rfl <| lx_nil <| wi_seq <| wi_reg rfl <| lx_assign (.int .i64 0) rfl rfl <| lx_nil <| wi_seq <| wi_seq <| wi_reg rfl <| lx_assign (.int .i64 0) rfl rfl <| lx_nil <| wi_block <| ?_
  refine wi_loop (σ := Nat × Nat) (rngB 11 44 [6, 7, 8]) (fun (ss : Nat × Nat) => [(7, .int .i64 ((ss.1 : Nat) : Int)), (6, .int .i64 ((ss.2 : Nat) : Int))]) (fun (ss : Nat × Nat) (hh : Heap) => h = hh ∧ (ss.1 ≤ xs.length) ∧ (ss.2 = S (fun a => S (fun b => wp k xs a b) xs.length) ss.1) ∧ (ss.2 ≤ 200 * ss.1)) (fun (ss : Nat × Nat) => xs.length - ss.1) (0, 0) ⟨rfl, rfl, trivial⟩ ⟨rfl, ?_, ?_, ?_⟩ ?_
  · try dsimp only
    omega
  · try dsimp only
    first | done | rfl
  · try dsimp only
    omega
  rintro g1 ⟨i, n⟩ hh1 ⟨rfl, hi, hn, hnb⟩ IH1
  dsimp only at *
  refine wi_seq <| wi_seq <| wi_reg rfl <| lx_move (.int .i64 ((i : Nat) : Int)) rfl rfl <| lx_move (vr) rfl rfl <| lx_len rfl Try.underlying29 hr_vr rfl <| lx_lssS rfl rfl rfl (fun c1 => ?_) (fun c1 => ?_)
  · refine lx_nil <| wi_true rfl <| wi_skip <| wi_seq <| wi_block <| wi_seq <| wi_reg rfl <| lx_move (.int .i64 ((i : Nat) : Int)) rfl rfl <| lx_add (((i + 1 : Nat) : Int)) rfl rfl rfl (by omega) (by omega) (by omega) <| lx_assign (.int .i64 ((i + 1 : Nat) : Int)) rfl rfl <| lx_nil <| wi_block <| ?_
    refine wi_loop (σ := Nat × Nat) (rngB 19 44 [6, 8]) (fun (ss : Nat × Nat) => [(8, .int .i64 ((ss.1 : Nat) : Int)), (6, .int .i64 ((ss.2 : Nat) : Int))]) (fun (ss : Nat × Nat) (hh : Heap) => h = hh ∧ (i < ss.1 ∧ ss.1 ≤ xs.length) ∧ (ss.2 = S (fun a => S (fun b => wp k xs a b) xs.length) i + S (fun b => wp k xs i b) ss.1) ∧ (ss.2 ≤ 200 * i + ss.1)) (fun (ss : Nat × Nat) => xs.length - ss.1) (i + 1, n) ⟨rfl, rfl, trivial⟩ ⟨rfl, ?_, ?_, ?_⟩ ?_
    · try dsimp only
      omega
    · try dsimp only
      rw [wp_row]; exact hn
    · try dsimp only
      omega
    rintro g2 ⟨j, n2⟩ hh2 ⟨rfl, hj, hn2, hnb2⟩ IH2
    dsimp only at *
    refine wi_seq <| wi_seq <| wi_reg rfl <| lx_move (.int .i64 ((j : Nat) : Int)) rfl rfl <| lx_move (vr) rfl rfl <| lx_len rfl Try.underlying29 hr_vr rfl <| lx_lssS rfl rfl rfl (fun c2 => ?_) (fun c2 => ?_)
    · refine lx_nil <| wi_true rfl <| wi_skip <| wi_seq <| wi_block <| wi_seq <| wi_draw mo rfl (by decide +kernel) <| lx_move (.int .i64 ((j : Nat) : Int)) rfl rfl <| lx_move (.int .i64 ((i : Nat) : Int)) rfl rfl <| lx_sub (((j - i : Nat) : Int)) rfl rfl rfl (by omega) (by omega) (by omega) <| lx_move (.int .i64 ((k : Nat) : Int)) rfl rfl <| lx_rem (m := j - i) (n := k) rfl rfl rfl (by omega) <| lx_eqlS rfl rfl rfl (fun c3 => ?_) (fun c3 => ?_)
      · refine lx_move (.bool true) rfl rfl <| lx_move (vr) rfl rfl <| lx_move (.int .i64 ((i : Nat) : Int)) rfl rfl <| lx_ix (i := i) rfl eT29 hr_vr rfl rfl (by first | omega | (simp only [List.length_set, List.length_append, List.length_cons, List.length_nil, List.length_replicate, List.length_take, swp_length, exch_length]; omega)) <| lx_ld (i := i) (j := 0) (.int .i64 (gt xs i)) rfl rfl fl2 hr_vr (by first | omega | (simp only [List.length_set, List.length_append, List.length_cons, List.length_nil, List.length_replicate, List.length_take, swp_length, exch_length]; omega)) rfl rfl <| lx_move (vr) rfl rfl <| lx_move (.int .i64 ((j : Nat) : Int)) rfl rfl <| lx_ix (i := j) rfl eT29 hr_vr rfl rfl (by first | omega | (simp only [List.length_set, List.length_append, List.length_cons, List.length_nil, List.length_replicate, List.length_take, swp_length, exch_length]; omega)) <| lx_ld (i := j) (j := 0) (.int .i64 (gt xs j)) rfl rfl fl2 hr_vr (by first | omega | (simp only [List.length_set, List.length_append, List.length_cons, List.length_nil, List.length_replicate, List.length_take, swp_length, exch_length]; omega)) rfl rfl <| lx_gtrS rfl rfl rfl (fun c4 => ?_) (fun c4 => ?_)
        · refine lx_pick true (.bool true) rfl rfl rfl <| lx_nil <| wi_true rfl <| wi_reg rfl <| lx_move (.int .i64 ((n2 : Nat) : Int)) rfl rfl <| lx_add (((n2 + 1 : Nat) : Int)) rfl rfl rfl (by omega) (by omega) (by omega) <| lx_assign (.int .i64 ((n2 + 1 : Nat) : Int)) rfl rfl <| lx_nil <| wi_inBlock <| wi_reg rfl <| lx_move (.int .i64 ((j : Nat) : Int)) rfl rfl <| lx_add (((j + 1 : Nat) : Int)) rfl rfl rfl (by omega) (by omega) (by omega) <| lx_assign (.int .i64 ((j + 1 : Nat) : Int)) rfl rfl <| lx_nil <| ?_
          -- L2.1
          refine IH2 _ _ (j + 1, n2 + 1) (agree_ups rfl agree_self) ⟨rfl, rfl, trivial⟩ ⟨rfl, ?_, ?_, ?_⟩ ?_
          · try dsimp only
            omega
          · try dsimp only
            show _ = _ + (S _ j + wp k xs i j)
            rw [wp_iff (by omega), if_pos ⟨by omega, by omega⟩]; omega
          · try dsimp only
            omega
          · first | omega | (dsimp only; omega)
        · refine lx_pick true (.bool false) rfl rfl rfl <| lx_nil <| wi_false rfl <| wi_skip <| wi_inBlock <| wi_reg rfl <| lx_move (.int .i64 ((j : Nat) : Int)) rfl rfl <| lx_add (((j + 1 : Nat) : Int)) rfl rfl rfl (by omega) (by omega) (by omega) <| lx_assign (.int .i64 ((j + 1 : Nat) : Int)) rfl rfl <| lx_nil <| ?_
          -- L2.2
          refine IH2 _ _ (j + 1, n2) (agree_ups rfl agree_self) ⟨rfl, rfl, trivial⟩ ⟨rfl, ?_, ?_, ?_⟩ ?_
          · try dsimp only
            omega
          · try dsimp only
            show _ = _ + (S _ j + wp k xs i j)
            rw [wp_iff (by omega), if_neg (by omega)]; omega
          · try dsimp only
            omega
          · first | omega | (dsimp only; omega)
      · refine lx_move (.bool false) rfl rfl <| lx_skip rfl <| lx_skip rfl <| lx_skip rfl <| lx_skip rfl <| lx_skip rfl <| lx_skip rfl <| lx_skip rfl <| lx_skip rfl <| lx_skip rfl <| lx_pick false (.bool false) rfl rfl rfl <| lx_nil <| wi_false rfl <| wi_skip <| wi_inBlock <| wi_reg rfl <| lx_move (.int .i64 ((j : Nat) : Int)) rfl rfl <| lx_add (((j + 1 : Nat) : Int)) rfl rfl rfl (by omega) (by omega) (by omega) <| lx_assign (.int .i64 ((j + 1 : Nat) : Int)) rfl rfl <| lx_nil <| ?_
        -- L2.3
        refine IH2 _ _ (j + 1, n2) (agree_ups rfl agree_self) ⟨rfl, rfl, trivial⟩ ⟨rfl, ?_, ?_, ?_⟩ ?_
        · try dsimp only
          omega
        · try dsimp only
          show _ = _ + (S _ j + wp k xs i j)
          rw [wp_iff (by omega), if_neg (by omega)]; omega
        · try dsimp only
          omega
        · first | omega | (dsimp only; omega)
    · refine lx_nil <| wi_false rfl <| wi_exit rfl <| wi_inBlock <| wi_reg rfl <| lx_move (.int .i64 ((i : Nat) : Int)) rfl rfl <| lx_add (((i + 1 : Nat) : Int)) rfl rfl rfl (by omega) (by omega) (by omega) <| lx_assign (.int .i64 ((i + 1 : Nat) : Int)) rfl rfl <| lx_nil <| ?_
      -- L0.1
      refine IH1 _ _ (i + 1, n2) (agree_ups rfl (agree_mix (rngB_sub (by decide) (by decide) rfl) (agree_ups rfl agree_self))) ⟨rfl, rfl, trivial⟩ ⟨rfl, ?_, ?_, ?_⟩ ?_
      · try dsimp only
        omega
      · try dsimp only
        obtain rfl : j = xs.length := by omega
        exact hn2
      · try dsimp only
        omega
      · first | omega | (dsimp only; omega)
  · refine lx_nil <| wi_false rfl <| wi_exit rfl <| wi_seq <| wi_reg rfl <| ?_
    obtain rfl : i = xs.length := by omega
    have hnp : n = pairs k xs := hn
    refine lx_move (vr) rfl rfl <| lx_move (.int .i64 ((k : Nat) : Int)) rfl rfl <| lx_call [vr, .int .i64 ((k : Nat) : Int)] rfl rfl Try.call30 rfl (rcomb_spec h vr xs k hr_vr (by omega) (by omega)) (fun _ _ _ => trivial) ?_
    rintro _ h1 ⟨v1, rfl, ho1, hx1⟩
    have ho2 := ho1.base (Nat.le_refl h.size)
    refine lx_move (.tuple #[v1, .int .i64 (((combF k xs).2 : Nat) : Int)]) rfl rfl <| lx_extract (v1) rfl rfl rfl <| lx_extract (.int .i64 (((combF k xs).2 : Nat) : Int)) rfl rfl rfl <| lx_assign (v1) rfl rfl <| lx_assign (.int .i64 (((combF k xs).2 : Nat) : Int)) rfl rfl <| lx_nil <| wi_seq <| wi_block <| ?_
    refine wi_loop (σ := Value × Nat × (List Int) × Nat) (rngB 50 58 [9, 10]) (fun (ss : Value × Nat × (List Int) × Nat) => [(9, ss.1), (10, .int .i64 ((ss.2.1 : Nat) : Int))]) (fun (ss : Value × Nat × (List Int) × Nat) (hh : Heap) => OwE encI hh h.size 2 ss.1 ss.2.2.1 ∧ Ext h.size h hh ∧ (GS k ss.2.2.2 xs ss.2.2.1) ∧ (ss.2.1 = 0 → SortedBy k ss.2.2.1)) (fun (ss : Value × Nat × (List Int) × Nat) => pairs k ss.2.2.1 + min ss.2.1 1) (v1, (combF k xs).2, (combF k xs).1, (combF k xs).2) ⟨rfl, rfl, trivial⟩ ⟨?_, hx1, ?_, ?_⟩ ?_
    · first | exact ho2 | (simpa using ho2)
    · try dsimp only
      exact combF_GS k xs
    · try dsimp only
      intro h0
      rw [(combF_none h0).1]; exact (combF_none h0).2
    rintro g3 ⟨v, many, ys, q⟩ hh3 ⟨ho3, hx0_1, hgs, hmany⟩ IH3
    dsimp only at *
    have hly := GS_length hgs
    refine wi_seq <| wi_seq <| wi_reg rfl <| lx_move (.int .i64 ((many : Nat) : Int)) rfl rfl <| lx_gtrS rfl rfl rfl (fun c5 => ?_) (fun c5 => ?_)
    · refine lx_nil <| wi_true rfl <| wi_skip <| wi_block <| wi_reg rfl <| lx_move (v) rfl rfl <| lx_move (.int .i64 ((k : Nat) : Int)) rfl rfl <| lx_call [v, .int .i64 ((k : Nat) : Int)] rfl rfl Try.call30 rfl (rcomb_spec hh3 v ys k ho3.rd (by omega) (by omega)) (fun _ _ _ => trivial) ?_
      rintro _ h2 ⟨v2, rfl, ho4, hx2⟩
      have hx0_2 := hx0_1.trans2 hx2 hx0_1.size
      have ho5 := ho3.extS hx2
      have ho6 := ho4.base hx0_1.size
      refine lx_move (.tuple #[v2, .int .i64 (((combF k ys).2 : Nat) : Int)]) rfl rfl <| lx_extract (v2) rfl rfl rfl <| lx_extract (.int .i64 (((combF k ys).2 : Nat) : Int)) rfl rfl rfl <| lx_assign (v2) rfl rfl <| lx_assign (.int .i64 (((combF k ys).2 : Nat) : Int)) rfl rfl <| lx_nil <| wi_inBlock <| ?_
      -- L4.1
      refine IH3 _ _ (v2, (combF k ys).2, (combF k ys).1, q + (combF k ys).2) (agree_ups rfl agree_self) ⟨rfl, rfl, trivial⟩ ⟨?_, hx0_2, ?_, ?_⟩ ?_
      · first | exact ho6 | (simpa using ho6)
      · try dsimp only
        exact GS_trans hgs (combF_GS k ys)
      · try dsimp only
        intro h0
        rw [(combF_none h0).1]; exact (combF_none h0).2
      · have hpp := GS_pairs hp2 (combF_GS k ys)
        first | omega | (dsimp only; omega)
    · refine lx_nil <| wi_false rfl <| wi_exit rfl <| wi_seq <| wi_reg rfl <| lx_move (v) rfl rfl <| lx_move (.int .i64 ((n : Nat) : Int)) rfl rfl <| lx_assign (v) rfl rfl <| lx_assign (.int .i64 ((n : Nat) : Int)) rfl rfl <| lx_nil <| ?_
      -- R1
      refine wi_ret ⟨.tuple #[v, .int .i64 ((n : Nat) : Int)], (res_two rfl rfl rfl), ⟨v, ys, q, ?_, ho3, ?_, ?_, ?_, hx0_1⟩⟩
      · rw [hnp]
      · exact hgs
      · exact hmany (by omega)
      · have hpp := GS_count hp2 hgs (hmany (by omega))
        exact ⟨hpp, by omega⟩

end Go.Proofs.Ytjfickfgpkejpaa
