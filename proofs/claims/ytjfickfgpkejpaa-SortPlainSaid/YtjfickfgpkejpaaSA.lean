/-
  Walks: the small functions.
-/
import Derived.Test.YtjfickfgpkejpaaSTypes
import Derived.Test.YtjfickfgpkejpaaXPlain
set_option linter.unusedSimpArgs false
set_option linter.unusedVariables false
namespace Go.Proofs.Ytjfickfgpkejpaa
open Go Go.X

set_option maxRecDepth 10000 in
theorem gcd_spec (h : Heap) (a : Nat) (b : Nat) (hp1 : a ≤ 9223372036854775807) (hp2 : b ≤ 9223372036854775807) : Fx Try.prog 13 [.int .i64 ((a : Nat) : Int), .int .i64 ((b : Nat) : Int)] h (fun v h' => v = .int .i64 ((Nat.gcd a b : Nat) : Int) ∧ h = h') := by
  refine fx_intro (n := 12) [(0, .int .i64 ((a : Nat) : Int)), (1, .int .i64 ((b : Nat) : Int))] Try.func13 rfl rfl (by simp) ⟨rfl, rfl, trivial⟩ fun g0 => ?_
  refine wi_seq <| wi_reg rfl <| lx_assign (.int .i64 0) rfl rfl <| lx_nil <| wi_seq <| wi_block <| ?_
  refine wi_loop (σ := Nat × Nat) (rngB 5 11 [0, 1]) (fun (ss : Nat × Nat) => [(0, .int .i64 ((ss.1 : Nat) : Int)), (1, .int .i64 ((ss.2 : Nat) : Int))]) (fun (ss : Nat × Nat) (hh : Heap) => (ss.1 ≤ 9223372036854775807) ∧ (ss.2 ≤ 9223372036854775807) ∧ (Nat.gcd ss.1 ss.2 = Nat.gcd a b) ∧ h = hh) (fun (ss : Nat × Nat) => ss.2) (a, b) ⟨rfl, rfl, trivial⟩ ⟨?_, ?_, ?_, rfl⟩ ?_
  · try dsimp only
    omega
  · try dsimp only
    omega
  · try dsimp only
    skip
  rintro g1 ⟨p, q⟩ hh1 ⟨hp, hq, hg, rfl⟩ IH1
  dsimp only at *
  refine wi_seq <| wi_seq <| wi_reg rfl <| lx_move (.int .i64 ((q : Nat) : Int)) rfl rfl <| lx_gtrS rfl rfl rfl (fun c1 => ?_) (fun c1 => ?_)
  · refine lx_nil <| wi_true rfl <| wi_skip <| wi_block <| wi_draw mo rfl (by decide +kernel) <| lx_move (.int .i64 ((q : Nat) : Int)) rfl rfl <| lx_move (.int .i64 ((p : Nat) : Int)) rfl rfl <| lx_move (.int .i64 ((q : Nat) : Int)) rfl rfl <| lx_rem (m := p) (n := q) rfl rfl rfl (by omega) <| lx_assign (.int .i64 ((q : Nat) : Int)) rfl rfl <| lx_assign (.int .i64 ((p % q : Nat) : Int)) rfl rfl <| lx_nil <| wi_inBlock <| ?_
    have hm := Nat.mod_lt p (show 0 < q by omega)
    -- L0.1
    refine IH1 _ _ (q, p % q) (agree_ups rfl agree_self) ⟨rfl, rfl, trivial⟩ ⟨?_, ?_, ?_, rfl⟩ ?_
    · try dsimp only
      omega
    · try dsimp only
      omega
    · try dsimp only
      rw [← hg, Nat.gcd_comm p q, Nat.gcd_rec q p, Nat.gcd_comm]
    · first | omega | (dsimp only; omega)
  · refine lx_nil <| wi_false rfl <| wi_exit rfl <| wi_seq <| wi_reg rfl <| lx_move (.int .i64 ((p : Nat) : Int)) rfl rfl <| lx_assign (.int .i64 ((p : Nat) : Int)) rfl rfl <| lx_nil <| ?_
    -- R1
    refine wi_ret ⟨.int .i64 ((p : Nat) : Int), (res_one rfl rfl), ⟨?_, rfl⟩⟩
    · have : q = 0 := by omega
      subst this
      rw [← hg, Nat.gcd_zero_right]

set_option maxRecDepth 10000 in
theorem ints_spec (h : Heap) (va : Value) (xs : List Int) (vb : Value) (ys : List Int) (hr_va : RdE encI h va xs) (hr_vb : RdE encI h vb ys) (hp1 : xs.length ≤ 4611686018427387904) (hp2 : ys.length ≤ 4611686018427387904) : Fx Try.prog 27 [va, vb] h (fun v h' => v = .bool (decide (xs = ys)) ∧ h = h') := by
  refine fx_intro (n := 26) [(0, va), (1, vb)] Try.func27 rfl rfl (by simp) ⟨rfl, rfl, trivial⟩ fun g0 => ?_
  refine wi_seq <| wi_reg rfl <| lx_assign (.bool false) rfl rfl <| lx_nil <| wi_seq <| wi_seq <| wi_reg rfl <| lx_move (va) rfl rfl <| lx_len rfl Try.underlying35 hr_va rfl <| lx_move (vb) rfl rfl <| lx_len rfl Try.underlying35 hr_vb rfl <| lx_neqS rfl rfl rfl (fun c1 => ?_) (fun c1 => ?_)
  · refine lx_nil <| wi_true rfl <| wi_seq <| wi_reg rfl <| lx_assign (.bool false) rfl rfl <| lx_nil <| ?_
    -- R1
    refine wi_ret ⟨.bool false, (res_one rfl rfl), ⟨?_, rfl⟩⟩
    · have e : xs ≠ ys := by intro e; rw [e] at c1; exact c1 rfl
      simp [e]
  · refine lx_nil <| wi_false rfl <| wi_skip <| wi_seq <| wi_seq <| wi_reg rfl <| lx_assign (.int .i64 0) rfl rfl <| lx_nil <| wi_block <| ?_
    refine wi_loop (σ := Nat) (rngB 11 26 [4, 5]) (fun (i : Nat) => [(5, .int .i64 ((i : Nat) : Int))]) (fun (i : Nat) (hh : Heap) => (i ≤ xs.length) ∧ (∀ j, j < i → gt xs j = gt ys j) ∧ h = hh) (fun (i : Nat) => xs.length - i) 0 ⟨rfl, trivial⟩ ⟨?_, ?_, rfl⟩ ?_
    · try dsimp only
      omega
    · try dsimp only
      intro j hj; omega
    rintro g1 i hh1 ⟨hi, he, rfl⟩ IH1
    refine wi_seq <| wi_seq <| wi_reg rfl <| lx_move (.int .i64 ((i : Nat) : Int)) rfl rfl <| lx_move (va) rfl rfl <| lx_len rfl Try.underlying35 hr_va rfl <| lx_lssS rfl rfl rfl (fun c2 => ?_) (fun c2 => ?_)
    · refine lx_nil <| wi_true rfl <| wi_skip <| wi_seq <| wi_block <| wi_seq <| wi_draw mo rfl (by decide +kernel) <| lx_move (va) rfl rfl <| lx_move (.int .i64 ((i : Nat) : Int)) rfl rfl <| lx_ix (i := i) rfl eT35 hr_va rfl rfl (by first | omega | (simp only [List.length_set, List.length_append, List.length_cons, List.length_nil, List.length_replicate, List.length_take, swp_length, exch_length]; omega)) <| lx_ld (i := i) (j := 0) (.int .i64 (gt xs i)) rfl rfl fl3 hr_va (by first | omega | (simp only [List.length_set, List.length_append, List.length_cons, List.length_nil, List.length_replicate, List.length_take, swp_length, exch_length]; omega)) rfl rfl <| lx_move (vb) rfl rfl <| lx_move (.int .i64 ((i : Nat) : Int)) rfl rfl <| lx_ix (i := i) rfl eT35 hr_vb rfl rfl (by first | omega | (simp only [List.length_set, List.length_append, List.length_cons, List.length_nil, List.length_replicate, List.length_take, swp_length, exch_length]; omega)) <| lx_ld (i := i) (j := 0) (.int .i64 (gt ys i)) rfl rfl fl3 hr_vb (by first | omega | (simp only [List.length_set, List.length_append, List.length_cons, List.length_nil, List.length_replicate, List.length_take, swp_length, exch_length]; omega)) rfl rfl <| lx_neqS rfl rfl rfl (fun c3 => ?_) (fun c3 => ?_)
      · refine lx_nil <| wi_true rfl <| wi_seq <| wi_reg rfl <| lx_assign (.bool false) rfl rfl <| lx_nil <| ?_
        -- R2
        refine wi_ret ⟨.bool false, (res_one rfl rfl), ⟨?_, rfl⟩⟩
        · have e : xs ≠ ys := by intro e; rw [e] at c3; exact c3 rfl
          simp [e]
      · refine lx_nil <| wi_false rfl <| wi_skip <| wi_inBlock <| wi_reg rfl <| lx_move (.int .i64 ((i : Nat) : Int)) rfl rfl <| lx_add (((i + 1 : Nat) : Int)) rfl rfl rfl (by omega) (by omega) (by omega) <| lx_assign (.int .i64 ((i + 1 : Nat) : Int)) rfl rfl <| lx_nil <| ?_
        -- L0.1
        refine IH1 _ _ (i + 1) (agree_ups rfl agree_self) ⟨rfl, trivial⟩ ⟨?_, ?_, rfl⟩ ?_
        · try dsimp only
          omega
        · try dsimp only
          intro j hj; by_cases hji : j = i
          · subst hji; simpa using c3
          · exact he j (by omega)
        · first | omega | (dsimp only; omega)
    · refine lx_nil <| wi_false rfl <| wi_exit rfl <| wi_seq <| wi_reg rfl <| lx_assign (.bool true) rfl rfl <| lx_nil <| ?_
      -- R3
      refine wi_ret ⟨.bool true, (res_one rfl rfl), ⟨?_, rfl⟩⟩
      · have e : xs = ys := gt_ext (by omega) (fun j hj => he j (by omega))
        simp [e]

set_option maxRecDepth 10000 in
theorem longs_spec (h : Heap) (va : Value) (xs : List Int) (vb : Value) (ys : List Int) (hr_va : RdE encI h va xs) (hr_vb : RdE encI h vb ys) (hp1 : xs.length ≤ 4611686018427387904) (hp2 : ys.length ≤ 4611686018427387904) : Fx Try.prog 32 [va, vb] h (fun v h' => v = .bool (decide (xs = ys)) ∧ h = h') := by
  refine fx_intro (n := 26) [(0, va), (1, vb)] Try.func32 rfl rfl (by simp) ⟨rfl, rfl, trivial⟩ fun g0 => ?_
  refine wi_seq <| wi_reg rfl <| lx_assign (.bool false) rfl rfl <| lx_nil <| wi_seq <| wi_seq <| wi_reg rfl <| lx_move (va) rfl rfl <| lx_len rfl Try.underlying29 hr_va rfl <| lx_move (vb) rfl rfl <| lx_len rfl Try.underlying29 hr_vb rfl <| lx_neqS rfl rfl rfl (fun c1 => ?_) (fun c1 => ?_)
  · refine lx_nil <| wi_true rfl <| wi_seq <| wi_reg rfl <| lx_assign (.bool false) rfl rfl <| lx_nil <| ?_
    -- R1
    refine wi_ret ⟨.bool false, (res_one rfl rfl), ⟨?_, rfl⟩⟩
    · have e : xs ≠ ys := by intro e; rw [e] at c1; exact c1 rfl
      simp [e]
  · refine lx_nil <| wi_false rfl <| wi_skip <| wi_seq <| wi_seq <| wi_reg rfl <| lx_assign (.int .i64 0) rfl rfl <| lx_nil <| wi_block <| ?_
    refine wi_loop (σ := Nat) (rngB 11 26 [4, 5]) (fun (i : Nat) => [(5, .int .i64 ((i : Nat) : Int))]) (fun (i : Nat) (hh : Heap) => (i ≤ xs.length) ∧ (∀ j, j < i → gt xs j = gt ys j) ∧ h = hh) (fun (i : Nat) => xs.length - i) 0 ⟨rfl, trivial⟩ ⟨?_, ?_, rfl⟩ ?_
    · try dsimp only
      omega
    · try dsimp only
      intro j hj; omega
    rintro g1 i hh1 ⟨hi, he, rfl⟩ IH1
    refine wi_seq <| wi_seq <| wi_reg rfl <| lx_move (.int .i64 ((i : Nat) : Int)) rfl rfl <| lx_move (va) rfl rfl <| lx_len rfl Try.underlying29 hr_va rfl <| lx_lssS rfl rfl rfl (fun c2 => ?_) (fun c2 => ?_)
    · refine lx_nil <| wi_true rfl <| wi_skip <| wi_seq <| wi_block <| wi_seq <| wi_draw mo rfl (by decide +kernel) <| lx_move (va) rfl rfl <| lx_move (.int .i64 ((i : Nat) : Int)) rfl rfl <| lx_ix (i := i) rfl eT29 hr_va rfl rfl (by first | omega | (simp only [List.length_set, List.length_append, List.length_cons, List.length_nil, List.length_replicate, List.length_take, swp_length, exch_length]; omega)) <| lx_ld (i := i) (j := 0) (.int .i64 (gt xs i)) rfl rfl fl2 hr_va (by first | omega | (simp only [List.length_set, List.length_append, List.length_cons, List.length_nil, List.length_replicate, List.length_take, swp_length, exch_length]; omega)) rfl rfl <| lx_move (vb) rfl rfl <| lx_move (.int .i64 ((i : Nat) : Int)) rfl rfl <| lx_ix (i := i) rfl eT29 hr_vb rfl rfl (by first | omega | (simp only [List.length_set, List.length_append, List.length_cons, List.length_nil, List.length_replicate, List.length_take, swp_length, exch_length]; omega)) <| lx_ld (i := i) (j := 0) (.int .i64 (gt ys i)) rfl rfl fl2 hr_vb (by first | omega | (simp only [List.length_set, List.length_append, List.length_cons, List.length_nil, List.length_replicate, List.length_take, swp_length, exch_length]; omega)) rfl rfl <| lx_neqS rfl rfl rfl (fun c3 => ?_) (fun c3 => ?_)
      · refine lx_nil <| wi_true rfl <| wi_seq <| wi_reg rfl <| lx_assign (.bool false) rfl rfl <| lx_nil <| ?_
        -- R2
        refine wi_ret ⟨.bool false, (res_one rfl rfl), ⟨?_, rfl⟩⟩
        · have e : xs ≠ ys := by intro e; rw [e] at c3; exact c3 rfl
          simp [e]
      · refine lx_nil <| wi_false rfl <| wi_skip <| wi_inBlock <| wi_reg rfl <| lx_move (.int .i64 ((i : Nat) : Int)) rfl rfl <| lx_add (((i + 1 : Nat) : Int)) rfl rfl rfl (by omega) (by omega) (by omega) <| lx_assign (.int .i64 ((i + 1 : Nat) : Int)) rfl rfl <| lx_nil <| ?_
        -- L0.1
        refine IH1 _ _ (i + 1) (agree_ups rfl agree_self) ⟨rfl, trivial⟩ ⟨?_, ?_, rfl⟩ ?_
        · try dsimp only
          omega
        · try dsimp only
          intro j hj; by_cases hji : j = i
          · subst hji; simpa using c3
          · exact he j (by omega)
        · first | omega | (dsimp only; omega)
    · refine lx_nil <| wi_false rfl <| wi_exit rfl <| wi_seq <| wi_reg rfl <| lx_assign (.bool true) rfl rfl <| lx_nil <| ?_
      -- R3
      refine wi_ret ⟨.bool true, (res_one rfl rfl), ⟨?_, rfl⟩⟩
      · have e : xs = ys := gt_ext (by omega) (fun j hj => he j (by omega))
        simp [e]

/-- What checkRow answers. -/
def chkRow (xs gs : List Int) : Int := if 200 < xs.length ∨ 20 < gs.length then 2 else if gs.any (fun x => decide (x < 1)) then 1 else 0

set_option maxRecDepth 10000 in
theorem checkRow1_spec (h : Heap) (x : Int) : Fx Try.prog 63 [.int .i64 x] h (fun v h' => v = .bool (decide (x < (1 : Int))) ∧ h = h') := by
  refine fx_intro (n := 5) [(0, .int .i64 x)] Try.func63 rfl rfl (by simp) ⟨rfl, trivial⟩ fun g0 => ?_
  refine wi_seq <| wi_reg rfl <| lx_assign (.bool false) rfl rfl <| lx_nil <| wi_seq <| wi_reg rfl <| lx_move (.int .i64 x) rfl rfl <| lx_lss rfl rfl rfl <| lx_assign (.bool (decide (x < (1 : Int)))) rfl rfl <| lx_nil <| ?_
  -- R1
  refine wi_ret ⟨.bool (decide (x < (1 : Int))), (res_one rfl rfl), ⟨rfl, rfl⟩⟩

set_option maxRecDepth 10000 in
theorem indexFunc_spec (h : Heap) (vs : Value) (xs : List Int) (hr_vs : RdE encI h vs xs) (hp1 : xs.length ≤ 4611686018427387904) : Fx Try.prog 67 [vs, .func (.func 63) #[] #[]] h (fun v h' => ∃ (r : Int), v = .int .i64 r ∧ ((r = -1 ∧ ∀ j, j < xs.length → ¬ gt xs j < 1) ∨ (0 ≤ r ∧ ∃ j, j < xs.length ∧ gt xs j < 1)) ∧ h = h') := by
  refine fx_intro (n := 19) [(0, vs), (1, .func (.func 63) #[] #[])] Try.func67 rfl rfl (by simp) ⟨rfl, rfl, trivial⟩ fun g0 => ?_
  refine wi_seq <| wi_reg rfl <| lx_assign (.int .i64 0) rfl rfl <| lx_nil <| wi_seq <| wi_seq <| wi_reg rfl <| lx_move (vs) rfl rfl <| lx_len rfl Try.underlying35 hr_vs rfl <| lx_move (.int .i64 0) rfl rfl <| lx_nil <| wi_block <| ?_
  refine wi_loop (σ := Nat) (rngB 8 19 [4, 5]) (fun (i : Nat) => [(8, .int .i64 ((i : Nat) : Int))]) (fun (i : Nat) (hh : Heap) => (i ≤ xs.length) ∧ (∀ j, j < i → ¬ gt xs j < 1) ∧ h = hh) (fun (i : Nat) => xs.length - i) 0 ⟨rfl, trivial⟩ ⟨?_, ?_, rfl⟩ ?_
  · try dsimp only
    omega
  · try dsimp only
    intro j hj; omega
  rintro g1 i hh1 ⟨hi, he, rfl⟩ IH1
  refine wi_seq <| wi_reg rfl <| lx_lssS rfl rfl rfl (fun c1 => ?_) (fun c1 => ?_)
  · refine lx_nil <| wi_seq <| wi_true rfl <| wi_skip <| wi_seq <| wi_block <| wi_seq <| wi_reg rfl <| lx_move (.int .i64 ((i : Nat) : Int)) rfl rfl <| lx_assign (.int .i64 ((i : Nat) : Int)) rfl rfl <| lx_nil <| wi_seq <| wi_reg rfl <| lx_move (.func (.func 63) #[] #[]) rfl rfl <| lx_move (vs) rfl rfl <| lx_move (.int .i64 ((i : Nat) : Int)) rfl rfl <| lx_ix (i := i) rfl eT35 hr_vs rfl rfl (by first | omega | (simp only [List.length_set, List.length_append, List.length_cons, List.length_nil, List.length_replicate, List.length_take, swp_length, exch_length]; omega)) <| lx_ld (i := i) (j := 0) (.int .i64 (gt xs i)) rfl rfl fl3 hr_vs (by first | omega | (simp only [List.length_set, List.length_append, List.length_cons, List.length_nil, List.length_replicate, List.length_take, swp_length, exch_length]; omega)) rfl rfl <| lx_callV [] [] [.int .i64 (gt xs i)] rfl rfl Try.call63 rfl rfl (checkRow1_spec h (gt xs i) ) (fun _ _ _ => trivial) ?_
    rintro _ h1 ⟨rfl, rfl⟩
    refine lx_nil <| wi_condS (t := decide ((gt xs i) < (1 : Int))) rfl (fun c2 => ?_) (fun c2 => ?_)
    · refine wi_seq <| wi_reg rfl <| lx_move (.int .i64 ((i : Nat) : Int)) rfl rfl <| lx_assign (.int .i64 ((i : Nat) : Int)) rfl rfl <| lx_nil <| ?_
      -- R1
      refine wi_ret ⟨.int .i64 ((i : Nat) : Int), (res_one rfl rfl), ⟨((i : Nat) : Int), ?_, ?_, rfl⟩⟩
      · first | rfl | (simp; done) | (simp; omega)
      · exact .inr ⟨by omega, i, by omega, of_decide_eq_true c2⟩
    · refine wi_skip <| wi_inBlock <| wi_reg rfl <| lx_add (((i + 1 : Nat) : Int)) rfl rfl rfl (by omega) (by omega) (by omega) <| lx_move (.int .i64 ((i + 1 : Nat) : Int)) rfl rfl <| lx_nil <| ?_
      -- L0.1
      refine IH1 _ _ (i + 1) (agree_ups rfl agree_self) ⟨rfl, trivial⟩ ⟨?_, ?_, rfl⟩ ?_
      · try dsimp only
        omega
      · try dsimp only
        intro j hj; by_cases hji : j = i
        · subst hji; exact of_decide_eq_false c2
        · exact he j (by omega)
      · first | omega | (dsimp only; omega)
  · refine lx_nil <| wi_seq <| wi_false rfl <| wi_exit rfl <| wi_seq <| wi_reg rfl <| lx_assign (.int .i64 (-1)) rfl rfl <| lx_nil <| ?_
    -- R2
    refine wi_ret ⟨.int .i64 (-1), (res_one rfl rfl), ⟨(-1), ?_, ?_, rfl⟩⟩
    · first | rfl | (simp; done) | (simp; omega)
    · exact .inl ⟨rfl, fun j hj => he j (by omega)⟩

set_option maxRecDepth 10000 in
theorem containsFunc_spec (h : Heap) (vs : Value) (xs : List Int) (hr_vs : RdE encI h vs xs) (hp1 : xs.length ≤ 4611686018427387904) : Fx Try.prog 62 [vs, .func (.func 63) #[] #[]] h (fun v h' => v = .bool (xs.any (fun x => decide (x < 1))) ∧ h = h') := by
  refine fx_intro (n := 9) [(0, vs), (1, .func (.func 63) #[] #[])] Try.func62 rfl rfl (by simp) ⟨rfl, rfl, trivial⟩ fun g0 => ?_
  refine wi_seq <| wi_reg rfl <| lx_assign (.bool false) rfl rfl <| lx_nil <| wi_seq <| wi_reg rfl <| lx_move (vs) rfl rfl <| lx_move (.func (.func 63) #[] #[]) rfl rfl <| lx_call [vs, .func (.func 63) #[] #[]] rfl rfl Try.call67 rfl (indexFunc_spec h vs xs hr_vs (by omega)) (fun _ _ _ => trivial) ?_
  rintro _ h1 ⟨r_1, rfl, hr_1, rfl⟩
  refine lx_geq rfl rfl rfl <| lx_assign (.bool (decide ((0 : Int) ≤ r_1))) rfl rfl <| lx_nil <| ?_
  -- R1
  refine wi_ret ⟨.bool (decide ((0 : Int) ≤ r_1)), (res_one rfl rfl), ⟨?_, rfl⟩⟩
  · congr 1
    rcases hr_1 with ⟨h1, h2⟩ | ⟨h1, j, h2, h3⟩
    · rw [decide_eq_false (by omega)]
      symm
      rw [List.any_eq_false]
      intro x hx
      obtain ⟨j, hj, rfl⟩ := mem_gt hx
      simpa using h2 j hj
    · rw [decide_eq_true (by omega)]
      symm
      rw [List.any_eq_true]
      exact ⟨_, gt_mem h2, by simpa using h3⟩

set_option maxRecDepth 10000 in
theorem checkRow_spec (h : Heap) (vr : Value) (xs : List Int) (vg : Value) (gs : List Int) (hr_vr : RdE encI h vr xs) (hr_vg : RdE encI h vg gs) (hp1 : xs.length ≤ 4611686018427387904) (hp2 : gs.length ≤ 4611686018427387904) : Fx Try.prog 46 [vr, vg] h (fun v h' => v = .int .i64 (chkRow xs gs) ∧ h = h') := by
  refine fx_intro (n := 15) [(0, vr), (1, vg)] Try.func46 rfl rfl (by simp) ⟨rfl, rfl, trivial⟩ fun g0 => ?_
  refine wi_seq <| wi_reg rfl <| lx_assign (.int .i64 0) rfl rfl <| lx_nil <| wi_seq <| wi_seq <| wi_reg rfl <| lx_move (vr) rfl rfl <| lx_len rfl Try.underlying29 hr_vr rfl <| lx_gtrS rfl rfl rfl (fun c1 => ?_) (fun c1 => ?_)
  · refine lx_move (.bool true) rfl rfl <| lx_skip rfl <| lx_skip rfl <| lx_skip rfl <| lx_pick true (.bool true) rfl rfl rfl <| lx_nil <| wi_true rfl <| wi_seq <| wi_reg rfl <| lx_assign (.int .i64 2) rfl rfl <| lx_nil <| ?_
    -- R1
    refine wi_ret ⟨.int .i64 2, (res_one rfl rfl), ⟨?_, rfl⟩⟩
    · unfold chkRow; first | rw [if_pos (by omega)] | (rw [if_neg (by omega)]; simp only [*]; rfl)
  · refine lx_move (.bool false) rfl rfl <| lx_move (vg) rfl rfl <| lx_len rfl Try.underlying35 hr_vg rfl <| lx_gtrS rfl rfl rfl (fun c2 => ?_) (fun c2 => ?_)
    · refine lx_pick false (.bool true) rfl rfl rfl <| lx_nil <| wi_true rfl <| wi_seq <| wi_reg rfl <| lx_assign (.int .i64 2) rfl rfl <| lx_nil <| ?_
      -- R2
      refine wi_ret ⟨.int .i64 2, (res_one rfl rfl), ⟨?_, rfl⟩⟩
      · unfold chkRow; first | rw [if_pos (by omega)] | (rw [if_neg (by omega)]; simp only [*]; rfl)
    · refine lx_pick false (.bool false) rfl rfl rfl <| lx_nil <| wi_false rfl <| wi_skip <| wi_seq <| wi_seq <| wi_reg rfl <| lx_move (vg) rfl rfl <| lx_call [vg, .func (.func 63) #[] #[]] rfl rfl Try.call62 rfl (containsFunc_spec h vg gs hr_vg (by omega)) (fun _ _ _ => trivial) ?_
      rintro _ h1 ⟨rfl, rfl⟩
      refine lx_nil <| wi_condS (t := gs.any (fun x => decide (x < 1))) rfl (fun c3 => ?_) (fun c3 => ?_)
      · refine wi_seq <| wi_reg rfl <| lx_assign (.int .i64 1) rfl rfl <| lx_nil <| ?_
        -- R3
        refine wi_ret ⟨.int .i64 1, (res_one rfl rfl), ⟨?_, rfl⟩⟩
        · unfold chkRow; first | rw [if_pos (by omega)] | (rw [if_neg (by omega)]; simp only [*]; rfl)
      · refine wi_skip <| wi_seq <| wi_reg rfl <| lx_assign (.int .i64 0) rfl rfl <| lx_nil <| ?_
        -- R4
        refine wi_ret ⟨.int .i64 0, (res_one rfl rfl), ⟨?_, rfl⟩⟩
        · unfold chkRow; first | rw [if_pos (by omega)] | (rw [if_neg (by omega)]; simp only [*]; rfl)

set_option maxRecDepth 10000 in
theorem clone_spec (h : Heap) (vs : Value) (xs : List Int) (hr_vs : RdE encI h vs xs) (hp1 : xs.length ≤ 1000000) : Fx Try.prog 47 [vs] h (fun v h' => ∃ (s : Value), v = s ∧ OwE encI h' h.size 2 s xs ∧ Ext h.size h h') := by
  refine fx_intro (n := 8) [(0, vs)] Try.func47 rfl rfl (by simp) ⟨rfl, trivial⟩ fun g0 => ?_
  refine wi_seq <| wi_reg rfl <| lx_assign (.slice none 0 0) rfl rfl <| lx_nil <| wi_seq <| wi_seq <| wi_reg rfl <| lx_move (vs) rfl rfl <| lx_eqlNilS hr_vs rfl Try.underlying29 rfl rfl (fun c1 => ?_) (fun c1 => ?_)
  · refine lx_nil <| wi_true rfl <| wi_seq <| wi_reg rfl <| lx_assign (.slice none 0 0) rfl rfl <| lx_nil <| ?_
    -- R1
    refine wi_ret ⟨.slice none 0 0, (res_one rfl rfl), ⟨.slice none 0 0, rfl, ?_, (Ext.refl _ _)⟩⟩
    · rw [c1]; exact (owE_nil encI _ h.size 2)
  · refine lx_nil <| wi_false rfl <| wi_skip <| wi_seq <| wi_reg rfl <| lx_buildSlice (E := encI) h.size [] [] rfl rfl eT29 rfl rfl rfl rfl (Nat.le_refl _) (fun _ _ _ => trivial) fun v1 h1 ho1 hx1 hvb1 hsz1 => ?_
    have ho2 := ho1.base (Nat.le_refl h.size)
    refine lx_move (vs) rfl rfl <| lx_append (E := encI) (B := h.size) (xs := []) (ys := xs) rfl rfl eT29 ho2 (hr_vs.extS hx1) rfl rfl (by first | omega | (simp only [List.length_nil, List.length_take]; omega)) (by first | omega | (simp only [List.length_nil, List.length_take]; omega)) hx1.size (fun _ _ => trivial) fun v2 h2 ho3 hc1 hg1 => ?_
    have hx0_1 := hx1.trans (ho2.ext hc1 hx1.size)
    rw [List.nil_append] at ho3
    refine lx_assign (v2) rfl rfl <| lx_nil <| ?_
    -- R2
    refine wi_ret ⟨v2, (res_one rfl rfl), ⟨v2, rfl, ho3, hx0_1⟩⟩

set_option maxRecDepth 10000 in
theorem exchange_spec (h : Heap) (B : Nat) (vl : Value) (xs : List Int) (i : Nat) (j : Nat) (ho_vl : OwE encI h B 2 vl xs) (hB : B ≤ h.size) (hp1 : i < xs.length) (hp2 : j < xs.length) (hp3 : xs.length ≤ 1000000) : Fx Try.prog 51 [vl, .int .i64 ((i : Nat) : Int), .int .i64 ((j : Nat) : Int)] h (fun v h' => v = .bool (decide (gt xs j < gt xs i)) ∧ OwE encI h' B 2 vl (exch xs i j) ∧ Chg vl h h') := by
  refine fx_intro (n := 30) [(0, vl), (1, .int .i64 ((i : Nat) : Int)), (2, .int .i64 ((j : Nat) : Int))] Try.func51 rfl rfl (by simp) ⟨rfl, rfl, rfl, trivial⟩ fun g0 => ?_
  refine wi_seq <| wi_reg rfl <| lx_assign (.bool false) rfl rfl <| lx_nil <| wi_seq <| wi_seq <| wi_draw mo rfl (by decide +kernel) <| lx_move (vl) rfl rfl <| lx_move (.int .i64 ((i : Nat) : Int)) rfl rfl <| lx_ix (i := i) rfl eT29 ho_vl.rd rfl rfl (by first | omega | (simp only [List.length_set, List.length_append, List.length_cons, List.length_nil, List.length_replicate, List.length_take, swp_length, exch_length]; omega)) <| lx_ld (i := i) (j := 0) (.int .i64 (gt xs i)) rfl rfl fl2 ho_vl.rd (by first | omega | (simp only [List.length_set, List.length_append, List.length_cons, List.length_nil, List.length_replicate, List.length_take, swp_length, exch_length]; omega)) rfl rfl <| lx_move (vl) rfl rfl <| lx_move (.int .i64 ((j : Nat) : Int)) rfl rfl <| lx_ix (i := j) rfl eT29 ho_vl.rd rfl rfl (by first | omega | (simp only [List.length_set, List.length_append, List.length_cons, List.length_nil, List.length_replicate, List.length_take, swp_length, exch_length]; omega)) <| lx_ld (i := j) (j := 0) (.int .i64 (gt xs j)) rfl rfl fl2 ho_vl.rd (by first | omega | (simp only [List.length_set, List.length_append, List.length_cons, List.length_nil, List.length_replicate, List.length_take, swp_length, exch_length]; omega)) rfl rfl <| lx_leqS rfl rfl rfl (fun c1 => ?_) (fun c1 => ?_)
  · refine lx_nil <| wi_true rfl <| wi_seq <| wi_reg rfl <| lx_assign (.bool false) rfl rfl <| lx_nil <| ?_
    -- R1
    refine wi_ret ⟨.bool false, (res_one rfl rfl), ⟨?_, ?_, (Chg.refl _ _)⟩⟩
    · rw [decide_eq_false (by omega)]
    · have e : exch xs i j = xs := by unfold exch; rw [if_neg (by omega)]
      rw [e]; exact ho_vl
  · refine lx_nil <| wi_false rfl <| wi_skip <| wi_seq <| wi_draw mo rfl (by decide +kernel) <| lx_move (vl) rfl rfl <| lx_move (.int .i64 ((i : Nat) : Int)) rfl rfl <| lx_move (vl) rfl rfl <| lx_move (.int .i64 ((j : Nat) : Int)) rfl rfl <| lx_move (vl) rfl rfl <| lx_move (.int .i64 ((j : Nat) : Int)) rfl rfl <| lx_ix (i := j) rfl eT29 ho_vl.rd rfl rfl (by first | omega | (simp only [List.length_set, List.length_append, List.length_cons, List.length_nil, List.length_replicate, List.length_take, swp_length, exch_length]; omega)) <| lx_ld (i := j) (j := 0) (.int .i64 (gt xs j)) rfl rfl fl2 ho_vl.rd (by first | omega | (simp only [List.length_set, List.length_append, List.length_cons, List.length_nil, List.length_replicate, List.length_take, swp_length, exch_length]; omega)) rfl rfl <| lx_move (vl) rfl rfl <| lx_move (.int .i64 ((i : Nat) : Int)) rfl rfl <| lx_ix (i := i) rfl eT29 ho_vl.rd rfl rfl (by first | omega | (simp only [List.length_set, List.length_append, List.length_cons, List.length_nil, List.length_replicate, List.length_take, swp_length, exch_length]; omega)) <| lx_ld (i := i) (j := 0) (.int .i64 (gt xs i)) rfl rfl fl2 ho_vl.rd (by first | omega | (simp only [List.length_set, List.length_append, List.length_cons, List.length_nil, List.length_replicate, List.length_take, swp_length, exch_length]; omega)) rfl rfl <| lx_ix (i := i) rfl eT29 ho_vl.rd rfl rfl (by first | omega | (simp only [List.length_set, List.length_append, List.length_cons, List.length_nil, List.length_replicate, List.length_take, swp_length, exch_length]; omega)) <| lx_st (i := i) (gt xs j) rfl rfl Try.sizeOf2 ho_vl (by first | omega | (simp only [List.length_set, List.length_append, List.length_cons, List.length_nil, List.length_replicate, List.length_take, swp_length, exch_length]; omega)) rfl rfl (fun _ _ _ _ _ => trivial) fun h1 ho1 hc1 hsz1 => ?_
    have hx0_1 := ho_vl.ext hc1 hB
    have hcc1 := hc1
    refine lx_ix (i := j) rfl eT29 ho1.rd rfl rfl (by first | omega | (simp only [List.length_set, List.length_append, List.length_cons, List.length_nil, List.length_replicate, List.length_take, swp_length, exch_length]; omega)) <| lx_st (i := j) (gt xs i) rfl rfl Try.sizeOf2 ho1 (by first | omega | (simp only [List.length_set, List.length_append, List.length_cons, List.length_nil, List.length_replicate, List.length_take, swp_length, exch_length]; omega)) rfl rfl (fun _ _ _ _ _ => trivial) fun h2 ho2 hc2 hsz2 => ?_
    have hx0_2 := hx0_1.trans (ho1.ext hc2 (Nat.le_trans hB hx0_1.size))
    have hcc2 := hcc1.trans hc2
    refine lx_nil <| wi_seq <| wi_reg rfl <| lx_assign (.bool true) rfl rfl <| lx_nil <| ?_
    -- R2
    refine wi_ret ⟨.bool true, (res_one rfl rfl), ⟨?_, ?_, hcc2⟩⟩
    · rw [decide_eq_true (by omega)]
    · have e : exch xs i j = (xs.set i (gt xs j)).set j (gt xs i) := by unfold exch; rw [if_pos (by omega)]; rfl
      rw [e]; exact ho2

set_option maxRecDepth 10000 in
theorem insert_spec (h : Heap) (B : Nat) (vl : Value) (xs : List Int) (k : Nat) (ho_vl : OwE encI h B 2 vl xs) (hB : B ≤ h.size) (hp1 : 1 ≤ k) (hp2 : k ≤ 9223372036854775807) (hp3 : xs.length ≤ 200) : Fx Try.prog 48 [vl, .int .i64 ((k : Nat) : Int)] h (fun v h' => ∃ (ys : List Int) (n : Nat), v = .int .i64 ((n : Nat) : Int) ∧ OwE encI h' B 2 vl ys ∧ (GS k n xs ys) ∧ (SortedBy k ys) ∧ (n ≤ 40000) ∧ Chg vl h h') := by
  refine fx_intro (n := 37) [(0, vl), (1, .int .i64 ((k : Nat) : Int))] Try.func48 rfl rfl (by simp) ⟨rfl, rfl, trivial⟩ fun g0 => ?_
  refine wi_seq <| wi_reg rfl <| lx_assign (.int .i64 0) rfl rfl <| lx_nil <| wi_seq <| wi_reg rfl <| lx_assign (.int .i64 0) rfl rfl <| lx_nil <| wi_seq <| wi_seq <| wi_reg rfl <| lx_move (.int .i64 ((k : Nat) : Int)) rfl rfl <| lx_move (vl) rfl rfl <| lx_len rfl Try.underlying29 ho_vl.rd rfl <| lx_geqS rfl rfl rfl (fun c1 => ?_) (fun c1 => ?_)
  · refine lx_nil <| wi_true rfl <| wi_seq <| wi_reg rfl <| lx_assign (.int .i64 0) rfl rfl <| lx_nil <| ?_
    -- R1
    refine wi_ret ⟨.int .i64 0, (res_one rfl rfl), ⟨xs, 0, ?_, ho_vl, ?_, ?_, ?_, (Chg.refl _ _)⟩⟩
    · first | rfl | (simp; done) | (simp; omega)
    · rfl
    · intro i hi; omega
    · omega
  · refine lx_nil <| wi_false rfl <| wi_skip <| wi_seq <| wi_seq <| wi_reg rfl <| lx_move (.int .i64 ((k : Nat) : Int)) rfl rfl <| lx_assign (.int .i64 ((k : Nat) : Int)) rfl rfl <| lx_nil <| wi_block <| ?_
    refine wi_loop (σ := Nat × Nat × (List Int)) (rngB 13 36 [5, 6, 7]) (fun (ss : Nat × Nat × (List Int)) => [(5, .int .i64 ((ss.2.1 : Nat) : Int)), (6, .int .i64 ((ss.1 : Nat) : Int))]) (fun (ss : Nat × Nat × (List Int)) (hh : Heap) => OwE encI hh B 2 vl ss.2.2 ∧ Ext B h hh ∧ Chg vl h hh ∧ (k ≤ ss.1) ∧ (ss.1 ≤ xs.length) ∧ (ss.2.1 ≤ 200 * ss.1) ∧ (GS k ss.2.1 xs ss.2.2) ∧ (∀ p, p + k < ss.1 → gt ss.2.2 p ≤ gt ss.2.2 (p + k))) (fun (ss : Nat × Nat × (List Int)) => xs.length - ss.1) (k, 0, xs) ⟨rfl, rfl, trivial⟩ ⟨?_, (Ext.refl _ _), (Chg.refl _ _), ?_, ?_, ?_, ?_, ?_⟩ ?_
    · first | exact ho_vl | (simpa using ho_vl)
    · try dsimp only
      omega
    · try dsimp only
      omega
    · try dsimp only
      omega
    · try dsimp only
      first | done | rfl
    · try dsimp only
      intro p hp; omega
    rintro g1 ⟨i, n, ys⟩ hh1 ⟨ho1, hx0_1, hcc1, hi1, hi2, hn, hgs, hpre⟩ IH1
    dsimp only at *
    have hly := GS_length hgs
    refine wi_seq <| wi_seq <| wi_reg rfl <| lx_move (.int .i64 ((i : Nat) : Int)) rfl rfl <| lx_move (vl) rfl rfl <| lx_len rfl Try.underlying29 ho1.rd rfl <| lx_lssS rfl rfl rfl (fun c2 => ?_) (fun c2 => ?_)
    · refine lx_nil <| wi_true rfl <| wi_skip <| wi_seq <| wi_block <| wi_seq <| wi_reg rfl <| lx_move (.int .i64 ((i : Nat) : Int)) rfl rfl <| lx_assign (.int .i64 ((i : Nat) : Int)) rfl rfl <| lx_nil <| wi_block <| ?_
      refine wi_loop (σ := Nat × Nat × (List Int)) (rngB 20 36 [5, 7]) (fun (ss : Nat × Nat × (List Int)) => [(5, .int .i64 ((ss.2.1 : Nat) : Int)), (7, .int .i64 ((ss.1 : Nat) : Int))]) (fun (ss : Nat × Nat × (List Int)) (hh : Heap) => OwE encI hh B 2 vl ss.2.2 ∧ Ext B h hh ∧ Chg vl h hh ∧ (ss.1 ≤ i) ∧ (ss.2.1 + ss.1 ≤ 200 * i + i) ∧ (GS k ss.2.1 xs ss.2.2) ∧ (InsAt k i ss.1 ss.2.2)) (fun (ss : Nat × Nat × (List Int)) => ss.1) (i, n, ys) ⟨rfl, rfl, trivial⟩ ⟨?_, hx0_1, hcc1, ?_, ?_, ?_, ?_⟩ ?_
      · first | exact ho1 | (simpa using ho1)
      · try dsimp only
        omega
      · try dsimp only
        omega
      · try dsimp only
        exact hgs
      · try dsimp only
        exact InsAt_start hpre hp1
      rintro g2 ⟨q, n2, zs⟩ hh2 ⟨ho2, hx0_2, hcc2, hq, hn2, hgs2, hins⟩ IH2
      dsimp only at *
      have hlz := GS_length hgs2
      refine wi_seq <| wi_seq <| wi_reg rfl <| lx_move (.int .i64 ((q : Nat) : Int)) rfl rfl <| lx_move (.int .i64 ((k : Nat) : Int)) rfl rfl <| lx_geqS rfl rfl rfl (fun c3 => ?_) (fun c3 => ?_)
      · refine lx_move (.bool true) rfl rfl <| lx_move (vl) rfl rfl <| lx_move (.int .i64 ((q : Nat) : Int)) rfl rfl <| lx_move (.int .i64 ((k : Nat) : Int)) rfl rfl <| lx_sub (((q - k : Nat) : Int)) rfl rfl rfl (by omega) (by omega) (by omega) <| lx_move (.int .i64 ((q : Nat) : Int)) rfl rfl <| lx_call [vl, .int .i64 ((q - k : Nat) : Int), .int .i64 ((q : Nat) : Int)] rfl rfl Try.call51 rfl (exchange_spec hh2 B vl zs (q - k) q ho2 (Nat.le_trans hB hx0_2.size) (by omega) (by omega) (by omega)) (fun _ _ _ => trivial) ?_
        rintro _ h1 ⟨rfl, ho3, hx1⟩
        have hx0_3 := hx0_2.trans (ho2.ext hx1 (Nat.le_trans hB hx0_2.size))
        have hcc3 := hcc2.trans hx1
        refine lx_pick true (.bool (decide (gt zs q < gt zs (q - k)))) rfl rfl rfl <| lx_nil <| wi_condS (t := decide (gt zs q < gt zs (q - k))) rfl (fun c4 => ?_) (fun c4 => ?_)
        · refine wi_skip <| wi_seq <| wi_block <| wi_reg rfl <| lx_move (.int .i64 ((n2 : Nat) : Int)) rfl rfl <| lx_add (((n2 + 1 : Nat) : Int)) rfl rfl rfl (by omega) (by omega) (by omega) <| lx_assign (.int .i64 ((n2 + 1 : Nat) : Int)) rfl rfl <| lx_nil <| wi_inBlock <| wi_reg rfl <| lx_move (.int .i64 ((q : Nat) : Int)) rfl rfl <| lx_move (.int .i64 ((k : Nat) : Int)) rfl rfl <| lx_sub (((q - k : Nat) : Int)) rfl rfl rfl (by omega) (by omega) (by omega) <| lx_assign (.int .i64 ((q - k : Nat) : Int)) rfl rfl <| lx_nil <| ?_
          have hlt := of_decide_eq_true c4
          have he : exch zs (q - k) q = swp zs (q - k) q := if_pos hlt
          -- L2.1
          refine IH2 _ _ (q - k, n2 + 1, exch zs (q - k) q) (agree_ups rfl agree_self) ⟨rfl, rfl, trivial⟩ ⟨?_, hx0_3, hcc3, ?_, ?_, ?_, ?_⟩ ?_
          · first | exact ho3 | (simpa using ho3)
          · try dsimp only
            omega
          · try dsimp only
            omega
          · try dsimp only
            rw [he]; have := GS_snoc (i := q - k) hgs2 (by omega) (by rw [show q - k + k = q from by omega]; exact hlt); rwa [show q - k + k = q from by omega] at this
          · try dsimp only
            rw [he]; exact InsAt_step hins hp1 (by omega) hq (by omega) hlt
          · first | omega | (dsimp only; omega)
        · refine wi_exit rfl <| wi_inBlock <| wi_reg rfl <| lx_move (.int .i64 ((i : Nat) : Int)) rfl rfl <| lx_add (((i + 1 : Nat) : Int)) rfl rfl rfl (by omega) (by omega) (by omega) <| lx_assign (.int .i64 ((i + 1 : Nat) : Int)) rfl rfl <| lx_nil <| ?_
          have hge := of_decide_eq_false c4
          have he : exch zs (q - k) q = zs := if_neg hge
          -- L0.1
          refine IH1 _ _ (i + 1, n2, exch zs (q - k) q) (agree_ups rfl (agree_mix (rngB_sub (by decide) (by decide) rfl) (agree_ups rfl agree_self))) ⟨rfl, rfl, trivial⟩ ⟨?_, hx0_3, hcc3, ?_, ?_, ?_, ?_, ?_⟩ ?_
          · first | exact ho3 | (simpa using ho3)
          · try dsimp only
            omega
          · try dsimp only
            omega
          · try dsimp only
            omega
          · try dsimp only
            rw [he]; exact hgs2
          · try dsimp only
            rw [he]; exact InsAt_done hins (fun _ => by omega)
          · first | omega | (dsimp only; omega)
      · refine lx_move (.bool false) rfl rfl <| lx_skip rfl <| lx_skip rfl <| lx_skip rfl <| lx_skip rfl <| lx_skip rfl <| lx_skip rfl <| lx_pick false (.bool false) rfl rfl rfl <| lx_nil <| wi_false rfl <| wi_exit rfl <| wi_inBlock <| wi_reg rfl <| lx_move (.int .i64 ((i : Nat) : Int)) rfl rfl <| lx_add (((i + 1 : Nat) : Int)) rfl rfl rfl (by omega) (by omega) (by omega) <| lx_assign (.int .i64 ((i + 1 : Nat) : Int)) rfl rfl <| lx_nil <| ?_
        -- L0.2
        refine IH1 _ _ (i + 1, n2, zs) (agree_ups rfl (agree_mix (rngB_sub (by decide) (by decide) rfl) (agree_ups rfl agree_self))) ⟨rfl, rfl, trivial⟩ ⟨?_, hx0_2, hcc2, ?_, ?_, ?_, ?_, ?_⟩ ?_
        · first | exact ho2 | (simpa using ho2)
        · try dsimp only
          omega
        · try dsimp only
          omega
        · try dsimp only
          omega
        · try dsimp only
          exact hgs2
        · try dsimp only
          exact InsAt_done hins (fun _ => by omega)
        · first | omega | (dsimp only; omega)
    · refine lx_nil <| wi_false rfl <| wi_exit rfl <| wi_seq <| wi_reg rfl <| lx_move (.int .i64 ((n : Nat) : Int)) rfl rfl <| lx_assign (.int .i64 ((n : Nat) : Int)) rfl rfl <| lx_nil <| ?_
      -- R2
      refine wi_ret ⟨.int .i64 ((n : Nat) : Int), (res_one rfl rfl), ⟨ys, n, rfl, ho1, ?_, ?_, ?_, hcc1⟩⟩
      · exact hgs
      · intro p hp; exact hpre p (by omega)
      · omega

/-- What Shell leaves, and how many exchanges it counts: 'k' gaps have been gone through. -/
def ShellTo : Nat → List Int → List Int → List Int → Nat → Prop
  | 0, _, xs, ys, n => ys = xs ∧ n = 0
  | k + 1, gs, xs, ys, n => ∃ zs a b, ShellTo k gs xs zs a ∧ GS (gt gs k).toNat b zs ys ∧ SortedBy (gt gs k).toNat ys ∧ n = a + b
theorem ShellTo_length : ∀ {k : Nat} {gs xs ys : List Int} {n : Nat}, ShellTo k gs xs ys n → ys.length = xs.length
  | 0, _, _, _, _, h => by rw [h.1]
  | _ + 1, _, _, _, _, ⟨_, _, _, h1, h2, _⟩ => by rw [GS_length h2, ShellTo_length h1]
theorem chk_gap {xs gs : List Int} (h : chkRow xs gs = 0) {i : Nat} (hi : i < gs.length) : 1 ≤ gt gs i := by
  unfold chkRow at h
  split at h
  · cases h
  · split at h
    · cases h
    · rename_i h2
      have := List.any_eq_false.1 ((Bool.not_eq_true _).mp h2) _ (gt_mem hi)
      simpa using this
theorem chk_len {xs gs : List Int} (h : chkRow xs gs = 0) : xs.length ≤ 200 ∧ gs.length ≤ 20 := by
  unfold chkRow at h
  split at h
  · cases h
  · omega

set_option maxRecDepth 10000 in
theorem shell_spec (h : Heap) (vr : Value) (xs : List Int) (vg : Value) (gs : List Int) (hr_vr : RdE encI h vr xs) (hr_vg : RdE encI h vg gs) (hp1 : xs.length ≤ 1000000) (hp2 : gs.length ≤ 1000000) (hp3 : ∀ i, i < gs.length → gt gs i ≤ 9223372036854775807) : Fx Try.prog 18 [vr, vg] h (fun v h' => ∃ (s : Value) (ys : List Int) (n : Nat), v = .tuple #[s, .int .i64 ((n : Nat) : Int), .int .i64 (chkRow xs gs)] ∧ OwE encI h' h.size 2 s ys ∧ ((chkRow xs gs ≠ 0 ∧ ys = [] ∧ n = 0) ∨ (chkRow xs gs = 0 ∧ ShellTo gs.length gs xs ys n)) ∧ (n ≤ 900000) ∧ Ext h.size h h') := by
  refine fx_intro (n := 34) [(0, vr), (1, vg)] Try.func18 rfl rfl (by simp) ⟨rfl, rfl, trivial⟩ fun g0 => ?_
  refine wi_seq <| wi_reg rfl <| lx_assign (.slice none 0 0) rfl rfl <| lx_assign (.int .i64 0) rfl rfl <| lx_assign (.int .i64 0) rfl rfl <| lx_nil <| wi_seq <| wi_seq <| wi_reg rfl <| lx_move (vr) rfl rfl <| lx_move (vg) rfl rfl <| lx_call [vr, vg] rfl rfl Try.call46 rfl (checkRow_spec h vr xs vg gs hr_vr hr_vg (by omega) (by omega)) (fun _ _ _ => trivial) ?_
  rintro _ h1 ⟨rfl, rfl⟩
  refine lx_assign (.int .i64 (chkRow xs gs)) rfl rfl <| lx_nil <| wi_seq <| wi_reg rfl <| lx_move (.int .i64 (chkRow xs gs)) rfl rfl <| lx_neqS rfl rfl rfl (fun c1 => ?_) (fun c1 => ?_)
  · refine lx_nil <| wi_true rfl <| wi_seq <| wi_reg rfl <| lx_move (.int .i64 (chkRow xs gs)) rfl rfl <| lx_assign (.slice none 0 0) rfl rfl <| lx_assign (.int .i64 0) rfl rfl <| lx_assign (.int .i64 (chkRow xs gs)) rfl rfl <| lx_nil <| ?_
    -- R1
    refine wi_ret ⟨.tuple #[.slice none 0 0, .int .i64 0, .int .i64 (chkRow xs gs)], (res_three rfl rfl rfl rfl), ⟨.slice none 0 0, [], 0, ?_, (owE_nil encI _ h.size 2), ?_, ?_, (Ext.refl _ _)⟩⟩
    · first | rfl | (simp; done) | (simp; omega)
    · exact .inl ⟨by omega, rfl, rfl⟩
    · omega
  · refine lx_nil <| wi_false rfl <| wi_skip <| wi_seq <| wi_reg rfl <| ?_
    have hc0 : chkRow xs gs = 0 := by omega
    obtain ⟨hcl1, hcl2⟩ := chk_len hc0
    refine lx_move (vr) rfl rfl <| lx_call [vr] rfl rfl Try.call47 rfl (clone_spec h vr xs hr_vr (by omega)) (fun _ _ _ => trivial) ?_
    rintro v1 h2 ⟨_, rfl, ho1, hx1⟩
    have ho2 := ho1.base (Nat.le_refl h.size)
    refine lx_assign (v1) rfl rfl <| lx_assign (.int .i64 0) rfl rfl <| lx_nil <| wi_seq <| wi_seq <| wi_reg rfl <| lx_move (vg) rfl rfl <| lx_len rfl Try.underlying35 hr_vg rfl <| lx_move (.int .i64 0) rfl rfl <| lx_nil <| wi_block <| ?_
    refine wi_loop (σ := Nat × Nat × (List Int)) (rngB 22 32 [9, 11]) (fun (ss : Nat × Nat × (List Int)) => [(9, .int .i64 ((ss.2.1 : Nat) : Int)), (22, .int .i64 ((ss.1 : Nat) : Int))]) (fun (ss : Nat × Nat × (List Int)) (hh : Heap) => OwE encI hh h.size 2 v1 ss.2.2 ∧ Ext h.size h hh ∧ (ss.1 ≤ gs.length) ∧ (ss.2.1 ≤ 41000 * ss.1) ∧ (ShellTo ss.1 gs xs ss.2.2 ss.2.1)) (fun (ss : Nat × Nat × (List Int)) => gs.length - ss.1) (0, 0, xs) ⟨rfl, rfl, trivial⟩ ⟨?_, hx1, ?_, ?_, ?_⟩ ?_
    · first | exact ho2 | (simpa using ho2)
    · try dsimp only
      omega
    · try dsimp only
      omega
    · try dsimp only
      exact ⟨rfl, rfl⟩
    rintro g1 ⟨i, n, ys⟩ hh1 ⟨ho3, hx0_1, hi, hn, hst⟩ IH1
    dsimp only at *
    have hly := ShellTo_length hst
    refine wi_seq <| wi_reg rfl <| lx_lssS rfl rfl rfl (fun c2 => ?_) (fun c2 => ?_)
    · refine lx_nil <| wi_seq <| wi_true rfl <| wi_skip <| wi_seq <| wi_block <| wi_seq <| wi_reg rfl <| ?_
      have hgi := chk_gap hc0 (i := i) (by omega)
      have hge : gt gs i = (((gt gs i).toNat : Nat) : Int) := by omega
      have hgb := hp3 i (by omega)
      refine lx_ix (i := i) rfl eT35 hr_vg rfl rfl (by first | omega | (simp only [List.length_set, List.length_append, List.length_cons, List.length_nil, List.length_replicate, List.length_take, swp_length, exch_length]; omega)) <| lx_ld (i := i) (j := 0) (.int .i64 (((gt gs i).toNat : Nat) : Int)) rfl rfl fl3 (hr_vg.extS hx0_1) (by first | omega | (simp only [List.length_set, List.length_append, List.length_cons, List.length_nil, List.length_replicate, List.length_take, swp_length, exch_length]; omega)) (by show some (Value.int .i64 (gt gs i)) = _; rw [← hge]) rfl <| lx_assign (.int .i64 (((gt gs i).toNat : Nat) : Int)) rfl rfl <| lx_nil <| wi_reg rfl <| lx_move (.int .i64 ((n : Nat) : Int)) rfl rfl <| lx_move (v1) rfl rfl <| lx_move (.int .i64 (((gt gs i).toNat : Nat) : Int)) rfl rfl <| lx_call [v1, .int .i64 (((gt gs i).toNat : Nat) : Int)] rfl rfl Try.call48 rfl (insert_spec hh1 h.size v1 ys ((gt gs i).toNat) ho3 hx0_1.size (by omega) (by omega) (by omega)) (fun _ _ _ => trivial) ?_
      rintro _ h3 ⟨ys_1, n_1, rfl, ho4, hgs_1, hso_1, hnb_1, hx2⟩
      have hx0_2 := hx0_1.trans (ho3.ext hx2 hx0_1.size)
      refine lx_add (((n + n_1 : Nat) : Int)) rfl rfl rfl (by omega) (by omega) (by omega) <| lx_assign (.int .i64 ((n + n_1 : Nat) : Int)) rfl rfl <| lx_nil <| wi_inBlock <| wi_reg rfl <| lx_add (((i + 1 : Nat) : Int)) rfl rfl rfl (by omega) (by omega) (by omega) <| lx_move (.int .i64 ((i + 1 : Nat) : Int)) rfl rfl <| lx_nil <| ?_
      -- L0.1
      refine IH1 _ _ (i + 1, n + n_1, ys_1) (agree_ups rfl agree_self) ⟨rfl, rfl, trivial⟩ ⟨?_, hx0_2, ?_, ?_, ?_⟩ ?_
      · first | exact ho4 | (simpa using ho4)
      · try dsimp only
        omega
      · try dsimp only
        omega
      · try dsimp only
        exact ⟨ys, n, n_1, hst, hgs_1, hso_1, rfl⟩
      · first | omega | (dsimp only; omega)
    · refine lx_nil <| wi_seq <| wi_false rfl <| wi_exit rfl <| wi_seq <| wi_reg rfl <| lx_move (v1) rfl rfl <| lx_move (.int .i64 ((n : Nat) : Int)) rfl rfl <| lx_assign (v1) rfl rfl <| lx_assign (.int .i64 ((n : Nat) : Int)) rfl rfl <| lx_assign (.int .i64 0) rfl rfl <| lx_nil <| ?_
      -- R2
      refine wi_ret ⟨.tuple #[v1, .int .i64 ((n : Nat) : Int), .int .i64 0], (res_three rfl rfl rfl rfl), ⟨v1, ys, n, ?_, ho3, ?_, ?_, hx0_1⟩⟩
      · first | rfl | (simp; done) | (simp; omega)
      · have : i = gs.length := by omega
        subst this
        exact .inr ⟨hc0, hst⟩
      · omega

set_option maxRecDepth 10000 in
theorem sortBy_spec (h : Heap) (vr : Value) (xs : List Int) (hh : Int) (hr_vr : RdE encI h vr xs) (hp1 : xs.length ≤ 1000000) (hp2 : hh ≤ 9223372036854775807) : Fx Try.prog 16 [vr, .int .i64 hh] h (fun v h' => ∃ (s : Value) (ys : List Int) (n : Nat), v = .tuple #[s, .int .i64 ((n : Nat) : Int), .int .i64 (chkRow xs [hh])] ∧ OwE encI h' h.size 2 s ys ∧ ((chkRow xs [hh] ≠ 0 ∧ ys = [] ∧ n = 0) ∨ (chkRow xs [hh] = 0 ∧ GS hh.toNat n xs ys ∧ SortedBy hh.toNat ys)) ∧ (n ≤ 900000) ∧ Ext h.size h h') := by
  refine fx_intro (n := 14) [(0, vr), (1, .int .i64 hh)] Try.func16 rfl rfl (by simp) ⟨rfl, rfl, trivial⟩ fun g0 => ?_
  refine wi_seq <| wi_reg rfl <| lx_assign (.slice none 0 0) rfl rfl <| lx_assign (.int .i64 0) rfl rfl <| lx_assign (.int .i64 0) rfl rfl <| lx_nil <| wi_seq <| wi_reg rfl <| lx_move (vr) rfl rfl <| lx_move (.int .i64 hh) rfl rfl <| lx_buildSlice (E := encI) h.size [hh] [.int .i64 hh] rfl rfl eT35 rfl rfl rfl rfl (Nat.le_refl _) (fun _ _ _ => trivial) fun v1 h1 ho1 hx1 hvb1 hsz1 => ?_
  have ho2 := ho1.base (Nat.le_refl h.size)
  refine lx_call [vr, v1] rfl rfl Try.call18 rfl (shell_spec h1 vr xs v1 ([hh]) (hr_vr.extS hx1) ho2.rd (by omega) (by simp) (gt_single_le hp2)) (fun _ _ _ => trivial) ?_
  rintro _ h2 ⟨v2, ys_1, n_1, rfl, ho3, hsh_1, hnb_1, hx2⟩
  have hx0_1 := hx1.trans2 hx2 hx1.size
  have ho4 := ho2.extS hx2
  have ho5 := ho3.base hx1.size
  refine lx_extract (v2) rfl rfl rfl <| lx_extract (.int .i64 ((n_1 : Nat) : Int)) rfl rfl rfl <| lx_extract (.int .i64 (chkRow xs ([hh]))) rfl rfl rfl <| lx_assign (v2) rfl rfl <| lx_assign (.int .i64 ((n_1 : Nat) : Int)) rfl rfl <| lx_assign (.int .i64 (chkRow xs ([hh]))) rfl rfl <| lx_nil <| ?_
  -- R1
  refine wi_ret ⟨.tuple #[v2, .int .i64 ((n_1 : Nat) : Int), .int .i64 (chkRow xs ([hh]))], (res_three rfl rfl rfl rfl), ⟨v2, ys_1, n_1, ?_, ho5, ?_, ?_, hx0_1⟩⟩
  · first | rfl | (simp; done) | (simp; omega)
  · rcases hsh_1 with h1 | ⟨h1, zs, a, b, h2, h3, h4, h5⟩
    · exact .inl h1
    · obtain ⟨rfl, rfl⟩ := h2
      refine .inr ⟨h1, ?_, h4⟩
      have : b = n_1 := by omega
      subst this; exact h3
  · omega

set_option maxRecDepth 10000 in
theorem inOrder_spec (h : Heap) (vr : Value) (xs : List Int) (hr_vr : RdE encI h vr xs) (hp1 : xs.length ≤ 1000000) : Fx Try.prog 19 [vr] h (fun v h' => v = .bool (inOrd xs) ∧ h = h') := by
  refine fx_intro (n := 21) [(0, vr)] Try.func19 rfl rfl (by simp) ⟨rfl, trivial⟩ fun g0 => ?_
  refine wi_seq <| wi_reg rfl <| lx_assign (.bool false) rfl rfl <| lx_nil <| wi_seq <| wi_seq <| wi_reg rfl <| lx_assign (.int .i64 0) rfl rfl <| lx_nil <| wi_block <| ?_
  refine wi_loop (σ := Nat) (rngB 2 21 []) (fun (i : Nat) => [(3, .int .i64 ((i : Nat) : Int))]) (fun (i : Nat) (hh : Heap) => (i ≤ xs.length) ∧ (∀ j, j < i → gt xs j ≤ gt xs (j + 1)) ∧ h = hh) (fun (i : Nat) => xs.length - i) 0 ⟨rfl, trivial⟩ ⟨?_, ?_, rfl⟩ ?_
  · try dsimp only
    omega
  · try dsimp only
    intro j hj; omega
  rintro g1 i hh1 ⟨hi, he, rfl⟩ IH1
  refine wi_seq <| wi_seq <| wi_reg rfl <| lx_move (.int .i64 ((i : Nat) : Int)) rfl rfl <| lx_add (((i + 1 : Nat) : Int)) rfl rfl rfl (by omega) (by omega) (by omega) <| lx_move (vr) rfl rfl <| lx_len rfl Try.underlying29 hr_vr rfl <| lx_lssS rfl rfl rfl (fun c1 => ?_) (fun c1 => ?_)
  · refine lx_nil <| wi_true rfl <| wi_skip <| wi_seq <| wi_block <| wi_seq <| wi_draw mo rfl (by decide +kernel) <| lx_move (vr) rfl rfl <| lx_move (.int .i64 ((i : Nat) : Int)) rfl rfl <| lx_ix (i := i) rfl eT29 hr_vr rfl rfl (by first | omega | (simp only [List.length_set, List.length_append, List.length_cons, List.length_nil, List.length_replicate, List.length_take, swp_length, exch_length]; omega)) <| lx_ld (i := i) (j := 0) (.int .i64 (gt xs i)) rfl rfl fl2 hr_vr (by first | omega | (simp only [List.length_set, List.length_append, List.length_cons, List.length_nil, List.length_replicate, List.length_take, swp_length, exch_length]; omega)) rfl rfl <| lx_move (vr) rfl rfl <| lx_move (.int .i64 ((i : Nat) : Int)) rfl rfl <| lx_add (((i + 1 : Nat) : Int)) rfl rfl rfl (by omega) (by omega) (by omega) <| lx_ix (i := i + 1) rfl eT29 hr_vr rfl rfl (by first | omega | (simp only [List.length_set, List.length_append, List.length_cons, List.length_nil, List.length_replicate, List.length_take, swp_length, exch_length]; omega)) <| lx_ld (i := i + 1) (j := 0) (.int .i64 (gt xs (i + 1))) rfl rfl fl2 hr_vr (by first | omega | (simp only [List.length_set, List.length_append, List.length_cons, List.length_nil, List.length_replicate, List.length_take, swp_length, exch_length]; omega)) rfl rfl <| lx_gtrS rfl rfl rfl (fun c2 => ?_) (fun c2 => ?_)
    · refine lx_nil <| wi_true rfl <| wi_seq <| wi_reg rfl <| lx_assign (.bool false) rfl rfl <| lx_nil <| ?_
      -- R1
      refine wi_ret ⟨.bool false, (res_one rfl rfl), ⟨?_, rfl⟩⟩
      · have e : inOrd xs = false := by
          rw [Bool.eq_false_iff, ne_eq, inOrd_iff]
          intro hall
          have := hall i (by omega)
          omega
        rw [e]
    · refine lx_nil <| wi_false rfl <| wi_skip <| wi_inBlock <| wi_reg rfl <| lx_move (.int .i64 ((i : Nat) : Int)) rfl rfl <| lx_add (((i + 1 : Nat) : Int)) rfl rfl rfl (by omega) (by omega) (by omega) <| lx_assign (.int .i64 ((i + 1 : Nat) : Int)) rfl rfl <| lx_nil <| ?_
      -- L0.1
      refine IH1 _ _ (i + 1) (agree_ups rfl agree_self) ⟨rfl, trivial⟩ ⟨?_, ?_, rfl⟩ ?_
      · try dsimp only
        omega
      · try dsimp only
        intro j hj; by_cases hji : j = i
        · subst hji; omega
        · exact he j (by omega)
      · first | omega | (dsimp only; omega)
  · refine lx_nil <| wi_false rfl <| wi_exit rfl <| wi_seq <| wi_reg rfl <| lx_assign (.bool true) rfl rfl <| lx_nil <| ?_
    -- R2
    refine wi_ret ⟨.bool true, (res_one rfl rfl), ⟨?_, rfl⟩⟩
    · have e : inOrd xs = true := (inOrd_iff xs).2 (fun i hi => he i (by omega))
      rw [e]

end Go.Proofs.Ytjfickfgpkejpaa
