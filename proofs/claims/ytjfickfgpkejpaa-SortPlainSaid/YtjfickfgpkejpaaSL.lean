/-
  Walks: what is wrong with networks, SortChecks.
-/
import Derived.Test.YtjfickfgpkejpaaSK
set_option linter.unusedSimpArgs false
set_option linter.unusedVariables false
namespace Go.Proofs.Ytjfickfgpkejpaa
open Go Go.X

set_option maxRecDepth 10000 in
theorem outputs_err_spec (h : Heap) (n : Int) (vl : Value) (ls : List (Int × Int)) (hr_vl : RdE encP h vl ls) (hp1 : ls.length ≤ 4611686018427387904) (hp2 : chkNet validC n ls ≠ 0) : Fx Try.prog 36 [.int .i64 n, vl] h (fun v h' => v = .tuple #[.slice none 0 0, .int .i64 (chkNet validC n ls)] ∧ Ext h.size h h') := by
  refine fx_intro (n := 36) [(0, .int .i64 n), (1, vl)] Try.func36 rfl rfl (by simp) ⟨rfl, rfl, trivial⟩ fun g0 => ?_
  refine wi_seq <| wi_reg rfl <| lx_assign (.slice none 0 0) rfl rfl <| lx_assign (.int .i64 0) rfl rfl <| lx_nil <| wi_seq <| wi_seq <| wi_reg rfl <| lx_move (.int .i64 n) rfl rfl <| lx_move (vl) rfl rfl <| lx_call [.int .i64 n, vl] rfl rfl Try.call45 rfl (check_spec h n vl ls hr_vl (by omega)) (fun _ _ _ => trivial) ?_
  rintro _ h1 ⟨rfl, hx1⟩
  refine lx_assign (.int .i64 (chkNet validC n ls)) rfl rfl <| lx_nil <| wi_seq <| wi_reg rfl <| lx_move (.int .i64 (chkNet validC n ls)) rfl rfl <| lx_neqT rfl rfl rfl hp2 <| lx_nil <| wi_true rfl <| wi_seq <| wi_reg rfl <| lx_move (.int .i64 (chkNet validC n ls)) rfl rfl <| lx_assign (.slice none 0 0) rfl rfl <| lx_assign (.int .i64 (chkNet validC n ls)) rfl rfl <| lx_nil <| ?_
  -- R1
  refine wi_ret ⟨.tuple #[.slice none 0 0, .int .i64 (chkNet validC n ls)], (res_two rfl rfl rfl), ⟨rfl, hx1⟩⟩

set_option maxRecDepth 10000 in
theorem idle_err_spec (h : Heap) (n : Int) (vl : Value) (ls : List (Int × Int)) (hr_vl : RdE encP h vl ls) (hp1 : ls.length ≤ 4611686018427387904) (hp2 : chkNet validC n ls ≠ 0) : Fx Try.prog 37 [.int .i64 n, vl] h (fun v h' => v = .tuple #[.slice none 0 0, .int .i64 (chkNet validC n ls)] ∧ Ext h.size h h') := by
  refine fx_intro (n := 38) [(0, .int .i64 n), (1, vl)] Try.func37 rfl rfl (by simp) ⟨rfl, rfl, trivial⟩ fun g0 => ?_
  refine wi_seq <| wi_reg rfl <| lx_assign (.slice none 0 0) rfl rfl <| lx_assign (.int .i64 0) rfl rfl <| lx_nil <| wi_seq <| wi_seq <| wi_reg rfl <| lx_move (.int .i64 n) rfl rfl <| lx_move (vl) rfl rfl <| lx_call [.int .i64 n, vl] rfl rfl Try.call45 rfl (check_spec h n vl ls hr_vl (by omega)) (fun _ _ _ => trivial) ?_
  rintro _ h1 ⟨rfl, hx1⟩
  refine lx_assign (.int .i64 (chkNet validC n ls)) rfl rfl <| lx_nil <| wi_seq <| wi_reg rfl <| lx_move (.int .i64 (chkNet validC n ls)) rfl rfl <| lx_neqT rfl rfl rfl hp2 <| lx_nil <| wi_true rfl <| wi_seq <| wi_reg rfl <| lx_move (.int .i64 (chkNet validC n ls)) rfl rfl <| lx_assign (.slice none 0 0) rfl rfl <| lx_assign (.int .i64 (chkNet validC n ls)) rfl rfl <| lx_nil <| ?_
  -- R1
  refine wi_ret ⟨.tuple #[.slice none 0 0, .int .i64 (chkNet validC n ls)], (res_two rfl rfl rfl), ⟨rfl, hx1⟩⟩

set_option maxRecDepth 10000 in
theorem layers_err_spec (h : Heap) (n : Int) (vl : Value) (ls : List (Int × Int)) (hr_vl : RdE encP h vl ls) (hp1 : ls.length ≤ 4611686018427387904) (hp2 : chkNet validC n ls ≠ 0) : Fx Try.prog 38 [.int .i64 n, vl] h (fun v h' => v = .tuple #[.slice none 0 0, .int .i64 (chkNet validC n ls)] ∧ Ext h.size h h') := by
  refine fx_intro (n := 38) [(0, .int .i64 n), (1, vl)] Try.func38 rfl rfl (by simp) ⟨rfl, rfl, trivial⟩ fun g0 => ?_
  refine wi_seq <| wi_reg rfl <| lx_assign (.slice none 0 0) rfl rfl <| lx_assign (.int .i64 0) rfl rfl <| lx_nil <| wi_seq <| wi_seq <| wi_reg rfl <| lx_move (.int .i64 n) rfl rfl <| lx_move (vl) rfl rfl <| lx_call [.int .i64 n, vl] rfl rfl Try.call45 rfl (check_spec h n vl ls hr_vl (by omega)) (fun _ _ _ => trivial) ?_
  rintro _ h1 ⟨rfl, hx1⟩
  refine lx_assign (.int .i64 (chkNet validC n ls)) rfl rfl <| lx_nil <| wi_seq <| wi_reg rfl <| lx_move (.int .i64 (chkNet validC n ls)) rfl rfl <| lx_neqT rfl rfl rfl hp2 <| lx_nil <| wi_true rfl <| wi_seq <| wi_reg rfl <| lx_move (.int .i64 (chkNet validC n ls)) rfl rfl <| lx_assign (.slice none 0 0) rfl rfl <| lx_assign (.int .i64 (chkNet validC n ls)) rfl rfl <| lx_nil <| ?_
  -- R1
  refine wi_ret ⟨.tuple #[.slice none 0 0, .int .i64 (chkNet validC n ls)], (res_two rfl rfl rfl), ⟨rfl, hx1⟩⟩

set_option maxRecDepth 10000 in
theorem rcheckC_spec (h : Heap) (n : Int) (vl : Value) (ls : List (Int × Int)) (hr_vl : RdE encP h vl ls) (hp1 : ls.length ≤ 4611686018427387904) : Fx Try.prog 44 [.int .i64 n, vl, .bool false] h (fun v h' => v = .int .i64 (chkNet validC n ls) ∧ h = h') := by
  refine fx_intro (n := 65) [(0, .int .i64 n), (1, vl), (2, .bool false)] Try.func44 rfl rfl (by simp) ⟨rfl, rfl, rfl, trivial⟩ fun g0 => ?_
  refine wi_seq <| wi_reg rfl <| lx_assign (.int .i64 0) rfl rfl <| lx_nil <| wi_seq <| wi_seq <| wi_reg rfl <| lx_move (.int .i64 n) rfl rfl <| lx_lssS rfl rfl rfl (fun c1 => ?_) (fun c1 => ?_)
  · refine lx_move (.bool true) rfl rfl <| lx_skip rfl <| lx_skip rfl <| lx_pick true (.bool true) rfl rfl rfl <| lx_nil <| wi_true rfl <| wi_seq <| wi_reg rfl <| lx_assign (.int .i64 1) rfl rfl <| lx_nil <| ?_
    -- R1
    refine wi_ret ⟨.int .i64 1, (res_one rfl rfl), ⟨?_, rfl⟩⟩
    · first | (unfold chkNet; first | rw [if_pos (by omega)] | rw [if_neg (by omega), if_pos (by omega)]; done) | (rw [chkNet_bad (by omega) (by omega) (by omega) (i := i) (by omega) (show validC n (gt ls i) = false from decide_eq_false (by omega))]; done) | rw [chkNet_all (by omega) (by omega) (by omega) (fun j hj => he j (by omega))]
  · refine lx_move (.bool false) rfl rfl <| lx_move (.int .i64 n) rfl rfl <| lx_gtrS rfl rfl rfl (fun c2 => ?_) (fun c2 => ?_)
    · refine lx_pick false (.bool true) rfl rfl rfl <| lx_nil <| wi_true rfl <| wi_seq <| wi_reg rfl <| lx_assign (.int .i64 1) rfl rfl <| lx_nil <| ?_
      -- R2
      refine wi_ret ⟨.int .i64 1, (res_one rfl rfl), ⟨?_, rfl⟩⟩
      · first | (unfold chkNet; first | rw [if_pos (by omega)] | rw [if_neg (by omega), if_pos (by omega)]; done) | (rw [chkNet_bad (by omega) (by omega) (by omega) (i := i) (by omega) (show validC n (gt ls i) = false from decide_eq_false (by omega))]; done) | rw [chkNet_all (by omega) (by omega) (by omega) (fun j hj => he j (by omega))]
    · refine lx_pick false (.bool false) rfl rfl rfl <| lx_nil <| wi_false rfl <| wi_skip <| wi_seq <| wi_seq <| wi_reg rfl <| lx_move (vl) rfl rfl <| lx_len rfl Try.underlying38 hr_vl rfl <| lx_gtrS rfl rfl rfl (fun c3 => ?_) (fun c3 => ?_)
      · refine lx_nil <| wi_true rfl <| wi_seq <| wi_reg rfl <| lx_assign (.int .i64 2) rfl rfl <| lx_nil <| ?_
        -- R3
        refine wi_ret ⟨.int .i64 2, (res_one rfl rfl), ⟨?_, rfl⟩⟩
        · first | (unfold chkNet; first | rw [if_pos (by omega)] | rw [if_neg (by omega), if_pos (by omega)]; done) | (rw [chkNet_bad (by omega) (by omega) (by omega) (i := i) (by omega) (show validC n (gt ls i) = false from decide_eq_false (by omega))]; done) | rw [chkNet_all (by omega) (by omega) (by omega) (fun j hj => he j (by omega))]
      · refine lx_nil <| wi_false rfl <| wi_skip <| wi_seq <| wi_seq <| wi_reg rfl <| lx_assign (.int .i64 0) rfl rfl <| lx_nil <| wi_block <| ?_
        refine wi_loop (σ := Nat) (rngB 19 65 [6, 7, 8, 9]) (fun (i : Nat) => [(7, .int .i64 ((i : Nat) : Int))]) (fun (i : Nat) (hh : Heap) => h = hh ∧ (i ≤ ls.length) ∧ (∀ j, j < i → validC n (gt ls j) = true)) (fun (i : Nat) => ls.length - i) 0 ⟨rfl, trivial⟩ ⟨rfl, ?_, ?_⟩ ?_
        · try dsimp only
          omega
        · try dsimp only
          intro j hj; omega
        rintro g1 i hh1 ⟨rfl, hi, he⟩ IH1
        refine wi_seq <| wi_seq <| wi_reg rfl <| lx_move (.int .i64 ((i : Nat) : Int)) rfl rfl <| lx_move (vl) rfl rfl <| lx_len rfl Try.underlying38 hr_vl rfl <| lx_lssS rfl rfl rfl (fun c4 => ?_) (fun c4 => ?_)
        · refine lx_nil <| wi_true rfl <| wi_skip <| wi_seq <| wi_block <| wi_seq <| wi_draw mo rfl (by decide +kernel) <| lx_move (vl) rfl rfl <| lx_move (.int .i64 ((i : Nat) : Int)) rfl rfl <| lx_ix (i := i) rfl eT38 hr_vl rfl rfl (by first | omega | (simp only [List.length_set, List.length_append, List.length_cons, List.length_nil, List.length_replicate, List.length_take, swp_length, exch_length]; omega)) <| lx_ixP (i := i) (c := 0) rfl Try.underlying60 Try.sizeOf3 hr_vl (by first | omega | (simp only [List.length_set, List.length_append, List.length_cons, List.length_nil, List.length_replicate, List.length_take, swp_length, exch_length]; omega)) rfl rfl (by decide) <| lx_ld (i := i) (j := 0) (.int .i64 ((gt ls i).1)) rfl rfl fl3 hr_vl (by first | omega | (simp only [List.length_set, List.length_append, List.length_cons, List.length_nil, List.length_replicate, List.length_take, swp_length, exch_length]; omega)) rfl rfl <| lx_move (vl) rfl rfl <| lx_move (.int .i64 ((i : Nat) : Int)) rfl rfl <| lx_ix (i := i) rfl eT38 hr_vl rfl rfl (by first | omega | (simp only [List.length_set, List.length_append, List.length_cons, List.length_nil, List.length_replicate, List.length_take, swp_length, exch_length]; omega)) <| lx_ixP (i := i) (c := 1) rfl Try.underlying60 Try.sizeOf3 hr_vl (by first | omega | (simp only [List.length_set, List.length_append, List.length_cons, List.length_nil, List.length_replicate, List.length_take, swp_length, exch_length]; omega)) rfl rfl (by decide) <| lx_ld (i := i) (j := 1) (.int .i64 ((gt ls i).2)) rfl rfl fl3 hr_vl (by first | omega | (simp only [List.length_set, List.length_append, List.length_cons, List.length_nil, List.length_replicate, List.length_take, swp_length, exch_length]; omega)) rfl rfl <| lx_assign (.int .i64 ((gt ls i).1)) rfl rfl <| lx_assign (.int .i64 ((gt ls i).2)) rfl rfl <| lx_nil <| wi_seq <| wi_reg rfl <| lx_move (.int .i64 ((gt ls i).1)) rfl rfl <| lx_lssS rfl rfl rfl (fun c5 => ?_) (fun c5 => ?_)
          · refine lx_move (.bool true) rfl rfl <| lx_skip rfl <| lx_skip rfl <| lx_pick true (.bool true) rfl rfl rfl <| lx_move (.bool true) rfl rfl <| lx_skip rfl <| lx_skip rfl <| lx_skip rfl <| lx_pick true (.bool true) rfl rfl rfl <| lx_move (.bool true) rfl rfl <| lx_skip rfl <| lx_skip rfl <| lx_skip rfl <| lx_pick true (.bool true) rfl rfl rfl <| lx_move (.bool true) rfl rfl <| lx_skip rfl <| lx_skip rfl <| lx_skip rfl <| lx_pick true (.bool true) rfl rfl rfl <| lx_move (.bool true) rfl rfl <| lx_skip rfl <| lx_skip rfl <| lx_skip rfl <| lx_skip rfl <| lx_skip rfl <| lx_skip rfl <| lx_skip rfl <| lx_pick true (.bool true) rfl rfl rfl <| lx_nil <| wi_true rfl <| wi_seq <| wi_reg rfl <| lx_assign (.int .i64 100) rfl rfl <| lx_nil <| ?_
            -- R4
            refine wi_ret ⟨.int .i64 100, (res_one rfl rfl), ⟨?_, rfl⟩⟩
            · first | (unfold chkNet; first | rw [if_pos (by omega)] | rw [if_neg (by omega), if_pos (by omega)]; done) | (rw [chkNet_bad (by omega) (by omega) (by omega) (i := i) (by omega) (show validC n (gt ls i) = false from decide_eq_false (by omega))]; done) | rw [chkNet_all (by omega) (by omega) (by omega) (fun j hj => he j (by omega))]
          · refine lx_move (.bool false) rfl rfl <| lx_move (.int .i64 ((gt ls i).2)) rfl rfl <| lx_lssS rfl rfl rfl (fun c6 => ?_) (fun c6 => ?_)
            · refine lx_pick false (.bool true) rfl rfl rfl <| lx_move (.bool true) rfl rfl <| lx_skip rfl <| lx_skip rfl <| lx_skip rfl <| lx_pick true (.bool true) rfl rfl rfl <| lx_move (.bool true) rfl rfl <| lx_skip rfl <| lx_skip rfl <| lx_skip rfl <| lx_pick true (.bool true) rfl rfl rfl <| lx_move (.bool true) rfl rfl <| lx_skip rfl <| lx_skip rfl <| lx_skip rfl <| lx_pick true (.bool true) rfl rfl rfl <| lx_move (.bool true) rfl rfl <| lx_skip rfl <| lx_skip rfl <| lx_skip rfl <| lx_skip rfl <| lx_skip rfl <| lx_skip rfl <| lx_skip rfl <| lx_pick true (.bool true) rfl rfl rfl <| lx_nil <| wi_true rfl <| wi_seq <| wi_reg rfl <| lx_assign (.int .i64 100) rfl rfl <| lx_nil <| ?_
              -- R5
              refine wi_ret ⟨.int .i64 100, (res_one rfl rfl), ⟨?_, rfl⟩⟩
              · first | (unfold chkNet; first | rw [if_pos (by omega)] | rw [if_neg (by omega), if_pos (by omega)]; done) | (rw [chkNet_bad (by omega) (by omega) (by omega) (i := i) (by omega) (show validC n (gt ls i) = false from decide_eq_false (by omega))]; done) | rw [chkNet_all (by omega) (by omega) (by omega) (fun j hj => he j (by omega))]
            · refine lx_pick false (.bool false) rfl rfl rfl <| lx_move (.bool false) rfl rfl <| lx_move (.int .i64 ((gt ls i).1)) rfl rfl <| lx_move (.int .i64 n) rfl rfl <| lx_geqS rfl rfl rfl (fun c7 => ?_) (fun c7 => ?_)
              · refine lx_pick false (.bool true) rfl rfl rfl <| lx_move (.bool true) rfl rfl <| lx_skip rfl <| lx_skip rfl <| lx_skip rfl <| lx_pick true (.bool true) rfl rfl rfl <| lx_move (.bool true) rfl rfl <| lx_skip rfl <| lx_skip rfl <| lx_skip rfl <| lx_pick true (.bool true) rfl rfl rfl <| lx_move (.bool true) rfl rfl <| lx_skip rfl <| lx_skip rfl <| lx_skip rfl <| lx_skip rfl <| lx_skip rfl <| lx_skip rfl <| lx_skip rfl <| lx_pick true (.bool true) rfl rfl rfl <| lx_nil <| wi_true rfl <| wi_seq <| wi_reg rfl <| lx_assign (.int .i64 100) rfl rfl <| lx_nil <| ?_
                -- R6
                refine wi_ret ⟨.int .i64 100, (res_one rfl rfl), ⟨?_, rfl⟩⟩
                · first | (unfold chkNet; first | rw [if_pos (by omega)] | rw [if_neg (by omega), if_pos (by omega)]; done) | (rw [chkNet_bad (by omega) (by omega) (by omega) (i := i) (by omega) (show validC n (gt ls i) = false from decide_eq_false (by omega))]; done) | rw [chkNet_all (by omega) (by omega) (by omega) (fun j hj => he j (by omega))]
              · refine lx_pick false (.bool false) rfl rfl rfl <| lx_move (.bool false) rfl rfl <| lx_move (.int .i64 ((gt ls i).2)) rfl rfl <| lx_move (.int .i64 n) rfl rfl <| lx_geqS rfl rfl rfl (fun c8 => ?_) (fun c8 => ?_)
                · refine lx_pick false (.bool true) rfl rfl rfl <| lx_move (.bool true) rfl rfl <| lx_skip rfl <| lx_skip rfl <| lx_skip rfl <| lx_pick true (.bool true) rfl rfl rfl <| lx_move (.bool true) rfl rfl <| lx_skip rfl <| lx_skip rfl <| lx_skip rfl <| lx_skip rfl <| lx_skip rfl <| lx_skip rfl <| lx_skip rfl <| lx_pick true (.bool true) rfl rfl rfl <| lx_nil <| wi_true rfl <| wi_seq <| wi_reg rfl <| lx_assign (.int .i64 100) rfl rfl <| lx_nil <| ?_
                  -- R7
                  refine wi_ret ⟨.int .i64 100, (res_one rfl rfl), ⟨?_, rfl⟩⟩
                  · first | (unfold chkNet; first | rw [if_pos (by omega)] | rw [if_neg (by omega), if_pos (by omega)]; done) | (rw [chkNet_bad (by omega) (by omega) (by omega) (i := i) (by omega) (show validC n (gt ls i) = false from decide_eq_false (by omega))]; done) | rw [chkNet_all (by omega) (by omega) (by omega) (fun j hj => he j (by omega))]
                · refine lx_pick false (.bool false) rfl rfl rfl <| lx_move (.bool false) rfl rfl <| lx_move (.int .i64 ((gt ls i).1)) rfl rfl <| lx_move (.int .i64 ((gt ls i).2)) rfl rfl <| lx_eqlS rfl rfl rfl (fun c9 => ?_) (fun c9 => ?_)
                  · refine lx_pick false (.bool true) rfl rfl rfl <| lx_move (.bool true) rfl rfl <| lx_skip rfl <| lx_skip rfl <| lx_skip rfl <| lx_skip rfl <| lx_skip rfl <| lx_skip rfl <| lx_skip rfl <| lx_pick true (.bool true) rfl rfl rfl <| lx_nil <| wi_true rfl <| wi_seq <| wi_reg rfl <| lx_assign (.int .i64 100) rfl rfl <| lx_nil <| ?_
                    -- R8
                    refine wi_ret ⟨.int .i64 100, (res_one rfl rfl), ⟨?_, rfl⟩⟩
                    · first | (unfold chkNet; first | rw [if_pos (by omega)] | rw [if_neg (by omega), if_pos (by omega)]; done) | (rw [chkNet_bad (by omega) (by omega) (by omega) (i := i) (by omega) (show validC n (gt ls i) = false from decide_eq_false (by omega))]; done) | rw [chkNet_all (by omega) (by omega) (by omega) (fun j hj => he j (by omega))]
                  · refine lx_pick false (.bool false) rfl rfl rfl <| lx_move (.bool false) rfl rfl <| lx_move (.bool false) rfl rfl <| lx_notB true rfl rfl rfl <| lx_move (.bool true) rfl rfl <| lx_move (.int .i64 ((gt ls i).1)) rfl rfl <| lx_move (.int .i64 ((gt ls i).2)) rfl rfl <| lx_gtrS rfl rfl rfl (fun c10 => ?_) (fun c10 => ?_)
                    · refine lx_pick true (.bool true) rfl rfl rfl <| lx_pick false (.bool true) rfl rfl rfl <| lx_nil <| wi_true rfl <| wi_seq <| wi_reg rfl <| lx_assign (.int .i64 100) rfl rfl <| lx_nil <| ?_
                      -- R9
                      refine wi_ret ⟨.int .i64 100, (res_one rfl rfl), ⟨?_, rfl⟩⟩
                      · first | (unfold chkNet; first | rw [if_pos (by omega)] | rw [if_neg (by omega), if_pos (by omega)]; done) | (rw [chkNet_bad (by omega) (by omega) (by omega) (i := i) (by omega) (show validC n (gt ls i) = false from decide_eq_false (by omega))]; done) | rw [chkNet_all (by omega) (by omega) (by omega) (fun j hj => he j (by omega))]
                    · refine lx_pick true (.bool false) rfl rfl rfl <| lx_pick false (.bool false) rfl rfl rfl <| lx_nil <| wi_false rfl <| wi_skip <| wi_inBlock <| wi_reg rfl <| lx_move (.int .i64 ((i : Nat) : Int)) rfl rfl <| lx_add (((i + 1 : Nat) : Int)) rfl rfl rfl (by omega) (by omega) (by omega) <| lx_assign (.int .i64 ((i + 1 : Nat) : Int)) rfl rfl <| lx_nil <| ?_
                      -- L0.1
                      refine IH1 _ _ (i + 1) (agree_ups rfl agree_self) ⟨rfl, trivial⟩ ⟨rfl, ?_, ?_⟩ ?_
                      · try dsimp only
                        omega
                      · try dsimp only
                        intro j hj; by_cases hji : j = i
                        · subst hji; exact decide_eq_true (by omega)
                        · exact he j (by omega)
                      · first | omega | (dsimp only; omega)
        · refine lx_nil <| wi_false rfl <| wi_exit rfl <| wi_seq <| wi_reg rfl <| lx_assign (.int .i64 0) rfl rfl <| lx_nil <| ?_
          -- R10
          refine wi_ret ⟨.int .i64 0, (res_one rfl rfl), ⟨?_, rfl⟩⟩
          · first | (unfold chkNet; first | rw [if_pos (by omega)] | rw [if_neg (by omega), if_pos (by omega)]; done) | (rw [chkNet_bad (by omega) (by omega) (by omega) (i := i) (by omega) (show validC n (gt ls i) = false from decide_eq_false (by omega))]; done) | rw [chkNet_all (by omega) (by omega) (by omega) (fun j hj => he j (by omega))]

set_option maxRecDepth 10000 in
theorem rcheckL_spec (h : Heap) (n : Int) (vl : Value) (ls : List (Int × Int)) (hr_vl : RdE encP h vl ls) (hp1 : ls.length ≤ 4611686018427387904) : Fx Try.prog 44 [.int .i64 n, vl, .bool true] h (fun v h' => v = .int .i64 (chkNet validL n ls) ∧ h = h') := by
  refine fx_intro (n := 65) [(0, .int .i64 n), (1, vl), (2, .bool true)] Try.func44 rfl rfl (by simp) ⟨rfl, rfl, rfl, trivial⟩ fun g0 => ?_
  refine wi_seq <| wi_reg rfl <| lx_assign (.int .i64 0) rfl rfl <| lx_nil <| wi_seq <| wi_seq <| wi_reg rfl <| lx_move (.int .i64 n) rfl rfl <| lx_lssS rfl rfl rfl (fun c1 => ?_) (fun c1 => ?_)
  · refine lx_move (.bool true) rfl rfl <| lx_skip rfl <| lx_skip rfl <| lx_pick true (.bool true) rfl rfl rfl <| lx_nil <| wi_true rfl <| wi_seq <| wi_reg rfl <| lx_assign (.int .i64 1) rfl rfl <| lx_nil <| ?_
    -- R1
    refine wi_ret ⟨.int .i64 1, (res_one rfl rfl), ⟨?_, rfl⟩⟩
    · first | (unfold chkNet; first | rw [if_pos (by omega)] | rw [if_neg (by omega), if_pos (by omega)]; done) | (rw [chkNet_bad (by omega) (by omega) (by omega) (i := i) (by omega) (show validL n (gt ls i) = false from decide_eq_false (by omega))]; done) | rw [chkNet_all (by omega) (by omega) (by omega) (fun j hj => he j (by omega))]
  · refine lx_move (.bool false) rfl rfl <| lx_move (.int .i64 n) rfl rfl <| lx_gtrS rfl rfl rfl (fun c2 => ?_) (fun c2 => ?_)
    · refine lx_pick false (.bool true) rfl rfl rfl <| lx_nil <| wi_true rfl <| wi_seq <| wi_reg rfl <| lx_assign (.int .i64 1) rfl rfl <| lx_nil <| ?_
      -- R2
      refine wi_ret ⟨.int .i64 1, (res_one rfl rfl), ⟨?_, rfl⟩⟩
      · first | (unfold chkNet; first | rw [if_pos (by omega)] | rw [if_neg (by omega), if_pos (by omega)]; done) | (rw [chkNet_bad (by omega) (by omega) (by omega) (i := i) (by omega) (show validL n (gt ls i) = false from decide_eq_false (by omega))]; done) | rw [chkNet_all (by omega) (by omega) (by omega) (fun j hj => he j (by omega))]
    · refine lx_pick false (.bool false) rfl rfl rfl <| lx_nil <| wi_false rfl <| wi_skip <| wi_seq <| wi_seq <| wi_reg rfl <| lx_move (vl) rfl rfl <| lx_len rfl Try.underlying38 hr_vl rfl <| lx_gtrS rfl rfl rfl (fun c3 => ?_) (fun c3 => ?_)
      · refine lx_nil <| wi_true rfl <| wi_seq <| wi_reg rfl <| lx_assign (.int .i64 2) rfl rfl <| lx_nil <| ?_
        -- R3
        refine wi_ret ⟨.int .i64 2, (res_one rfl rfl), ⟨?_, rfl⟩⟩
        · first | (unfold chkNet; first | rw [if_pos (by omega)] | rw [if_neg (by omega), if_pos (by omega)]; done) | (rw [chkNet_bad (by omega) (by omega) (by omega) (i := i) (by omega) (show validL n (gt ls i) = false from decide_eq_false (by omega))]; done) | rw [chkNet_all (by omega) (by omega) (by omega) (fun j hj => he j (by omega))]
      · refine lx_nil <| wi_false rfl <| wi_skip <| wi_seq <| wi_seq <| wi_reg rfl <| lx_assign (.int .i64 0) rfl rfl <| lx_nil <| wi_block <| ?_
        refine wi_loop (σ := Nat) (rngB 19 65 [6, 7, 8, 9]) (fun (i : Nat) => [(7, .int .i64 ((i : Nat) : Int))]) (fun (i : Nat) (hh : Heap) => h = hh ∧ (i ≤ ls.length) ∧ (∀ j, j < i → validL n (gt ls j) = true)) (fun (i : Nat) => ls.length - i) 0 ⟨rfl, trivial⟩ ⟨rfl, ?_, ?_⟩ ?_
        · try dsimp only
          omega
        · try dsimp only
          intro j hj; omega
        rintro g1 i hh1 ⟨rfl, hi, he⟩ IH1
        refine wi_seq <| wi_seq <| wi_reg rfl <| lx_move (.int .i64 ((i : Nat) : Int)) rfl rfl <| lx_move (vl) rfl rfl <| lx_len rfl Try.underlying38 hr_vl rfl <| lx_lssS rfl rfl rfl (fun c4 => ?_) (fun c4 => ?_)
        · refine lx_nil <| wi_true rfl <| wi_skip <| wi_seq <| wi_block <| wi_seq <| wi_draw mo rfl (by decide +kernel) <| lx_move (vl) rfl rfl <| lx_move (.int .i64 ((i : Nat) : Int)) rfl rfl <| lx_ix (i := i) rfl eT38 hr_vl rfl rfl (by first | omega | (simp only [List.length_set, List.length_append, List.length_cons, List.length_nil, List.length_replicate, List.length_take, swp_length, exch_length]; omega)) <| lx_ixP (i := i) (c := 0) rfl Try.underlying60 Try.sizeOf3 hr_vl (by first | omega | (simp only [List.length_set, List.length_append, List.length_cons, List.length_nil, List.length_replicate, List.length_take, swp_length, exch_length]; omega)) rfl rfl (by decide) <| lx_ld (i := i) (j := 0) (.int .i64 ((gt ls i).1)) rfl rfl fl3 hr_vl (by first | omega | (simp only [List.length_set, List.length_append, List.length_cons, List.length_nil, List.length_replicate, List.length_take, swp_length, exch_length]; omega)) rfl rfl <| lx_move (vl) rfl rfl <| lx_move (.int .i64 ((i : Nat) : Int)) rfl rfl <| lx_ix (i := i) rfl eT38 hr_vl rfl rfl (by first | omega | (simp only [List.length_set, List.length_append, List.length_cons, List.length_nil, List.length_replicate, List.length_take, swp_length, exch_length]; omega)) <| lx_ixP (i := i) (c := 1) rfl Try.underlying60 Try.sizeOf3 hr_vl (by first | omega | (simp only [List.length_set, List.length_append, List.length_cons, List.length_nil, List.length_replicate, List.length_take, swp_length, exch_length]; omega)) rfl rfl (by decide) <| lx_ld (i := i) (j := 1) (.int .i64 ((gt ls i).2)) rfl rfl fl3 hr_vl (by first | omega | (simp only [List.length_set, List.length_append, List.length_cons, List.length_nil, List.length_replicate, List.length_take, swp_length, exch_length]; omega)) rfl rfl <| lx_assign (.int .i64 ((gt ls i).1)) rfl rfl <| lx_assign (.int .i64 ((gt ls i).2)) rfl rfl <| lx_nil <| wi_seq <| wi_reg rfl <| lx_move (.int .i64 ((gt ls i).1)) rfl rfl <| lx_lssS rfl rfl rfl (fun c5 => ?_) (fun c5 => ?_)
          · refine lx_move (.bool true) rfl rfl <| lx_skip rfl <| lx_skip rfl <| lx_pick true (.bool true) rfl rfl rfl <| lx_move (.bool true) rfl rfl <| lx_skip rfl <| lx_skip rfl <| lx_skip rfl <| lx_pick true (.bool true) rfl rfl rfl <| lx_move (.bool true) rfl rfl <| lx_skip rfl <| lx_skip rfl <| lx_skip rfl <| lx_pick true (.bool true) rfl rfl rfl <| lx_move (.bool true) rfl rfl <| lx_skip rfl <| lx_skip rfl <| lx_skip rfl <| lx_pick true (.bool true) rfl rfl rfl <| lx_move (.bool true) rfl rfl <| lx_skip rfl <| lx_skip rfl <| lx_skip rfl <| lx_skip rfl <| lx_skip rfl <| lx_skip rfl <| lx_skip rfl <| lx_pick true (.bool true) rfl rfl rfl <| lx_nil <| wi_true rfl <| wi_seq <| wi_reg rfl <| lx_assign (.int .i64 100) rfl rfl <| lx_nil <| ?_
            -- R4
            refine wi_ret ⟨.int .i64 100, (res_one rfl rfl), ⟨?_, rfl⟩⟩
            · first | (unfold chkNet; first | rw [if_pos (by omega)] | rw [if_neg (by omega), if_pos (by omega)]; done) | (rw [chkNet_bad (by omega) (by omega) (by omega) (i := i) (by omega) (show validL n (gt ls i) = false from decide_eq_false (by omega))]; done) | rw [chkNet_all (by omega) (by omega) (by omega) (fun j hj => he j (by omega))]
          · refine lx_move (.bool false) rfl rfl <| lx_move (.int .i64 ((gt ls i).2)) rfl rfl <| lx_lssS rfl rfl rfl (fun c6 => ?_) (fun c6 => ?_)
            · refine lx_pick false (.bool true) rfl rfl rfl <| lx_move (.bool true) rfl rfl <| lx_skip rfl <| lx_skip rfl <| lx_skip rfl <| lx_pick true (.bool true) rfl rfl rfl <| lx_move (.bool true) rfl rfl <| lx_skip rfl <| lx_skip rfl <| lx_skip rfl <| lx_pick true (.bool true) rfl rfl rfl <| lx_move (.bool true) rfl rfl <| lx_skip rfl <| lx_skip rfl <| lx_skip rfl <| lx_pick true (.bool true) rfl rfl rfl <| lx_move (.bool true) rfl rfl <| lx_skip rfl <| lx_skip rfl <| lx_skip rfl <| lx_skip rfl <| lx_skip rfl <| lx_skip rfl <| lx_skip rfl <| lx_pick true (.bool true) rfl rfl rfl <| lx_nil <| wi_true rfl <| wi_seq <| wi_reg rfl <| lx_assign (.int .i64 100) rfl rfl <| lx_nil <| ?_
              -- R5
              refine wi_ret ⟨.int .i64 100, (res_one rfl rfl), ⟨?_, rfl⟩⟩
              · first | (unfold chkNet; first | rw [if_pos (by omega)] | rw [if_neg (by omega), if_pos (by omega)]; done) | (rw [chkNet_bad (by omega) (by omega) (by omega) (i := i) (by omega) (show validL n (gt ls i) = false from decide_eq_false (by omega))]; done) | rw [chkNet_all (by omega) (by omega) (by omega) (fun j hj => he j (by omega))]
            · refine lx_pick false (.bool false) rfl rfl rfl <| lx_move (.bool false) rfl rfl <| lx_move (.int .i64 ((gt ls i).1)) rfl rfl <| lx_move (.int .i64 n) rfl rfl <| lx_geqS rfl rfl rfl (fun c7 => ?_) (fun c7 => ?_)
              · refine lx_pick false (.bool true) rfl rfl rfl <| lx_move (.bool true) rfl rfl <| lx_skip rfl <| lx_skip rfl <| lx_skip rfl <| lx_pick true (.bool true) rfl rfl rfl <| lx_move (.bool true) rfl rfl <| lx_skip rfl <| lx_skip rfl <| lx_skip rfl <| lx_pick true (.bool true) rfl rfl rfl <| lx_move (.bool true) rfl rfl <| lx_skip rfl <| lx_skip rfl <| lx_skip rfl <| lx_skip rfl <| lx_skip rfl <| lx_skip rfl <| lx_skip rfl <| lx_pick true (.bool true) rfl rfl rfl <| lx_nil <| wi_true rfl <| wi_seq <| wi_reg rfl <| lx_assign (.int .i64 100) rfl rfl <| lx_nil <| ?_
                -- R6
                refine wi_ret ⟨.int .i64 100, (res_one rfl rfl), ⟨?_, rfl⟩⟩
                · first | (unfold chkNet; first | rw [if_pos (by omega)] | rw [if_neg (by omega), if_pos (by omega)]; done) | (rw [chkNet_bad (by omega) (by omega) (by omega) (i := i) (by omega) (show validL n (gt ls i) = false from decide_eq_false (by omega))]; done) | rw [chkNet_all (by omega) (by omega) (by omega) (fun j hj => he j (by omega))]
              · refine lx_pick false (.bool false) rfl rfl rfl <| lx_move (.bool false) rfl rfl <| lx_move (.int .i64 ((gt ls i).2)) rfl rfl <| lx_move (.int .i64 n) rfl rfl <| lx_geqS rfl rfl rfl (fun c8 => ?_) (fun c8 => ?_)
                · refine lx_pick false (.bool true) rfl rfl rfl <| lx_move (.bool true) rfl rfl <| lx_skip rfl <| lx_skip rfl <| lx_skip rfl <| lx_pick true (.bool true) rfl rfl rfl <| lx_move (.bool true) rfl rfl <| lx_skip rfl <| lx_skip rfl <| lx_skip rfl <| lx_skip rfl <| lx_skip rfl <| lx_skip rfl <| lx_skip rfl <| lx_pick true (.bool true) rfl rfl rfl <| lx_nil <| wi_true rfl <| wi_seq <| wi_reg rfl <| lx_assign (.int .i64 100) rfl rfl <| lx_nil <| ?_
                  -- R7
                  refine wi_ret ⟨.int .i64 100, (res_one rfl rfl), ⟨?_, rfl⟩⟩
                  · first | (unfold chkNet; first | rw [if_pos (by omega)] | rw [if_neg (by omega), if_pos (by omega)]; done) | (rw [chkNet_bad (by omega) (by omega) (by omega) (i := i) (by omega) (show validL n (gt ls i) = false from decide_eq_false (by omega))]; done) | rw [chkNet_all (by omega) (by omega) (by omega) (fun j hj => he j (by omega))]
                · refine lx_pick false (.bool false) rfl rfl rfl <| lx_move (.bool false) rfl rfl <| lx_move (.int .i64 ((gt ls i).1)) rfl rfl <| lx_move (.int .i64 ((gt ls i).2)) rfl rfl <| lx_eqlS rfl rfl rfl (fun c9 => ?_) (fun c9 => ?_)
                  · refine lx_pick false (.bool true) rfl rfl rfl <| lx_move (.bool true) rfl rfl <| lx_skip rfl <| lx_skip rfl <| lx_skip rfl <| lx_skip rfl <| lx_skip rfl <| lx_skip rfl <| lx_skip rfl <| lx_pick true (.bool true) rfl rfl rfl <| lx_nil <| wi_true rfl <| wi_seq <| wi_reg rfl <| lx_assign (.int .i64 100) rfl rfl <| lx_nil <| ?_
                    -- R8
                    refine wi_ret ⟨.int .i64 100, (res_one rfl rfl), ⟨?_, rfl⟩⟩
                    · first | (unfold chkNet; first | rw [if_pos (by omega)] | rw [if_neg (by omega), if_pos (by omega)]; done) | (rw [chkNet_bad (by omega) (by omega) (by omega) (i := i) (by omega) (show validL n (gt ls i) = false from decide_eq_false (by omega))]; done) | rw [chkNet_all (by omega) (by omega) (by omega) (fun j hj => he j (by omega))]
                  · refine lx_pick false (.bool false) rfl rfl rfl <| lx_move (.bool false) rfl rfl <| lx_move (.bool true) rfl rfl <| lx_notB false rfl rfl rfl <| lx_move (.bool false) rfl rfl <| lx_skip rfl <| lx_skip rfl <| lx_skip rfl <| lx_pick false (.bool false) rfl rfl rfl <| lx_pick false (.bool false) rfl rfl rfl <| lx_nil <| wi_false rfl <| wi_skip <| wi_inBlock <| wi_reg rfl <| lx_move (.int .i64 ((i : Nat) : Int)) rfl rfl <| lx_add (((i + 1 : Nat) : Int)) rfl rfl rfl (by omega) (by omega) (by omega) <| lx_assign (.int .i64 ((i + 1 : Nat) : Int)) rfl rfl <| lx_nil <| ?_
                    -- L0.1
                    refine IH1 _ _ (i + 1) (agree_ups rfl agree_self) ⟨rfl, trivial⟩ ⟨rfl, ?_, ?_⟩ ?_
                    · try dsimp only
                      omega
                    · try dsimp only
                      intro j hj; by_cases hji : j = i
                      · subst hji; exact decide_eq_true (by omega)
                      · exact he j (by omega)
                    · first | omega | (dsimp only; omega)
        · refine lx_nil <| wi_false rfl <| wi_exit rfl <| wi_seq <| wi_reg rfl <| lx_assign (.int .i64 0) rfl rfl <| lx_nil <| ?_
          -- R9
          refine wi_ret ⟨.int .i64 0, (res_one rfl rfl), ⟨?_, rfl⟩⟩
          · first | (unfold chkNet; first | rw [if_pos (by omega)] | rw [if_neg (by omega), if_pos (by omega)]; done) | (rw [chkNet_bad (by omega) (by omega) (by omega) (i := i) (by omega) (show validL n (gt ls i) = false from decide_eq_false (by omega))]; done) | rw [chkNet_all (by omega) (by omega) (by omega) (fun j hj => he j (by omega))]

set_option maxRecDepth 10000 in
theorem sortChecks_spec (h : Heap) (n : Int) (vl : Value) (ls : List (Int × Int)) (vv : Value) (xs : List Int) (hr_vl : RdE encP h vl ls) (hr_vv : RdE encI h vv xs) (hp1 : -9223372036854775808 ≤ n) (hp2 : n ≤ 9223372036854775807) (hp3 : ls.length ≤ 9223372036854775807) (hp4 : xs.length ≤ 9223372036854775807) : Fx Try.prog 11 [.int .i64 n, vl, vv] h (fun v h' => v = .bool true ∧ Ext h.size h h') := by
  refine fx_intro (n := 158) [(0, .int .i64 n), (1, vl), (2, vv)] Try.func11 rfl rfl (by simp) ⟨rfl, rfl, rfl, trivial⟩ fun g0 => ?_
  refine wi_seq <| wi_reg rfl <| lx_assign (.bool false) rfl rfl <| lx_nil <| wi_seq <| wi_reg rfl <| lx_assign (.slice none 0 0) rfl rfl <| lx_nil <| wi_seq <| wi_reg rfl <| lx_move (.slice none 0 0) rfl rfl <| lx_move (vl) rfl rfl <| lx_move (vl) rfl rfl <| lx_len rfl Try.underlying38 hr_vl rfl <| lx_min (((min ls.length 203 : Nat) : Int)) rfl rfl rfl (by omega) <| lx_slice (E := encP) 0 (min ls.length 203) rfl eT38 rfl rfl ⟨_, rfl⟩ hr_vl (by omega) (by omega) fun v1 hs1 hso1 => ?_
  have hr1 := sl_rd hr_vl hs1 (by omega)
  refine lx_append (E := encP) (B := h.size) (xs := []) (ys := ls.take (min ls.length 203)) rfl rfl eT38 (owE_nil encP _ h.size 60) hr1 rfl rfl (by first | omega | (simp only [List.length_nil, List.length_take]; omega)) (by first | omega | (simp only [List.length_nil, List.length_take]; omega)) (Nat.le_refl h.size) (fun _ _ => trivial) fun v2 h1 ho1 hc1 hg1 => ?_
  have hx0_1 := (owE_nil encP _ h.size 60).ext hc1 (Nat.le_refl h.size)
  rw [List.nil_append] at ho1
  refine lx_assign (v2) rfl rfl <| lx_nil <| wi_seq <| wi_reg rfl <| ?_
  obtain ⟨net, hnet⟩ : ∃ x, x = ls.take (min ls.length 203) := ⟨_, rfl⟩
  rw [← hnet] at ho1
  have hnl : net.length ≤ 203 := by rw [hnet]; simp only [List.length_take]; omega
  refine lx_move (.int .i64 n) rfl rfl <| lx_move (v2) rfl rfl <| lx_call [.int .i64 n, v2, .bool false] rfl rfl Try.call44 rfl (rcheckC_spec h1 n v2 net ho1.rd (by omega)) (fun _ _ _ => trivial) ?_
  rintro _ h2 ⟨rfl, rfl⟩
  refine lx_assign (.int .i64 (chkNet validC n net)) rfl rfl <| lx_nil <| wi_seq <| wi_seq <| wi_reg rfl <| lx_move (.int .i64 n) rfl rfl <| lx_move (v2) rfl rfl <| lx_call [.int .i64 n, v2] rfl rfl Try.call45 rfl (check_spec h1 n v2 net ho1.rd (by omega)) (fun _ _ _ => trivial) ?_
  rintro _ h3 ⟨rfl, hx1⟩
  have hx0_2 := hx0_1.trans2 hx1 hx0_1.size
  have ho2 := ho1.extS hx1
  refine lx_move (.int .i64 (chkNet validC n net)) rfl rfl <| lx_neqF rfl rfl rfl (fun h => h rfl) <| lx_nil <| wi_false rfl <| wi_skip <| wi_seq <| wi_reg rfl <| lx_move (.int .i64 n) rfl rfl <| lx_move (v2) rfl rfl <| lx_move (vv) rfl rfl <| lx_call [.int .i64 n, v2, vv] rfl rfl Try.call34 rfl (run_spec2 h3 n v2 net vv xs ho2.rd (hr_vv.extS hx0_2) (by omega) (by omega)) (fun _ _ _ => trivial) ?_
  rintro _ h4 ⟨vx, ys, rfl, ho3, hrv_1, hx2⟩
  have hx0_3 := hx0_2.trans2 hx2 hx0_2.size
  have ho4 := ho2.extS hx2
  have ho5 := ho3.base hx0_2.size
  refine lx_move (.tuple #[vx, .int .i64 (runE n net xs)]) rfl rfl <| lx_extract (vx) rfl rfl rfl <| lx_extract (.int .i64 (runE n net xs)) rfl rfl rfl <| lx_assign (vx) rfl rfl <| lx_assign (.int .i64 (runE n net xs)) rfl rfl <| lx_nil <| wi_seq <| wi_seq <| wi_reg rfl <| lx_move (.int .i64 (chkNet validC n net)) rfl rfl <| lx_eqlS rfl rfl rfl (fun c1 => ?_) (fun c1 => ?_)
  · refine lx_move (.bool true) rfl rfl <| lx_move (vv) rfl rfl <| lx_len rfl Try.underlying29 hr_vv rfl <| lx_move (.int .i64 n) rfl rfl <| lx_neqS rfl rfl rfl (fun c2 => ?_) (fun c2 => ?_)
    · refine lx_pick true (.bool true) rfl rfl rfl <| lx_nil <| wi_true rfl <| wi_seq <| wi_reg rfl <| ?_
      have hre : runE n net xs = 7 := by unfold runE; rw [if_neg (by omega), if_pos (by omega)]
      obtain rfl := bad_ hrv_1 (by omega)
      refine lx_move (.int .i64 (runE n net xs)) rfl rfl <| lx_neqF rfl rfl rfl (by omega) <| lx_move (.bool false) rfl rfl <| lx_move (vx) rfl rfl <| lx_len rfl Try.underlying29 ho5.rd rfl <| lx_neqF rfl rfl rfl (by simp) <| lx_pick false (.bool false) rfl rfl rfl <| lx_nil <| wi_false rfl <| wi_skip <| wi_seq <| wi_seq <| wi_reg rfl <| lx_move (.int .i64 (chkNet validC n net)) rfl rfl <| lx_neqF rfl rfl rfl (by omega) <| lx_nil <| wi_false rfl <| wi_skip <| wi_seq <| wi_reg rfl <| lx_move (.int .i64 n) rfl rfl <| lx_move (v2) rfl rfl <| lx_call [.int .i64 n, v2] rfl rfl Try.call25 rfl (straight_spec h4 n v2 net ho4.rd (by omega)) (fun _ _ _ => trivial) ?_
      rintro _ h5 ⟨vs, vw, ms, ws, rfl, ho6, ho7, hst, hx3⟩
      have hx0_4 := hx0_3.trans2 hx3 hx0_3.size
      have ho8 := ho4.extS hx3
      have ho9 := ho5.extS hx3
      have ho10 := ho6.base hx0_3.size
      have ho11 := ho7.base hx0_3.size
      refine lx_move (.tuple #[vs, vw, .int .i64 (chkNet validL n net)]) rfl rfl <| lx_extract (vs) rfl rfl rfl <| lx_extract (vw) rfl rfl rfl <| lx_extract (.int .i64 (chkNet validL n net)) rfl rfl rfl <| lx_assign (vs) rfl rfl <| lx_assign (vw) rfl rfl <| lx_assign (.int .i64 (chkNet validL n net)) rfl rfl <| lx_nil <| wi_seq <| wi_seq <| wi_reg rfl <| lx_move (.int .i64 n) rfl rfl <| lx_move (v2) rfl rfl <| lx_call [.int .i64 n, v2, .bool true] rfl rfl Try.call44 rfl (rcheckL_spec h5 n v2 net ho8.rd (by omega)) (fun _ _ _ => trivial) ?_
      rintro _ h6 ⟨rfl, rfl⟩
      refine lx_assign (.int .i64 (chkNet validL n net)) rfl rfl <| lx_nil <| wi_seq <| wi_reg rfl <| lx_move (.int .i64 (chkNet validL n net)) rfl rfl <| lx_neqS rfl rfl rfl (fun c3 => ?_) (fun c3 => ?_)
      · refine lx_nil <| wi_true rfl <| wi_seq <| wi_reg rfl <| ?_
        obtain ⟨rfl, rfl⟩ := bad_ hst (by omega)
        refine lx_move (.int .i64 (chkNet validL n net)) rfl rfl <| lx_move (.int .i64 (chkNet validL n net)) rfl rfl <| lx_eqlT rfl rfl rfl rfl <| lx_move (.bool true) rfl rfl <| lx_move (vs) rfl rfl <| lx_len rfl Try.underlying38 ho10.rd rfl <| lx_move (vw) rfl rfl <| lx_len rfl Try.underlying35 ho11.rd rfl <| lx_add ((0 : Int)) rfl rfl rfl (by simp) (by simp) (by simp) <| lx_eqlT rfl rfl rfl (by decide) <| lx_pick true (.bool true) rfl rfl rfl <| lx_move (.bool true) rfl rfl <| lx_call [] rfl rfl Try.call15 rfl (awake_spec h5 ) (fun _ _ _ => trivial) ?_
        rintro _ h7 ⟨rfl, hx4⟩
        have hx0_5 := hx0_4.trans2 hx4 hx0_4.size
        have ho12 := ho8.extS hx4
        have ho13 := ho9.extS hx4
        have ho14 := ho10.extS hx4
        have ho15 := ho11.extS hx4
        refine lx_pick true (.bool true) rfl rfl rfl <| lx_assign (.bool true) rfl rfl <| lx_nil <| ?_
        -- R1
        refine wi_ret ⟨.bool true, (res_one rfl rfl), ⟨rfl, hx0_5⟩⟩
      · refine lx_nil <| wi_false rfl <| wi_skip <| wi_seq <| wi_reg rfl <| lx_move (.int .i64 (chkNet validL n net)) rfl rfl <| lx_eqlT rfl rfl rfl (by omega) <| lx_move (.bool true) rfl rfl <| lx_call [] rfl rfl Try.call15 rfl (awake_spec h5 ) (fun _ _ _ => trivial) ?_
        rintro _ h8 ⟨rfl, hx5⟩
        have hx0_6 := hx0_4.trans2 hx5 hx0_4.size
        have ho16 := ho8.extS hx5
        have ho17 := ho9.extS hx5
        have ho18 := ho10.extS hx5
        have ho19 := ho11.extS hx5
        refine lx_pick true (.bool true) rfl rfl rfl <| lx_assign (.bool true) rfl rfl <| lx_nil <| ?_
        -- R2
        refine wi_ret ⟨.bool true, (res_one rfl rfl), ⟨rfl, hx0_6⟩⟩
    · refine lx_pick true (.bool false) rfl rfl rfl <| lx_nil <| wi_false rfl <| wi_skip <| wi_seq <| wi_seq <| wi_reg rfl <| lx_move (.int .i64 (chkNet validC n net)) rfl rfl <| lx_neqF rfl rfl rfl (by omega) <| lx_nil <| wi_false rfl <| wi_skip <| wi_seq <| wi_reg rfl <| lx_move (.int .i64 n) rfl rfl <| lx_move (v2) rfl rfl <| lx_call [.int .i64 n, v2] rfl rfl Try.call25 rfl (straight_spec h4 n v2 net ho4.rd (by omega)) (fun _ _ _ => trivial) ?_
      rintro _ h9 ⟨vs, vw, ms, ws, rfl, ho20, ho21, hst, hx6⟩
      have hx0_7 := hx0_3.trans2 hx6 hx0_3.size
      have ho22 := ho4.extS hx6
      have ho23 := ho5.extS hx6
      have ho24 := ho20.base hx0_3.size
      have ho25 := ho21.base hx0_3.size
      refine lx_move (.tuple #[vs, vw, .int .i64 (chkNet validL n net)]) rfl rfl <| lx_extract (vs) rfl rfl rfl <| lx_extract (vw) rfl rfl rfl <| lx_extract (.int .i64 (chkNet validL n net)) rfl rfl rfl <| lx_assign (vs) rfl rfl <| lx_assign (vw) rfl rfl <| lx_assign (.int .i64 (chkNet validL n net)) rfl rfl <| lx_nil <| wi_seq <| wi_seq <| wi_reg rfl <| lx_move (.int .i64 n) rfl rfl <| lx_move (v2) rfl rfl <| lx_call [.int .i64 n, v2, .bool true] rfl rfl Try.call44 rfl (rcheckL_spec h9 n v2 net ho22.rd (by omega)) (fun _ _ _ => trivial) ?_
      rintro _ h10 ⟨rfl, rfl⟩
      refine lx_assign (.int .i64 (chkNet validL n net)) rfl rfl <| lx_nil <| wi_seq <| wi_reg rfl <| lx_move (.int .i64 (chkNet validL n net)) rfl rfl <| lx_neqS rfl rfl rfl (fun c4 => ?_) (fun c4 => ?_)
      · refine lx_nil <| wi_true rfl <| wi_seq <| wi_reg rfl <| ?_
        obtain ⟨rfl, rfl⟩ := bad_ hst (by omega)
        refine lx_move (.int .i64 (chkNet validL n net)) rfl rfl <| lx_move (.int .i64 (chkNet validL n net)) rfl rfl <| lx_eqlT rfl rfl rfl rfl <| lx_move (.bool true) rfl rfl <| lx_move (vs) rfl rfl <| lx_len rfl Try.underlying38 ho24.rd rfl <| lx_move (vw) rfl rfl <| lx_len rfl Try.underlying35 ho25.rd rfl <| lx_add ((0 : Int)) rfl rfl rfl (by simp) (by simp) (by simp) <| lx_eqlT rfl rfl rfl (by decide) <| lx_pick true (.bool true) rfl rfl rfl <| lx_move (.bool true) rfl rfl <| lx_call [] rfl rfl Try.call15 rfl (awake_spec h9 ) (fun _ _ _ => trivial) ?_
        rintro _ h11 ⟨rfl, hx7⟩
        have hx0_8 := hx0_7.trans2 hx7 hx0_7.size
        have ho26 := ho22.extS hx7
        have ho27 := ho23.extS hx7
        have ho28 := ho24.extS hx7
        have ho29 := ho25.extS hx7
        refine lx_pick true (.bool true) rfl rfl rfl <| lx_assign (.bool true) rfl rfl <| lx_nil <| ?_
        -- R3
        refine wi_ret ⟨.bool true, (res_one rfl rfl), ⟨rfl, hx0_8⟩⟩
      · refine lx_nil <| wi_false rfl <| wi_skip <| wi_seq <| wi_reg rfl <| lx_move (.int .i64 (chkNet validL n net)) rfl rfl <| lx_eqlT rfl rfl rfl (by omega) <| lx_move (.bool true) rfl rfl <| lx_call [] rfl rfl Try.call15 rfl (awake_spec h9 ) (fun _ _ _ => trivial) ?_
        rintro _ h12 ⟨rfl, hx8⟩
        have hx0_9 := hx0_7.trans2 hx8 hx0_7.size
        have ho30 := ho22.extS hx8
        have ho31 := ho23.extS hx8
        have ho32 := ho24.extS hx8
        have ho33 := ho25.extS hx8
        refine lx_pick true (.bool true) rfl rfl rfl <| lx_assign (.bool true) rfl rfl <| lx_nil <| ?_
        -- R4
        refine wi_ret ⟨.bool true, (res_one rfl rfl), ⟨rfl, hx0_9⟩⟩
  · refine lx_move (.bool false) rfl rfl <| lx_skip rfl <| lx_skip rfl <| lx_skip rfl <| lx_skip rfl <| lx_pick false (.bool false) rfl rfl rfl <| lx_nil <| wi_false rfl <| wi_skip <| wi_seq <| wi_seq <| wi_reg rfl <| lx_move (.int .i64 (chkNet validC n net)) rfl rfl <| lx_neqT rfl rfl rfl (by omega) <| lx_nil <| wi_true rfl <| wi_seq <| wi_reg rfl <| lx_move (.int .i64 n) rfl rfl <| lx_move (v2) rfl rfl <| lx_call [.int .i64 n, v2] rfl rfl Try.call35 rfl (fails_spec h4 n v2 net ho4.rd (by omega)) (fun _ _ _ => trivial) ?_
    rintro _ h13 ⟨p_1, b_1, rfl, hf_1, hx9⟩
    have hx0_10 := hx0_3.trans2 hx9 hx0_3.size
    have ho34 := ho4.extS hx9
    have ho35 := ho5.extS hx9
    refine lx_move (.tuple #[.int .i64 ((p_1 : Nat) : Int), .bool b_1, .int .i64 (chkNet validC n net)]) rfl rfl <| lx_extract (.int .i64 ((p_1 : Nat) : Int)) rfl rfl rfl <| lx_extract (.bool b_1) rfl rfl rfl <| lx_extract (.int .i64 (chkNet validC n net)) rfl rfl rfl <| lx_assign (.int .i64 ((p_1 : Nat) : Int)) rfl rfl <| lx_assign (.bool b_1) rfl rfl <| lx_assign (.int .i64 (chkNet validC n net)) rfl rfl <| lx_nil <| wi_seq <| wi_reg rfl <| lx_move (.int .i64 n) rfl rfl <| lx_move (v2) rfl rfl <| lx_call [.int .i64 n, v2] rfl rfl Try.call36 rfl (outputs_err_spec h13 n v2 net ho34.rd (by omega) (by omega)) (fun _ _ _ => trivial) ?_
    rintro _ h14 ⟨rfl, hx10⟩
    have hx0_11 := hx0_10.trans2 hx10 hx0_10.size
    have ho36 := ho34.extS hx10
    have ho37 := ho35.extS hx10
    refine lx_move (.tuple #[.slice none 0 0, .int .i64 (chkNet validC n net)]) rfl rfl <| lx_extract (.slice none 0 0) rfl rfl rfl <| lx_extract (.int .i64 (chkNet validC n net)) rfl rfl rfl <| lx_assign (.slice none 0 0) rfl rfl <| lx_assign (.int .i64 (chkNet validC n net)) rfl rfl <| lx_nil <| wi_seq <| wi_reg rfl <| lx_move (.int .i64 n) rfl rfl <| lx_move (v2) rfl rfl <| lx_call [.int .i64 n, v2] rfl rfl Try.call37 rfl (idle_err_spec h14 n v2 net ho36.rd (by omega) (by omega)) (fun _ _ _ => trivial) ?_
    rintro _ h15 ⟨rfl, hx11⟩
    have hx0_12 := hx0_11.trans2 hx11 hx0_11.size
    have ho38 := ho36.extS hx11
    have ho39 := ho37.extS hx11
    refine lx_move (.tuple #[.slice none 0 0, .int .i64 (chkNet validC n net)]) rfl rfl <| lx_extract (.slice none 0 0) rfl rfl rfl <| lx_extract (.int .i64 (chkNet validC n net)) rfl rfl rfl <| lx_assign (.slice none 0 0) rfl rfl <| lx_assign (.int .i64 (chkNet validC n net)) rfl rfl <| lx_nil <| wi_seq <| wi_reg rfl <| lx_move (.int .i64 n) rfl rfl <| lx_move (v2) rfl rfl <| lx_call [.int .i64 n, v2] rfl rfl Try.call38 rfl (layers_err_spec h15 n v2 net ho38.rd (by omega) (by omega)) (fun _ _ _ => trivial) ?_
    rintro _ h16 ⟨rfl, hx12⟩
    have hx0_13 := hx0_12.trans2 hx12 hx0_12.size
    have ho40 := ho38.extS hx12
    have ho41 := ho39.extS hx12
    refine lx_move (.tuple #[.slice none 0 0, .int .i64 (chkNet validC n net)]) rfl rfl <| lx_extract (.slice none 0 0) rfl rfl rfl <| lx_extract (.int .i64 (chkNet validC n net)) rfl rfl rfl <| lx_assign (.slice none 0 0) rfl rfl <| lx_assign (.int .i64 (chkNet validC n net)) rfl rfl <| lx_nil <| wi_seq <| wi_reg rfl <| ?_
    have hre : runE n net xs = chkNet validC n net := by unfold runE; rw [if_pos (by omega)]
    obtain rfl := bad_ hrv_1 (by omega)
    obtain ⟨rfl, rfl⟩ := bad_ hf_1 (by omega)
    refine lx_move (.int .i64 (runE n net xs)) rfl rfl <| lx_move (.int .i64 (chkNet validC n net)) rfl rfl <| lx_neqF rfl rfl rfl (by omega) <| lx_move (.bool false) rfl rfl <| lx_move (.int .i64 (chkNet validC n net)) rfl rfl <| lx_move (.int .i64 (chkNet validC n net)) rfl rfl <| lx_neqF rfl rfl rfl (fun h => h rfl) <| lx_pick false (.bool false) rfl rfl rfl <| lx_move (.bool false) rfl rfl <| lx_move (.int .i64 (chkNet validC n net)) rfl rfl <| lx_move (.int .i64 (chkNet validC n net)) rfl rfl <| lx_neqF rfl rfl rfl (fun h => h rfl) <| lx_pick false (.bool false) rfl rfl rfl <| lx_move (.bool false) rfl rfl <| lx_move (.int .i64 (chkNet validC n net)) rfl rfl <| lx_move (.int .i64 (chkNet validC n net)) rfl rfl <| lx_neqF rfl rfl rfl (fun h => h rfl) <| lx_pick false (.bool false) rfl rfl rfl <| lx_move (.bool false) rfl rfl <| lx_move (.int .i64 (chkNet validC n net)) rfl rfl <| lx_move (.int .i64 (chkNet validC n net)) rfl rfl <| lx_neqF rfl rfl rfl (fun h => h rfl) <| lx_pick false (.bool false) rfl rfl rfl <| lx_move (.bool false) rfl rfl <| lx_move (.bool false) rfl rfl <| lx_pick false (.bool false) rfl rfl rfl <| lx_move (.bool false) rfl rfl <| lx_move (vx) rfl rfl <| lx_len rfl Try.underlying29 ho41.rd rfl <| lx_move (.slice none 0 0) rfl rfl <| lx_len (E := encI) (xs := []) rfl Try.underlying35 (owE_nil encI h16 0 0).rd rfl <| lx_add ((0 : Int)) rfl rfl rfl (by simp) (by simp) (by simp) <| lx_move (.slice none 0 0) rfl rfl <| lx_len (E := encI) (xs := []) rfl Try.underlying35 (owE_nil encI h16 0 0).rd rfl <| lx_add ((0 : Int)) rfl rfl rfl (by simp) (by simp) (by simp) <| lx_move (.slice none 0 0) rfl rfl <| lx_len (E := encHd) (xs := []) rfl Try.underlying65 (owE_nil encHd h16 0 0).rd rfl <| lx_add ((0 : Int)) rfl rfl rfl (by simp) (by simp) (by simp) <| lx_neqF rfl rfl rfl (by decide) <| lx_pick false (.bool false) rfl rfl rfl <| lx_nil <| wi_false rfl <| wi_skip <| wi_seq <| wi_reg rfl <| lx_move (.int .i64 n) rfl rfl <| lx_move (v2) rfl rfl <| lx_call [.int .i64 n, v2] rfl rfl Try.call25 rfl (straight_spec h16 n v2 net ho40.rd (by omega)) (fun _ _ _ => trivial) ?_
    rintro _ h17 ⟨vs, vw, ms, ws, rfl, ho42, ho43, hst, hx13⟩
    have hx0_14 := hx0_13.trans2 hx13 hx0_13.size
    have ho44 := ho40.extS hx13
    have ho45 := ho41.extS hx13
    have ho46 := ho42.base hx0_13.size
    have ho47 := ho43.base hx0_13.size
    refine lx_move (.tuple #[vs, vw, .int .i64 (chkNet validL n net)]) rfl rfl <| lx_extract (vs) rfl rfl rfl <| lx_extract (vw) rfl rfl rfl <| lx_extract (.int .i64 (chkNet validL n net)) rfl rfl rfl <| lx_assign (vs) rfl rfl <| lx_assign (vw) rfl rfl <| lx_assign (.int .i64 (chkNet validL n net)) rfl rfl <| lx_nil <| wi_seq <| wi_seq <| wi_reg rfl <| lx_move (.int .i64 n) rfl rfl <| lx_move (v2) rfl rfl <| lx_call [.int .i64 n, v2, .bool true] rfl rfl Try.call44 rfl (rcheckL_spec h17 n v2 net ho44.rd (by omega)) (fun _ _ _ => trivial) ?_
    rintro _ h18 ⟨rfl, rfl⟩
    refine lx_assign (.int .i64 (chkNet validL n net)) rfl rfl <| lx_nil <| wi_seq <| wi_reg rfl <| lx_move (.int .i64 (chkNet validL n net)) rfl rfl <| lx_neqS rfl rfl rfl (fun c5 => ?_) (fun c5 => ?_)
    · refine lx_nil <| wi_true rfl <| wi_seq <| wi_reg rfl <| ?_
      obtain ⟨rfl, rfl⟩ := bad_ hst (by omega)
      refine lx_move (.int .i64 (chkNet validL n net)) rfl rfl <| lx_move (.int .i64 (chkNet validL n net)) rfl rfl <| lx_eqlT rfl rfl rfl rfl <| lx_move (.bool true) rfl rfl <| lx_move (vs) rfl rfl <| lx_len rfl Try.underlying38 ho46.rd rfl <| lx_move (vw) rfl rfl <| lx_len rfl Try.underlying35 ho47.rd rfl <| lx_add ((0 : Int)) rfl rfl rfl (by simp) (by simp) (by simp) <| lx_eqlT rfl rfl rfl (by decide) <| lx_pick true (.bool true) rfl rfl rfl <| lx_move (.bool true) rfl rfl <| lx_call [] rfl rfl Try.call15 rfl (awake_spec h17 ) (fun _ _ _ => trivial) ?_
      rintro _ h19 ⟨rfl, hx14⟩
      have hx0_15 := hx0_14.trans2 hx14 hx0_14.size
      have ho48 := ho44.extS hx14
      have ho49 := ho45.extS hx14
      have ho50 := ho46.extS hx14
      have ho51 := ho47.extS hx14
      refine lx_pick true (.bool true) rfl rfl rfl <| lx_assign (.bool true) rfl rfl <| lx_nil <| ?_
      -- R5
      refine wi_ret ⟨.bool true, (res_one rfl rfl), ⟨rfl, hx0_15⟩⟩
    · refine lx_nil <| wi_false rfl <| wi_skip <| wi_seq <| wi_reg rfl <| lx_move (.int .i64 (chkNet validL n net)) rfl rfl <| lx_eqlT rfl rfl rfl (by omega) <| lx_move (.bool true) rfl rfl <| lx_call [] rfl rfl Try.call15 rfl (awake_spec h17 ) (fun _ _ _ => trivial) ?_
      rintro _ h20 ⟨rfl, hx15⟩
      have hx0_16 := hx0_14.trans2 hx15 hx0_14.size
      have ho52 := ho44.extS hx15
      have ho53 := ho45.extS hx15
      have ho54 := ho46.extS hx15
      have ho55 := ho47.extS hx15
      refine lx_pick true (.bool true) rfl rfl rfl <| lx_assign (.bool true) rfl rfl <| lx_nil <| ?_
      -- R6
      refine wi_ret ⟨.bool true, (res_one rfl rfl), ⟨rfl, hx0_16⟩⟩

end Go.Proofs.Ytjfickfgpkejpaa
