/-
  Walks: the merge exchange.
-/
import Derived.Test.YtdokijbdnajhgaaOTypes
import Derived.Test.YtdokijbdnajhgaaXMake
set_option linter.unusedSimpArgs false
set_option linter.unusedVariables false
namespace Go.Proofs.Ytdokijbdnajhgaa
open Go Go.X

theorem max_sub (m d : Nat) : max (0 : Int) ((m : Int) - (d : Int)) = ((m - d : Nat) : Int) := by
  by_cases h : d ≤ m
  · rw [Int.max_eq_right (by omega)]; omega
  · rw [Int.max_eq_left (by omega)]; omega

set_option maxRecDepth 10000 in
theorem merge_spec (h : Heap) (n : Int) : Fx Try.prog 71 [.int .i64 n] h (fun v h' => ∃ (s : Value) (ms : List (Int × Int)), v = .tuple #[s, .int .i64 (if n < 1 ∨ 10 < n then 1 else 0)] ∧ OwE encP h' h.size 85 s ms ∧ (ms = if n < 1 ∨ 10 < n then [] else mergeF n.toNat) ∧ Ext h.size h h') := by
  refine fx_intro (n := 65) [(0, .int .i64 n)] Try.func71 rfl rfl (by simp) ⟨rfl, trivial⟩ fun g0 => ?_
  refine wi_seq <| wi_reg rfl <| lx_assign (.slice none 0 0) rfl rfl <| lx_assign (.int .i64 0) rfl rfl <| lx_nil <| wi_seq <| wi_seq <| wi_reg rfl <| lx_move (.int .i64 n) rfl rfl <| lx_lssS rfl rfl rfl (fun c1 => ?_) (fun c1 => ?_)
  · refine lx_move (.bool true) rfl rfl <| lx_skip rfl <| lx_skip rfl <| lx_pick true (.bool true) rfl rfl rfl <| lx_nil <| wi_true rfl <| wi_seq <| wi_reg rfl <| lx_assign (.slice none 0 0) rfl rfl <| lx_assign (.int .i64 1) rfl rfl <| lx_nil <| ?_
    -- R1
    refine wi_ret ⟨.tuple #[.slice none 0 0, .int .i64 1], (res_two rfl rfl rfl), ⟨.slice none 0 0, [], ?_, (owE_nil encP _ h.size 85), ?_, (Ext.refl _ _)⟩⟩
    · first | rfl | (simp; done) | (simp; omega)
    · rw [if_pos (by omega)]
  · refine lx_move (.bool false) rfl rfl <| lx_move (.int .i64 n) rfl rfl <| lx_gtrS rfl rfl rfl (fun c2 => ?_) (fun c2 => ?_)
    · refine lx_pick false (.bool true) rfl rfl rfl <| lx_nil <| wi_true rfl <| wi_seq <| wi_reg rfl <| lx_assign (.slice none 0 0) rfl rfl <| lx_assign (.int .i64 1) rfl rfl <| lx_nil <| ?_
      -- R2
      refine wi_ret ⟨.tuple #[.slice none 0 0, .int .i64 1], (res_two rfl rfl rfl), ⟨.slice none 0 0, [], ?_, (owE_nil encP _ h.size 85), ?_, (Ext.refl _ _)⟩⟩
      · first | rfl | (simp; done) | (simp; omega)
      · rw [if_pos (by omega)]
    · refine lx_pick false (.bool false) rfl rfl rfl <| lx_nil <| wi_false rfl <| wi_skip <| wi_seq <| wi_reg rfl <| ?_
      have hn0 : ¬ (n < 1 ∨ 10 < n) := by omega
      obtain ⟨m, rfl⟩ : ∃ m : Nat, n = ((m : Nat) : Int) := ⟨n.toNat, by omega⟩
      refine lx_assign (.int .i64 1) rfl rfl <| lx_nil <| wi_seq <| wi_block <| ?_
      refine wi_loop (σ := Nat × Nat) (rngB 17 23 [4]) (fun (ss : Nat × Nat) => [(4, .int .i64 ((ss.1 : Nat) : Int))]) (fun (ss : Nat × Nat) (hh : Heap) => h = hh ∧ (ss.1 = 2 ^ ss.2) ∧ (ss.2 = 0 ∨ 2 ^ ss.2 < m) ∧ (1 ≤ ss.1 ∧ ss.1 ≤ 10)) (fun (ss : Nat × Nat) => 10 - ss.1) (1, 0) ⟨rfl, trivial⟩ ⟨rfl, ?_, ?_, ?_⟩ ?_
      · try dsimp only
        first | done | rfl
      · try dsimp only
        exact .inl rfl
      · try dsimp only
        omega
      rintro g1 ⟨tp, T⟩ hh1 ⟨rfl, htp, hT1, htl⟩ IH1
      dsimp only at *
      refine wi_seq <| wi_seq <| wi_reg rfl <| lx_move (.int .i64 ((tp : Nat) : Int)) rfl rfl <| lx_mul (((2 * tp : Nat) : Int)) rfl rfl rfl (by omega) (by omega) (by omega) <| lx_move (.int .i64 ((m : Nat) : Int)) rfl rfl <| lx_lssS rfl rfl rfl (fun c3 => ?_) (fun c3 => ?_)
      · refine lx_nil <| wi_true rfl <| wi_skip <| wi_block <| wi_reg rfl <| lx_move (.int .i64 ((tp : Nat) : Int)) rfl rfl <| lx_mul (((tp * 2 : Nat) : Int)) rfl rfl rfl (by omega) (by omega) (by omega) <| lx_assign (.int .i64 ((tp * 2 : Nat) : Int)) rfl rfl <| lx_nil <| wi_inBlock <| ?_
        -- L0.1
        refine IH1 _ _ (tp * 2, T + 1) (agree_ups rfl agree_self) ⟨rfl, trivial⟩ ⟨rfl, ?_, ?_, ?_⟩ ?_
        · try dsimp only
          rw [Nat.pow_succ, ← htp]
        · try dsimp only
          refine .inr ?_
          rw [Nat.pow_succ, ← htp]; omega
        · try dsimp only
          omega
        · first | omega | (dsimp only; omega)
      · refine lx_nil <| wi_false rfl <| wi_exit rfl <| wi_seq <| wi_reg rfl <| ?_
        have hT := topT_eq (by omega) hT1 (by omega)
        have hTp := @pow_topT m
        rw [← hT] at hTp
        have hT3 := topT_le m
        rw [← hT] at hT3
        refine lx_assign (.slice none 0 0) rfl rfl <| lx_nil <| wi_seq <| wi_seq <| wi_reg rfl <| lx_move (.int .i64 ((tp : Nat) : Int)) rfl rfl <| lx_assign (.int .i64 ((tp : Nat) : Int)) rfl rfl <| lx_nil <| wi_block <| ?_
        refine wi_loop (σ := Nat × Nat × Value × (List (Int × Int))) (rngB 24 64 [5, 6, 7, 8, 9, 10]) (fun (ss : Nat × Nat × Value × (List (Int × Int))) => [(5, ss.2.2.1), (6, .int .i64 ((ss.1 : Nat) : Int))]) (fun (ss : Nat × Nat × Value × (List (Int × Int))) (hh : Heap) => OwE encP hh h.size 85 ss.2.2.1 ss.2.2.2 ∧ Ext h.size h hh ∧ (ss.1 = 2 ^ ss.2.1 / 2) ∧ (ss.2.1 ≤ T + 1) ∧ (ss.2.2.2 ++ outM m T ss.2.1 = outM m T (T + 1)) ∧ (m ≤ 1 → ss.2.2.2 = [])) (fun (ss : Nat × Nat × Value × (List (Int × Int))) => ss.2.1) (tp, T + 1, .slice none 0 0, []) ⟨rfl, rfl, trivial⟩ ⟨?_, (Ext.refl _ _), ?_, ?_, ?_, ?_⟩ ?_
        · first | exact (owE_nil encP _ h.size 85) | (simpa using (owE_nil encP _ h.size 85))
        · try dsimp only
          rw [Nat.pow_succ, ← htp]; omega
        · try dsimp only
          omega
        · try dsimp only
          first | done | rfl
        · try dsimp only
          intro _; rfl
        rintro g2 ⟨p, e, v, ms⟩ hh2 ⟨ho1, hx0_1, hp, heT, hms, hm1⟩ IH2
        dsimp only at *
        refine wi_seq <| wi_seq <| wi_reg rfl <| lx_move (.int .i64 ((p : Nat) : Int)) rfl rfl <| lx_gtrS rfl rfl rfl (fun c4 => ?_) (fun c4 => ?_)
        · refine lx_move (.bool true) rfl rfl <| lx_move (.int .i64 ((m : Nat) : Int)) rfl rfl <| lx_gtrS rfl rfl rfl (fun c5 => ?_) (fun c5 => ?_)
          · refine lx_pick true (.bool true) rfl rfl rfl <| lx_nil <| wi_true rfl <| wi_skip <| wi_seq <| wi_block <| wi_seq <| wi_reg rfl <| ?_
            obtain ⟨he0, hpe⟩ := half_pos hp (by omega)
            have hlen : (outM m T (T + 1)).length ≤ 31 := by rw [hT]; exact outM_short (by omega) (by omega)
            have hpl : p ≤ 8 := Nat.le_trans (by rw [hpe]; exact Nat.pow_le_pow_right (n := 2) (by omega) (show e - 1 ≤ T by omega)) hTp
            rw [outM_pos he0] at hms
            have hqp : 2 ^ T = p * 2 ^ (T - (e - 1)) := pass_q hpe heT
            refine lx_move (.int .i64 ((tp : Nat) : Int)) rfl rfl <| lx_move (.int .i64 ((p : Nat) : Int)) rfl rfl <| lx_assign (.int .i64 ((tp : Nat) : Int)) rfl rfl <| lx_assign (.int .i64 0) rfl rfl <| lx_assign (.int .i64 ((p : Nat) : Int)) rfl rfl <| lx_nil <| wi_block <| ?_
            refine wi_loop (σ := Nat × Nat × Nat × Nat × Value × (List (Int × Int))) (rngB 34 64 [5, 7, 8, 9, 10]) (fun (ss : Nat × Nat × Nat × Nat × Value × (List (Int × Int))) => [(5, ss.2.2.2.2.1), (7, .int .i64 ((ss.2.1 : Nat) : Int)), (8, .int .i64 ((ss.2.2.1 : Nat) : Int)), (9, .int .i64 ((ss.2.2.2.1 : Nat) : Int))]) (fun (ss : Nat × Nat × Nat × Nat × Value × (List (Int × Int))) (hh : Heap) => OwE encP hh h.size 85 ss.2.2.2.2.1 ss.2.2.2.2.2 ∧ Ext h.size h hh ∧ (ss.2.1 = p * 2 ^ ss.1) ∧ (ss.2.1 ≤ 8) ∧ (ss.2.2.2.1 ≤ 8 ∧ ss.2.2.1 ≤ 8) ∧ (ss.2.2.2.2.2 ++ (passM m p ss.1 ss.2.1 ss.2.2.1 ss.2.2.2.1 ++ outM m T (e - 1)) = outM m T (T + 1))) (fun (ss : Nat × Nat × Nat × Nat × Value × (List (Int × Int))) => ss.1) (T - (e - 1), tp, 0, p, v, ms) ⟨rfl, rfl, rfl, rfl, trivial⟩ ⟨?_, hx0_1, ?_, ?_, ?_, ?_⟩ ?_
            · first | exact ho1 | (simpa using ho1)
            · try dsimp only
              rw [htp]; exact hqp
            · try dsimp only
              rw [htp]; exact hTp
            · try dsimp only
              omega
            · try dsimp only
              rw [htp, hpe]; exact hms
            rintro g3 ⟨k, q, r, d, v, ms⟩ hh3 ⟨ho2, hx0_2, hq, hql, hdl, hms2⟩ IH3
            dsimp only at *
            rw [passM_eq, List.append_assoc] at hms2
            refine wi_block <| wi_seq <| wi_seq <| wi_reg rfl <| lx_move (.int .i64 ((m : Nat) : Int)) rfl rfl <| lx_move (.int .i64 ((d : Nat) : Int)) rfl rfl <| lx_sub ((((m : Nat) : Int)) - (((d : Nat) : Int))) rfl rfl rfl (by omega) (by omega) (by omega) <| lx_max (((m - d : Nat) : Int)) rfl rfl rfl (max_sub m d) <| lx_move (.int .i64 0) rfl rfl <| lx_nil <| wi_block <| ?_
            refine wi_loop (σ := Nat × Value × (List (Int × Int))) (rngB 38 55 [5, 10]) (fun (ss : Nat × Value × (List (Int × Int))) => [(5, ss.2.1), (38, .int .i64 ((ss.1 : Nat) : Int))]) (fun (ss : Nat × Value × (List (Int × Int))) (hh : Heap) => OwE encP hh h.size 85 ss.2.1 ss.2.2 ∧ Ext h.size h hh ∧ (ss.1 ≤ m) ∧ (ss.2.2 ++ (innerF p r d (m - d - ss.1) ss.1 ++ (passR m p k q ++ outM m T (e - 1))) = outM m T (T + 1))) (fun (ss : Nat × Value × (List (Int × Int))) => m - ss.1) (0, v, ms) ⟨rfl, rfl, trivial⟩ ⟨?_, hx0_2, ?_, ?_⟩ ?_
            · first | exact ho2 | (simpa using ho2)
            · try dsimp only
              omega
            · try dsimp only
              rw [Nat.sub_zero]; exact hms2
            rintro g4 ⟨i, v, ms⟩ hh4 ⟨ho3, hx0_3, hi, hms3⟩ IH4
            dsimp only at *
            have hml := app_len hms3
            refine wi_seq <| wi_reg rfl <| lx_lssS rfl rfl rfl (fun c6 => ?_) (fun c6 => ?_)
            · refine lx_nil <| wi_seq <| wi_true rfl <| wi_skip <| wi_seq <| wi_block <| wi_seq <| wi_reg rfl <| lx_move (.int .i64 ((i : Nat) : Int)) rfl rfl <| lx_assign (.int .i64 ((i : Nat) : Int)) rfl rfl <| lx_nil <| wi_seq <| wi_reg rfl <| ?_
              have hand := @and_le_l i p
              refine lx_move (.int .i64 ((i : Nat) : Int)) rfl rfl <| lx_move (.int .i64 ((p : Nat) : Int)) rfl rfl <| lx_and (m := i) (n := p) rfl rfl rfl (by show _ < 2 ^ 64; omega) (by show _ < 2 ^ 64; omega) (wrap_i64 (by omega) (by omega)) <| lx_move (.int .i64 ((r : Nat) : Int)) rfl rfl <| lx_eqlS rfl rfl rfl (fun c7 => ?_) (fun c7 => ?_)
              · refine lx_nil <| wi_true rfl <| wi_reg rfl <| lx_move (v) rfl rfl <| lx_move (.int .i64 ((i : Nat) : Int)) rfl rfl <| lx_move (.int .i64 ((i : Nat) : Int)) rfl rfl <| lx_move (.int .i64 ((d : Nat) : Int)) rfl rfl <| lx_add (((i + d : Nat) : Int)) rfl rfl rfl (by omega) (by omega) (by omega) <| lx_build (.agg #[.int .i64 ((i : Nat) : Int), .int .i64 ((i + d : Nat) : Int)]) [(0, .int .i64 ((i : Nat) : Int)), (1, .int .i64 ((i + d : Nat) : Int))] rfl rfl (fun w => bld85_2 _ _ w) <| lx_appendL (E := encP) (B := h.size) [(((i : Nat) : Int), ((i + d : Nat) : Int))] [.agg #[.int .i64 ((i : Nat) : Int), .int .i64 ((i + d : Nat) : Int)]] rfl rfl (fun _ => rfl) rfl eT22 rfl rfl rfl rfl ho3 (fun _ => rfl) (by show ms.length + 1 ≤ _; omega) (by show (ms.length + 1) * 16 ≤ _; omega) hx0_3.size (fun _ _ => trivial) fun u1 v1 h1 ho4 hc1 hg1 => ?_
                have hx0_4 := hx0_3.trans (ho3.ext hc1 hx0_3.size)
                refine lx_assign (v1) rfl rfl <| lx_nil <| wi_inBlock <| wi_reg rfl <| lx_add (((i + 1 : Nat) : Int)) rfl rfl rfl (by omega) (by omega) (by omega) <| lx_move (.int .i64 ((i + 1 : Nat) : Int)) rfl rfl <| lx_nil <| ?_
                -- L6.1
                refine IH4 _ _ (i + 1, v1, ms ++ [(((i : Nat) : Int), ((i + d : Nat) : Int))]) (agree_ups rfl agree_self) ⟨rfl, rfl, trivial⟩ ⟨?_, hx0_4, ?_, ?_⟩ ?_
                · first | exact ho4 | (simpa using ho4)
                · try dsimp only
                  omega
                · try dsimp only
                  exact (innerF_step (by omega) hms3).1 (by omega)
                · first | omega | (dsimp only; omega)
              · refine lx_nil <| wi_false rfl <| wi_skip <| wi_inBlock <| wi_reg rfl <| lx_add (((i + 1 : Nat) : Int)) rfl rfl rfl (by omega) (by omega) (by omega) <| lx_move (.int .i64 ((i + 1 : Nat) : Int)) rfl rfl <| lx_nil <| ?_
                -- L6.2
                refine IH4 _ _ (i + 1, v, ms) (agree_ups rfl agree_self) ⟨rfl, rfl, trivial⟩ ⟨?_, hx0_3, ?_, ?_⟩ ?_
                · first | exact ho3 | (simpa using ho3)
                · try dsimp only
                  omega
                · try dsimp only
                  exact (innerF_step (by omega) hms3).2 (by omega)
                · first | omega | (dsimp only; omega)
            · refine lx_nil <| wi_seq <| wi_false rfl <| wi_exit rfl <| wi_seq <| wi_seq <| wi_reg rfl <| lx_move (.int .i64 ((q : Nat) : Int)) rfl rfl <| lx_move (.int .i64 ((p : Nat) : Int)) rfl rfl <| lx_eqlS rfl rfl rfl (fun c8 => ?_) (fun c8 => ?_)
              · refine lx_nil <| wi_true rfl <| wi_exit rfl <| wi_inBlock <| wi_reg rfl <| lx_move (.int .i64 ((p : Nat) : Int)) rfl rfl <| lx_quo (m := p) (n := 2) rfl rfl rfl (by omega) (wrap_quo_i64 (by omega)) <| lx_assign (.int .i64 ((p / 2 : Nat) : Int)) rfl rfl <| lx_nil <| ?_
                -- L2.1
                refine IH2 _ _ (p / 2, e - 1, v, ms) (agree_ups rfl (agree_mix (rngB_sub (by decide) (by decide) rfl) (agree_ups rfl (agree_mix (rngB_sub (by decide) (by decide) rfl) (agree_ups rfl agree_self))))) ⟨rfl, rfl, trivial⟩ ⟨?_, hx0_3, ?_, ?_, ?_, ?_⟩ ?_
                · first | exact ho3 | (simpa using ho3)
                · try dsimp only
                  rw [hpe]
                · try dsimp only
                  omega
                · try dsimp only
                  have h9 := innerF_end (by omega) hms3
                  rw [(pass_k (by omega) hq).1 (by omega)] at h9
                  simpa [passR] using h9
                · try dsimp only
                  intro h1; omega
                · first | omega | (dsimp only; omega)
              · refine lx_nil <| wi_false rfl <| wi_skip <| wi_reg rfl <| ?_
                have hd1 := Nat.le_of_lt_succ (Nat.lt_succ_of_le hql)
                obtain ⟨hk0, hk1, hk2⟩ := (pass_k (by omega) hq).2 (by omega)
                refine lx_move (.int .i64 ((q : Nat) : Int)) rfl rfl <| lx_move (.int .i64 ((p : Nat) : Int)) rfl rfl <| lx_sub (((q - p : Nat) : Int)) rfl rfl rfl (by omega) (by omega) (by omega) <| lx_move (.int .i64 ((q : Nat) : Int)) rfl rfl <| lx_quo (m := q) (n := 2) rfl rfl rfl (by omega) (wrap_quo_i64 (by omega)) <| lx_move (.int .i64 ((p : Nat) : Int)) rfl rfl <| lx_assign (.int .i64 ((q - p : Nat) : Int)) rfl rfl <| lx_assign (.int .i64 ((q / 2 : Nat) : Int)) rfl rfl <| lx_assign (.int .i64 ((p : Nat) : Int)) rfl rfl <| lx_nil <| wi_inBlock <| ?_
                -- L4.1
                refine IH3 _ _ (k - 1, q / 2, p, q - p, v, ms) (agree_ups rfl (agree_mix (rngB_sub (by decide) (by decide) rfl) (agree_ups rfl agree_self))) ⟨rfl, rfl, rfl, rfl, trivial⟩ ⟨?_, hx0_3, ?_, ?_, ?_, ?_⟩ ?_
                · first | exact ho3 | (simpa using ho3)
                · try dsimp only
                  omega
                · try dsimp only
                  omega
                · try dsimp only
                  omega
                · try dsimp only
                  have h9 := innerF_end (by omega) hms3
                  rw [passR_pos hk0] at h9
                  exact h9
                · first | omega | (dsimp only; omega)
          · refine lx_pick true (.bool false) rfl rfl rfl <| lx_nil <| wi_false rfl <| wi_exit rfl <| wi_seq <| wi_reg rfl <| lx_move (v) rfl rfl <| lx_assign (v) rfl rfl <| lx_assign (.int .i64 0) rfl rfl <| lx_nil <| ?_
            -- R3
            refine wi_ret ⟨.tuple #[v, .int .i64 0], (res_two rfl rfl rfl), ⟨v, ms, ?_, ho1, ?_, hx0_1⟩⟩
            · rw [if_neg hn0]
            · rw [if_neg hn0, Int.toNat_natCast, hm1 (by omega)]
              unfold mergeF
              rw [if_pos (by omega)]
        · refine lx_move (.bool false) rfl rfl <| lx_skip rfl <| lx_skip rfl <| lx_pick false (.bool false) rfl rfl rfl <| lx_nil <| wi_false rfl <| wi_exit rfl <| wi_seq <| wi_reg rfl <| lx_move (v) rfl rfl <| lx_assign (v) rfl rfl <| lx_assign (.int .i64 0) rfl rfl <| lx_nil <| ?_
          -- R4
          refine wi_ret ⟨.tuple #[v, .int .i64 0], (res_two rfl rfl rfl), ⟨v, ms, ?_, ho1, ?_, hx0_1⟩⟩
          · rw [if_neg hn0]
          · have he := half_zero hp (by omega)
            subst he
            rw [if_neg hn0, Int.toNat_natCast]
            unfold mergeF
            by_cases hm9 : m ≤ 1
            · rw [if_pos hm9]; exact hm1 hm9
            · rw [if_neg hm9, ← hT, ← hms]; simp [outM]

end Go.Proofs.Ytdokijbdnajhgaa
