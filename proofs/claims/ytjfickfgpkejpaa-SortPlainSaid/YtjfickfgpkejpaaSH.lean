/-
  Walks: loose networks, the reference's merge exchange.
-/
import Derived.Test.YtjfickfgpkejpaaSG
import Derived.Test.YtjfickfgpkejpaaXStruct
import Derived.Test.YtjfickfgpkejpaaXLoose
set_option linter.unusedSimpArgs false
set_option linter.unusedVariables false
namespace Go.Proofs.Ytjfickfgpkejpaa
open Go Go.X

theorem st81 : Str2 Try.prog 81 3 { name := "from", type := 3, offset := 0, embedded := false, tag := "", pkgPath := "stadda/sort", byteOffset := 0 } { name := "to", type := 3, offset := 1, embedded := false, tag := "", pkgPath := "stadda/sort", byteOffset := 8 } := ⟨Try.underlying81, rfl, rfl, rfl, rfl, by decide, by decide, Try.underlying3, Try.sizeOf3, fl3, Try.eqGuardType81, by kernel_rfl⟩

theorem bld81_2 (x y : Int) (w : World) : (Instr.build 81 #[(0, .int .i64 x), (1, .int .i64 y)]).run Try.prog w = .ok (.agg #[.int .i64 x, .int .i64 y]) w := bldS2 st81 Try.zeroValue81 x y w

theorem ptr_ext {xs ys : List (Int × Int)} (hl : xs.length = ys.length) (h : ∀ j, j < xs.length → gt xs j = gt ys j) : xs = ys := gt_ext hl h

set_option maxRecDepth 10000 in
theorem nets_spec (h : Heap) (va : Value) (xs : List (Int × Int)) (vb : Value) (ys : List (Int × Int)) (hr_va : RdE encP h va xs) (hr_vb : RdE encP h vb ys) (hp1 : xs.length ≤ 4611686018427387904) (hp2 : ys.length ≤ 4611686018427387904) : Fx Try.prog 21 [va, vb] h (fun v h' => v = .bool (decide (xs = ys)) ∧ h = h') := by
  refine fx_intro (n := 26) [(0, va), (1, vb)] Try.func21 rfl rfl (by simp) ⟨rfl, rfl, trivial⟩ fun g0 => ?_
  refine wi_seq <| wi_reg rfl <| lx_assign (.bool false) rfl rfl <| lx_nil <| wi_seq <| wi_seq <| wi_reg rfl <| lx_move (va) rfl rfl <| lx_len rfl Try.underlying38 hr_va rfl <| lx_move (vb) rfl rfl <| lx_len rfl Try.underlying38 hr_vb rfl <| lx_neqS rfl rfl rfl (fun c1 => ?_) (fun c1 => ?_)
  · refine lx_nil <| wi_true rfl <| wi_seq <| wi_reg rfl <| lx_assign (.bool false) rfl rfl <| lx_nil <| ?_
    -- R1
    refine wi_ret ⟨.bool false, (res_one rfl rfl), ⟨?_, rfl⟩⟩
    · have e : xs ≠ ys := by intro e; rw [e] at c1; exact c1 rfl
      simp [e]
  · refine lx_nil <| wi_false rfl <| wi_skip <| wi_seq <| wi_seq <| wi_reg rfl <| lx_assign (.int .i64 0) rfl rfl <| lx_nil <| wi_block <| ?_
    refine wi_loop (σ := Nat) (rngB 11 26 [4, 5]) (fun (i : Nat) => [(5, .int .i64 ((i : Nat) : Int))]) (fun (i : Nat) (hh : Heap) => (i ≤ xs.length) ∧ (∀ j, j < i → gt xs j = gt ys j) ∧ h = hh) (fun (i : Nat) => xs.length - i) 0 ⟨rfl, trivial⟩ ⟨?_, ?_, rfl⟩ ?_
    · try dsimp only
      omega
    · try dsimp only
      intro j hj; omega
    rintro g1 i hh1 ⟨hi, he, rfl⟩ IH1
    refine wi_seq <| wi_seq <| wi_reg rfl <| lx_move (.int .i64 ((i : Nat) : Int)) rfl rfl <| lx_move (va) rfl rfl <| lx_len rfl Try.underlying38 hr_va rfl <| lx_lssS rfl rfl rfl (fun c2 => ?_) (fun c2 => ?_)
    · refine lx_nil <| wi_true rfl <| wi_skip <| wi_seq <| wi_block <| wi_seq <| wi_draw mo rfl (by decide +kernel) <| lx_move (va) rfl rfl <| lx_move (.int .i64 ((i : Nat) : Int)) rfl rfl <| lx_ix (i := i) rfl eT38 hr_va rfl rfl (by first | omega | (simp only [List.length_set, List.length_append, List.length_cons, List.length_nil, List.length_replicate, List.length_take, swp_length, exch_length]; omega)) <| lx_ldA (i := i) [.int .i64 ((gt xs i).1), .int .i64 ((gt xs i).2)] rfl rfl wd60 hr_va (by first | omega | (simp only [List.length_set, List.length_append, List.length_cons, List.length_nil, List.length_replicate, List.length_take, swp_length, exch_length]; omega)) rfl rfl <| lx_move (vb) rfl rfl <| lx_move (.int .i64 ((i : Nat) : Int)) rfl rfl <| lx_ix (i := i) rfl eT38 hr_vb rfl rfl (by first | omega | (simp only [List.length_set, List.length_append, List.length_cons, List.length_nil, List.length_replicate, List.length_take, swp_length, exch_length]; omega)) <| lx_ldA (i := i) [.int .i64 ((gt ys i).1), .int .i64 ((gt ys i).2)] rfl rfl wd60 hr_vb (by first | omega | (simp only [List.length_set, List.length_append, List.length_cons, List.length_nil, List.length_replicate, List.length_take, swp_length, exch_length]; omega)) rfl rfl <| lx_neqA2S rfl ar60 rfl rfl (fun c3 => ?_) (fun c3 => ?_)
      · refine lx_nil <| wi_true rfl <| wi_seq <| wi_reg rfl <| lx_assign (.bool false) rfl rfl <| lx_nil <| ?_
        -- R2
        refine wi_ret ⟨.bool false, (res_one rfl rfl), ⟨?_, rfl⟩⟩
        · have e : xs ≠ ys := by intro e; rw [e] at c3; exact c3 ⟨rfl, rfl⟩
          simp [e]
      · refine lx_nil <| wi_false rfl <| wi_skip <| wi_inBlock <| wi_reg rfl <| lx_move (.int .i64 ((i : Nat) : Int)) rfl rfl <| lx_add (((i + 1 : Nat) : Int)) rfl rfl rfl (by omega) (by omega) (by omega) <| lx_assign (.int .i64 ((i + 1 : Nat) : Int)) rfl rfl <| lx_nil <| ?_
        -- L0.1
        refine IH1 _ _ (i + 1) (agree_ups rfl agree_self) ⟨rfl, trivial⟩ ⟨?_, ?_, rfl⟩ ?_
        · try dsimp only
          omega
        · try dsimp only
          intro j hj; by_cases hji : j = i
          · subst hji; exact Prod.ext c3.1 c3.2
          · exact he j (by omega)
        · first | omega | (dsimp only; omega)
    · refine lx_nil <| wi_false rfl <| wi_exit rfl <| wi_seq <| wi_reg rfl <| lx_assign (.bool true) rfl rfl <| lx_nil <| ?_
      -- R3
      refine wi_ret ⟨.bool true, (res_one rfl rfl), ⟨?_, rfl⟩⟩
      · have e : xs = ys := gt_ext (by omega) (fun j hj => he j (by omega))
        simp [e]

set_option maxRecDepth 10000 in
theorem wires_spec (h : Heap) (n : Int) : Fx Try.prog 23 [.int .i64 n] h (fun v h' => v = .int .i64 ((1 + ur n % 10 : Nat) : Int) ∧ h = h') := by
  refine fx_intro (n := 8) [(0, .int .i64 n)] Try.func23 rfl rfl (by simp) ⟨rfl, trivial⟩ fun g0 => ?_
  refine wi_seq <| wi_reg rfl <| lx_assign (.int .i64 0) rfl rfl <| lx_nil <| wi_seq <| wi_reg rfl <| lx_move (.int .i64 n) rfl rfl <| lx_conv ((ur n : Nat) : Int) rfl Try.underlying3 Try.underlying26 rfl (wrap_ur _) <| lx_rem (m := ur n) (n := 10) rfl rfl rfl (by omega) <| lx_conv (((ur n) % 10 : Nat) : Int) rfl Try.underlying26 Try.underlying3 rfl (wrap_i64 (by omega) (by omega)) <| lx_add (((1 + ((ur n) % 10) : Nat) : Int)) rfl rfl rfl (by omega) (by omega) (by omega) <| lx_assign (.int .i64 ((1 + ((ur n) % 10) : Nat) : Int)) rfl rfl <| lx_nil <| ?_
  -- R1
  refine wi_ret ⟨.int .i64 ((1 + ((ur n) % 10) : Nat) : Int), (res_one rfl rfl), ⟨?_, rfl⟩⟩
  · first | rfl | (simp; done) | (simp; omega)

set_option maxRecDepth 10000 in
theorem tame_spec (h : Heap) (n : Nat) (vl : Value) (ls : List (Int × Int)) (most : Nat) (loose : Bool) (hr_vl : RdE encP h vl ls) (hp1 : n ≤ 10) (hp2 : ls.length ≤ 9223372036854775807) (hp3 : most ≤ 1000) : Fx Try.prog 24 [.int .i64 ((n : Nat) : Int), vl, .int .i64 ((most : Nat) : Int), .bool loose] h (fun v h' => ∃ (s : Value), v = s ∧ OwE encP h' h.size 60 s (tameF n most loose ls) ∧ Ext h.size h h') := by
  refine fx_intro (n := 72) [(0, .int .i64 ((n : Nat) : Int)), (1, vl), (2, .int .i64 ((most : Nat) : Int)), (3, .bool loose)] Try.func24 rfl rfl (by simp) ⟨rfl, rfl, rfl, rfl, trivial⟩ fun g0 => ?_
  refine wi_seq <| wi_reg rfl <| lx_assign (.slice none 0 0) rfl rfl <| lx_nil <| wi_seq <| wi_reg rfl <| lx_assign (.slice none 0 0) rfl rfl <| lx_nil <| wi_seq <| wi_seq <| wi_reg rfl <| lx_assign (.int .i64 0) rfl rfl <| lx_nil <| wi_block <| ?_
  refine wi_loop (σ := Nat × Value × (List (Int × Int))) (rngB 9 71 []) (fun (ss : Nat × Value × (List (Int × Int))) => [(10, .int .i64 ((ss.1 : Nat) : Int)), (9, ss.2.1)]) (fun (ss : Nat × Value × (List (Int × Int))) (hh : Heap) => OwE encP hh h.size 60 ss.2.1 ss.2.2 ∧ Ext h.size h hh ∧ (ss.1 ≤ most ∧ ss.1 ≤ ls.length) ∧ (ss.2.2 = (ls.take ss.1).map (tame1 n loose)) ∧ (n ≤ 1 → ss.1 = 0)) (fun (ss : Nat × Value × (List (Int × Int))) => most - ss.1) (0, .slice none 0 0, []) ⟨rfl, rfl, trivial⟩ ⟨?_, (Ext.refl _ _), ?_, ?_, ?_⟩ ?_
  · first | exact (owE_nil encP _ h.size 60) | (simpa using (owE_nil encP _ h.size 60))
  · try dsimp only
    omega
  · try dsimp only
    simp
  · try dsimp only
    omega
  rintro g1 ⟨i, v, ms⟩ hh1 ⟨ho1, hx0_1, hi, hms, hn⟩ IH1
  dsimp only at *
  have hml : ms.length = i := by rw [hms]; simp; omega
  refine wi_seq <| wi_seq <| wi_reg rfl <| lx_move (.int .i64 ((i : Nat) : Int)) rfl rfl <| lx_move (vl) rfl rfl <| lx_len rfl Try.underlying38 hr_vl rfl <| lx_lssS rfl rfl rfl (fun c1 => ?_) (fun c1 => ?_)
  · refine lx_move (.bool true) rfl rfl <| lx_move (v) rfl rfl <| lx_len rfl Try.underlying38 ho1.rd rfl <| lx_move (.int .i64 ((most : Nat) : Int)) rfl rfl <| lx_lssS rfl rfl rfl (fun c2 => ?_) (fun c2 => ?_)
    · refine lx_pick true (.bool true) rfl rfl rfl <| lx_move (.bool true) rfl rfl <| lx_move (.int .i64 ((n : Nat) : Int)) rfl rfl <| lx_gtrS rfl rfl rfl (fun c3 => ?_) (fun c3 => ?_)
      · refine lx_pick true (.bool true) rfl rfl rfl <| lx_nil <| wi_true rfl <| wi_skip <| wi_seq <| wi_block <| wi_seq <| wi_draw mo rfl (by decide +kernel) <| ?_
        have hm1 := Nat.mod_lt (ur (gt ls i).1) (show 0 < n by omega)
        have hm2 := Nat.mod_lt (ur (gt ls i).2) (show 0 < n by omega)
        refine lx_move (vl) rfl rfl <| lx_move (.int .i64 ((i : Nat) : Int)) rfl rfl <| lx_ix (i := i) rfl eT38 hr_vl rfl rfl (by first | omega | (simp only [List.length_set, List.length_append, List.length_cons, List.length_nil, List.length_replicate, List.length_take, swp_length, exch_length]; omega)) <| lx_ixP (i := i) (c := 0) rfl Try.underlying60 Try.sizeOf3 hr_vl (by first | omega | (simp only [List.length_set, List.length_append, List.length_cons, List.length_nil, List.length_replicate, List.length_take, swp_length, exch_length]; omega)) rfl rfl (by decide) <| lx_ld (i := i) (j := 0) (.int .i64 ((gt ls i).1)) rfl rfl fl3 (hr_vl.extS hx0_1) (by first | omega | (simp only [List.length_set, List.length_append, List.length_cons, List.length_nil, List.length_replicate, List.length_take, swp_length, exch_length]; omega)) rfl rfl <| lx_conv ((ur ((gt ls i).1) : Nat) : Int) rfl Try.underlying3 Try.underlying26 rfl (wrap_ur _) <| lx_move (.int .i64 ((n : Nat) : Int)) rfl rfl <| lx_conv ((n : Nat) : Int) rfl Try.underlying3 Try.underlying26 rfl (wrap_u64 (by omega) (by omega)) <| lx_rem (m := ur ((gt ls i).1)) (n := n) rfl rfl rfl (by omega) <| lx_conv (((ur ((gt ls i).1)) % n : Nat) : Int) rfl Try.underlying26 Try.underlying3 rfl (wrap_i64 (by omega) (by omega)) <| lx_move (vl) rfl rfl <| lx_move (.int .i64 ((i : Nat) : Int)) rfl rfl <| lx_ix (i := i) rfl eT38 hr_vl rfl rfl (by first | omega | (simp only [List.length_set, List.length_append, List.length_cons, List.length_nil, List.length_replicate, List.length_take, swp_length, exch_length]; omega)) <| lx_ixP (i := i) (c := 1) rfl Try.underlying60 Try.sizeOf3 hr_vl (by first | omega | (simp only [List.length_set, List.length_append, List.length_cons, List.length_nil, List.length_replicate, List.length_take, swp_length, exch_length]; omega)) rfl rfl (by decide) <| lx_ld (i := i) (j := 1) (.int .i64 ((gt ls i).2)) rfl rfl fl3 (hr_vl.extS hx0_1) (by first | omega | (simp only [List.length_set, List.length_append, List.length_cons, List.length_nil, List.length_replicate, List.length_take, swp_length, exch_length]; omega)) rfl rfl <| lx_conv ((ur ((gt ls i).2) : Nat) : Int) rfl Try.underlying3 Try.underlying26 rfl (wrap_ur _) <| lx_move (.int .i64 ((n : Nat) : Int)) rfl rfl <| lx_conv ((n : Nat) : Int) rfl Try.underlying3 Try.underlying26 rfl (wrap_u64 (by omega) (by omega)) <| lx_rem (m := ur ((gt ls i).2)) (n := n) rfl rfl rfl (by omega) <| lx_conv (((ur ((gt ls i).2)) % n : Nat) : Int) rfl Try.underlying26 Try.underlying3 rfl (wrap_i64 (by omega) (by omega)) <| lx_assign (.int .i64 (((ur ((gt ls i).1)) % n : Nat) : Int)) rfl rfl <| lx_assign (.int .i64 (((ur ((gt ls i).2)) % n : Nat) : Int)) rfl rfl <| lx_nil <| wi_seq <| wi_seq <| wi_reg rfl <| lx_move (.int .i64 (((ur ((gt ls i).1)) % n : Nat) : Int)) rfl rfl <| lx_move (.int .i64 (((ur ((gt ls i).2)) % n : Nat) : Int)) rfl rfl <| lx_eqlS rfl rfl rfl (fun c4 => ?_) (fun c4 => ?_)
        · refine lx_nil <| wi_true rfl <| wi_reg rfl <| ?_
          have hm3 := Nat.mod_lt (ur (gt ls i).1 % n + 1) (show 0 < n by omega)
          refine lx_move (.int .i64 (((ur ((gt ls i).1)) % n : Nat) : Int)) rfl rfl <| lx_add ((((ur ((gt ls i).1)) % n + 1 : Nat) : Int)) rfl rfl rfl (by omega) (by omega) (by omega) <| lx_move (.int .i64 ((n : Nat) : Int)) rfl rfl <| lx_rem (m := (ur ((gt ls i).1)) % n + 1) (n := n) rfl rfl rfl (by omega) <| lx_assign (.int .i64 ((((ur ((gt ls i).1)) % n + 1) % n : Nat) : Int)) rfl rfl <| lx_nil <| wi_seq <| wi_seq <| wi_reg rfl <| lx_move (.int .i64 (((ur ((gt ls i).1)) % n : Nat) : Int)) rfl rfl <| lx_move (.int .i64 ((((ur ((gt ls i).1)) % n + 1) % n : Nat) : Int)) rfl rfl <| lx_gtrS rfl rfl rfl (fun c5 => ?_) (fun c5 => ?_)
          · refine lx_move (.bool true) rfl rfl <| lx_move (.bool loose) rfl rfl <| lx_not rfl rfl <| lx_pick true (.bool !loose) rfl rfl rfl <| lx_nil <| wi_condS (t := !loose) rfl (fun c6 => ?_) (fun c6 => ?_)
            · refine wi_reg rfl <| lx_move (.int .i64 ((((ur ((gt ls i).1)) % n + 1) % n : Nat) : Int)) rfl rfl <| lx_move (.int .i64 (((ur ((gt ls i).1)) % n : Nat) : Int)) rfl rfl <| lx_assign (.int .i64 ((((ur ((gt ls i).1)) % n + 1) % n : Nat) : Int)) rfl rfl <| lx_assign (.int .i64 (((ur ((gt ls i).1)) % n : Nat) : Int)) rfl rfl <| lx_nil <| wi_reg rfl <| lx_move (v) rfl rfl <| lx_move (.int .i64 ((((ur ((gt ls i).1)) % n + 1) % n : Nat) : Int)) rfl rfl <| lx_move (.int .i64 (((ur ((gt ls i).1)) % n : Nat) : Int)) rfl rfl <| lx_build (.agg #[.int .i64 ((((ur ((gt ls i).1)) % n + 1) % n : Nat) : Int), .int .i64 (((ur ((gt ls i).1)) % n : Nat) : Int)]) [(0, .int .i64 ((((ur ((gt ls i).1)) % n + 1) % n : Nat) : Int)), (1, .int .i64 (((ur ((gt ls i).1)) % n : Nat) : Int))] rfl rfl (fun w => bld60_2 _ _ w) <| lx_appendL (E := encP) (B := h.size) [(((((ur ((gt ls i).1)) % n + 1) % n : Nat) : Int), (((ur ((gt ls i).1)) % n : Nat) : Int))] [.agg #[.int .i64 ((((ur ((gt ls i).1)) % n + 1) % n : Nat) : Int), .int .i64 (((ur ((gt ls i).1)) % n : Nat) : Int)]] rfl rfl (fun _ => rfl) rfl eT38 rfl rfl rfl rfl ho1 (fun _ => rfl) (by show ms.length + 1 ≤ _; omega) (by show (ms.length + 1) * 16 ≤ _; omega) hx0_1.size (fun _ _ => trivial) fun u1 v1 h1 ho2 hc1 hg1 => ?_
              have hx0_2 := hx0_1.trans (ho1.ext hc1 hx0_1.size)
              refine lx_assign (v1) rfl rfl <| lx_nil <| wi_inBlock <| wi_reg rfl <| lx_move (.int .i64 ((i : Nat) : Int)) rfl rfl <| lx_add (((i + 1 : Nat) : Int)) rfl rfl rfl (by omega) (by omega) (by omega) <| lx_assign (.int .i64 ((i + 1 : Nat) : Int)) rfl rfl <| lx_nil <| ?_
              -- L0.1
              refine IH1 _ _ (i + 1, v1, ms ++ [(((((ur ((gt ls i).1)) % n + 1) % n : Nat) : Int), (((ur ((gt ls i).1)) % n : Nat) : Int))]) (agree_ups rfl agree_self) ⟨rfl, rfl, trivial⟩ ⟨?_, hx0_2, ?_, ?_, ?_⟩ ?_
              · first | exact ho2 | (simpa using ho2)
              · try dsimp only
                omega
              · try dsimp only
                refine take_step (by omega) hms ?_
                unfold tame1
                rw [if_pos (by omega), if_pos ⟨by omega, by simpa using ‹(!loose) = true›⟩]
              · try dsimp only
                omega
              · first | omega | (dsimp only; omega)
            · refine wi_skip <| wi_reg rfl <| lx_move (v) rfl rfl <| lx_move (.int .i64 (((ur ((gt ls i).1)) % n : Nat) : Int)) rfl rfl <| lx_move (.int .i64 ((((ur ((gt ls i).1)) % n + 1) % n : Nat) : Int)) rfl rfl <| lx_build (.agg #[.int .i64 (((ur ((gt ls i).1)) % n : Nat) : Int), .int .i64 ((((ur ((gt ls i).1)) % n + 1) % n : Nat) : Int)]) [(0, .int .i64 (((ur ((gt ls i).1)) % n : Nat) : Int)), (1, .int .i64 ((((ur ((gt ls i).1)) % n + 1) % n : Nat) : Int))] rfl rfl (fun w => bld60_2 _ _ w) <| lx_appendL (E := encP) (B := h.size) [((((ur ((gt ls i).1)) % n : Nat) : Int), ((((ur ((gt ls i).1)) % n + 1) % n : Nat) : Int))] [.agg #[.int .i64 (((ur ((gt ls i).1)) % n : Nat) : Int), .int .i64 ((((ur ((gt ls i).1)) % n + 1) % n : Nat) : Int)]] rfl rfl (fun _ => rfl) rfl eT38 rfl rfl rfl rfl ho1 (fun _ => rfl) (by show ms.length + 1 ≤ _; omega) (by show (ms.length + 1) * 16 ≤ _; omega) hx0_1.size (fun _ _ => trivial) fun u2 v2 h2 ho3 hc2 hg2 => ?_
              have hx0_3 := hx0_1.trans (ho1.ext hc2 hx0_1.size)
              refine lx_assign (v2) rfl rfl <| lx_nil <| wi_inBlock <| wi_reg rfl <| lx_move (.int .i64 ((i : Nat) : Int)) rfl rfl <| lx_add (((i + 1 : Nat) : Int)) rfl rfl rfl (by omega) (by omega) (by omega) <| lx_assign (.int .i64 ((i + 1 : Nat) : Int)) rfl rfl <| lx_nil <| ?_
              -- L0.2
              refine IH1 _ _ (i + 1, v2, ms ++ [((((ur ((gt ls i).1)) % n : Nat) : Int), ((((ur ((gt ls i).1)) % n + 1) % n : Nat) : Int))]) (agree_ups rfl agree_self) ⟨rfl, rfl, trivial⟩ ⟨?_, hx0_3, ?_, ?_, ?_⟩ ?_
              · first | exact ho3 | (simpa using ho3)
              · try dsimp only
                omega
              · try dsimp only
                refine take_step (by omega) hms ?_
                unfold tame1
                rw [if_pos (by omega), if_neg (fun h9 => by have h2 := h9.2; have h3 := ‹(!loose) = false›; rw [h2] at h3; cases h3)]
              · try dsimp only
                omega
              · first | omega | (dsimp only; omega)
          · refine lx_move (.bool false) rfl rfl <| lx_skip rfl <| lx_skip rfl <| lx_pick false (.bool false) rfl rfl rfl <| lx_nil <| wi_false rfl <| wi_skip <| wi_reg rfl <| lx_move (v) rfl rfl <| lx_move (.int .i64 (((ur ((gt ls i).1)) % n : Nat) : Int)) rfl rfl <| lx_move (.int .i64 ((((ur ((gt ls i).1)) % n + 1) % n : Nat) : Int)) rfl rfl <| lx_build (.agg #[.int .i64 (((ur ((gt ls i).1)) % n : Nat) : Int), .int .i64 ((((ur ((gt ls i).1)) % n + 1) % n : Nat) : Int)]) [(0, .int .i64 (((ur ((gt ls i).1)) % n : Nat) : Int)), (1, .int .i64 ((((ur ((gt ls i).1)) % n + 1) % n : Nat) : Int))] rfl rfl (fun w => bld60_2 _ _ w) <| lx_appendL (E := encP) (B := h.size) [((((ur ((gt ls i).1)) % n : Nat) : Int), ((((ur ((gt ls i).1)) % n + 1) % n : Nat) : Int))] [.agg #[.int .i64 (((ur ((gt ls i).1)) % n : Nat) : Int), .int .i64 ((((ur ((gt ls i).1)) % n + 1) % n : Nat) : Int)]] rfl rfl (fun _ => rfl) rfl eT38 rfl rfl rfl rfl ho1 (fun _ => rfl) (by show ms.length + 1 ≤ _; omega) (by show (ms.length + 1) * 16 ≤ _; omega) hx0_1.size (fun _ _ => trivial) fun u3 v3 h3 ho4 hc3 hg3 => ?_
            have hx0_4 := hx0_1.trans (ho1.ext hc3 hx0_1.size)
            refine lx_assign (v3) rfl rfl <| lx_nil <| wi_inBlock <| wi_reg rfl <| lx_move (.int .i64 ((i : Nat) : Int)) rfl rfl <| lx_add (((i + 1 : Nat) : Int)) rfl rfl rfl (by omega) (by omega) (by omega) <| lx_assign (.int .i64 ((i + 1 : Nat) : Int)) rfl rfl <| lx_nil <| ?_
            -- L0.3
            refine IH1 _ _ (i + 1, v3, ms ++ [((((ur ((gt ls i).1)) % n : Nat) : Int), ((((ur ((gt ls i).1)) % n + 1) % n : Nat) : Int))]) (agree_ups rfl agree_self) ⟨rfl, rfl, trivial⟩ ⟨?_, hx0_4, ?_, ?_, ?_⟩ ?_
            · first | exact ho4 | (simpa using ho4)
            · try dsimp only
              omega
            · try dsimp only
              refine take_step (by omega) hms ?_
              unfold tame1
              rw [if_pos (by omega), if_neg (fun h9 => by have := h9.1; omega)]
            · try dsimp only
              omega
            · first | omega | (dsimp only; omega)
        · refine lx_nil <| wi_false rfl <| wi_skip <| wi_seq <| wi_seq <| wi_reg rfl <| lx_move (.int .i64 (((ur ((gt ls i).1)) % n : Nat) : Int)) rfl rfl <| lx_move (.int .i64 (((ur ((gt ls i).2)) % n : Nat) : Int)) rfl rfl <| lx_gtrS rfl rfl rfl (fun c7 => ?_) (fun c7 => ?_)
          · refine lx_move (.bool true) rfl rfl <| lx_move (.bool loose) rfl rfl <| lx_not rfl rfl <| lx_pick true (.bool !loose) rfl rfl rfl <| lx_nil <| wi_condS (t := !loose) rfl (fun c8 => ?_) (fun c8 => ?_)
            · refine wi_reg rfl <| lx_move (.int .i64 (((ur ((gt ls i).2)) % n : Nat) : Int)) rfl rfl <| lx_move (.int .i64 (((ur ((gt ls i).1)) % n : Nat) : Int)) rfl rfl <| lx_assign (.int .i64 (((ur ((gt ls i).2)) % n : Nat) : Int)) rfl rfl <| lx_assign (.int .i64 (((ur ((gt ls i).1)) % n : Nat) : Int)) rfl rfl <| lx_nil <| wi_reg rfl <| lx_move (v) rfl rfl <| lx_move (.int .i64 (((ur ((gt ls i).2)) % n : Nat) : Int)) rfl rfl <| lx_move (.int .i64 (((ur ((gt ls i).1)) % n : Nat) : Int)) rfl rfl <| lx_build (.agg #[.int .i64 (((ur ((gt ls i).2)) % n : Nat) : Int), .int .i64 (((ur ((gt ls i).1)) % n : Nat) : Int)]) [(0, .int .i64 (((ur ((gt ls i).2)) % n : Nat) : Int)), (1, .int .i64 (((ur ((gt ls i).1)) % n : Nat) : Int))] rfl rfl (fun w => bld60_2 _ _ w) <| lx_appendL (E := encP) (B := h.size) [((((ur ((gt ls i).2)) % n : Nat) : Int), (((ur ((gt ls i).1)) % n : Nat) : Int))] [.agg #[.int .i64 (((ur ((gt ls i).2)) % n : Nat) : Int), .int .i64 (((ur ((gt ls i).1)) % n : Nat) : Int)]] rfl rfl (fun _ => rfl) rfl eT38 rfl rfl rfl rfl ho1 (fun _ => rfl) (by show ms.length + 1 ≤ _; omega) (by show (ms.length + 1) * 16 ≤ _; omega) hx0_1.size (fun _ _ => trivial) fun u4 v4 h4 ho5 hc4 hg4 => ?_
              have hx0_5 := hx0_1.trans (ho1.ext hc4 hx0_1.size)
              refine lx_assign (v4) rfl rfl <| lx_nil <| wi_inBlock <| wi_reg rfl <| lx_move (.int .i64 ((i : Nat) : Int)) rfl rfl <| lx_add (((i + 1 : Nat) : Int)) rfl rfl rfl (by omega) (by omega) (by omega) <| lx_assign (.int .i64 ((i + 1 : Nat) : Int)) rfl rfl <| lx_nil <| ?_
              -- L0.4
              refine IH1 _ _ (i + 1, v4, ms ++ [((((ur ((gt ls i).2)) % n : Nat) : Int), (((ur ((gt ls i).1)) % n : Nat) : Int))]) (agree_ups rfl agree_self) ⟨rfl, rfl, trivial⟩ ⟨?_, hx0_5, ?_, ?_, ?_⟩ ?_
              · first | exact ho5 | (simpa using ho5)
              · try dsimp only
                omega
              · try dsimp only
                refine take_step (by omega) hms ?_
                unfold tame1
                rw [if_neg (by omega), if_pos ⟨by omega, by simpa using ‹(!loose) = true›⟩]
              · try dsimp only
                omega
              · first | omega | (dsimp only; omega)
            · refine wi_skip <| wi_reg rfl <| lx_move (v) rfl rfl <| lx_move (.int .i64 (((ur ((gt ls i).1)) % n : Nat) : Int)) rfl rfl <| lx_move (.int .i64 (((ur ((gt ls i).2)) % n : Nat) : Int)) rfl rfl <| lx_build (.agg #[.int .i64 (((ur ((gt ls i).1)) % n : Nat) : Int), .int .i64 (((ur ((gt ls i).2)) % n : Nat) : Int)]) [(0, .int .i64 (((ur ((gt ls i).1)) % n : Nat) : Int)), (1, .int .i64 (((ur ((gt ls i).2)) % n : Nat) : Int))] rfl rfl (fun w => bld60_2 _ _ w) <| lx_appendL (E := encP) (B := h.size) [((((ur ((gt ls i).1)) % n : Nat) : Int), (((ur ((gt ls i).2)) % n : Nat) : Int))] [.agg #[.int .i64 (((ur ((gt ls i).1)) % n : Nat) : Int), .int .i64 (((ur ((gt ls i).2)) % n : Nat) : Int)]] rfl rfl (fun _ => rfl) rfl eT38 rfl rfl rfl rfl ho1 (fun _ => rfl) (by show ms.length + 1 ≤ _; omega) (by show (ms.length + 1) * 16 ≤ _; omega) hx0_1.size (fun _ _ => trivial) fun u5 v5 h5 ho6 hc5 hg5 => ?_
              have hx0_6 := hx0_1.trans (ho1.ext hc5 hx0_1.size)
              refine lx_assign (v5) rfl rfl <| lx_nil <| wi_inBlock <| wi_reg rfl <| lx_move (.int .i64 ((i : Nat) : Int)) rfl rfl <| lx_add (((i + 1 : Nat) : Int)) rfl rfl rfl (by omega) (by omega) (by omega) <| lx_assign (.int .i64 ((i + 1 : Nat) : Int)) rfl rfl <| lx_nil <| ?_
              -- L0.5
              refine IH1 _ _ (i + 1, v5, ms ++ [((((ur ((gt ls i).1)) % n : Nat) : Int), (((ur ((gt ls i).2)) % n : Nat) : Int))]) (agree_ups rfl agree_self) ⟨rfl, rfl, trivial⟩ ⟨?_, hx0_6, ?_, ?_, ?_⟩ ?_
              · first | exact ho6 | (simpa using ho6)
              · try dsimp only
                omega
              · try dsimp only
                refine take_step (by omega) hms ?_
                unfold tame1
                rw [if_neg (by omega), if_neg (fun h9 => by have h2 := h9.2; have h3 := ‹(!loose) = false›; rw [h2] at h3; cases h3)]
              · try dsimp only
                omega
              · first | omega | (dsimp only; omega)
          · refine lx_move (.bool false) rfl rfl <| lx_skip rfl <| lx_skip rfl <| lx_pick false (.bool false) rfl rfl rfl <| lx_nil <| wi_false rfl <| wi_skip <| wi_reg rfl <| lx_move (v) rfl rfl <| lx_move (.int .i64 (((ur ((gt ls i).1)) % n : Nat) : Int)) rfl rfl <| lx_move (.int .i64 (((ur ((gt ls i).2)) % n : Nat) : Int)) rfl rfl <| lx_build (.agg #[.int .i64 (((ur ((gt ls i).1)) % n : Nat) : Int), .int .i64 (((ur ((gt ls i).2)) % n : Nat) : Int)]) [(0, .int .i64 (((ur ((gt ls i).1)) % n : Nat) : Int)), (1, .int .i64 (((ur ((gt ls i).2)) % n : Nat) : Int))] rfl rfl (fun w => bld60_2 _ _ w) <| lx_appendL (E := encP) (B := h.size) [((((ur ((gt ls i).1)) % n : Nat) : Int), (((ur ((gt ls i).2)) % n : Nat) : Int))] [.agg #[.int .i64 (((ur ((gt ls i).1)) % n : Nat) : Int), .int .i64 (((ur ((gt ls i).2)) % n : Nat) : Int)]] rfl rfl (fun _ => rfl) rfl eT38 rfl rfl rfl rfl ho1 (fun _ => rfl) (by show ms.length + 1 ≤ _; omega) (by show (ms.length + 1) * 16 ≤ _; omega) hx0_1.size (fun _ _ => trivial) fun u6 v6 h6 ho7 hc6 hg6 => ?_
            have hx0_7 := hx0_1.trans (ho1.ext hc6 hx0_1.size)
            refine lx_assign (v6) rfl rfl <| lx_nil <| wi_inBlock <| wi_reg rfl <| lx_move (.int .i64 ((i : Nat) : Int)) rfl rfl <| lx_add (((i + 1 : Nat) : Int)) rfl rfl rfl (by omega) (by omega) (by omega) <| lx_assign (.int .i64 ((i + 1 : Nat) : Int)) rfl rfl <| lx_nil <| ?_
            -- L0.6
            refine IH1 _ _ (i + 1, v6, ms ++ [((((ur ((gt ls i).1)) % n : Nat) : Int), (((ur ((gt ls i).2)) % n : Nat) : Int))]) (agree_ups rfl agree_self) ⟨rfl, rfl, trivial⟩ ⟨?_, hx0_7, ?_, ?_, ?_⟩ ?_
            · first | exact ho7 | (simpa using ho7)
            · try dsimp only
              omega
            · try dsimp only
              refine take_step (by omega) hms ?_
              unfold tame1
              rw [if_neg (by omega), if_neg (fun h9 => by have := h9.1; omega)]
            · try dsimp only
              omega
            · first | omega | (dsimp only; omega)
      · refine lx_pick true (.bool false) rfl rfl rfl <| lx_nil <| wi_false rfl <| wi_exit rfl <| wi_seq <| wi_reg rfl <| lx_move (v) rfl rfl <| lx_assign (v) rfl rfl <| lx_nil <| ?_
        -- R1
        refine wi_ret ⟨v, (res_one rfl rfl), ⟨v, rfl, ?_, hx0_1⟩⟩
        · have e : ms = tameF n most loose ls := by
            unfold tameF
            by_cases h1 : n ≤ 1
            · rw [if_pos h1, hms, hn h1]; simp
            · rw [if_neg h1, hms]
              congr 1
              first
              | rw [show most = i from by omega]
              | rw [List.take_of_length_le (by omega), List.take_of_length_le (by omega)]
          rw [e] at ho1; exact ho1
    · refine lx_pick true (.bool false) rfl rfl rfl <| lx_move (.bool false) rfl rfl <| lx_skip rfl <| lx_skip rfl <| lx_pick false (.bool false) rfl rfl rfl <| lx_nil <| wi_false rfl <| wi_exit rfl <| wi_seq <| wi_reg rfl <| lx_move (v) rfl rfl <| lx_assign (v) rfl rfl <| lx_nil <| ?_
      -- R2
      refine wi_ret ⟨v, (res_one rfl rfl), ⟨v, rfl, ?_, hx0_1⟩⟩
      · have e : ms = tameF n most loose ls := by
          unfold tameF
          by_cases h1 : n ≤ 1
          · rw [if_pos h1, hms, hn h1]; simp
          · rw [if_neg h1, hms]
            congr 1
            first
            | rw [show most = i from by omega]
            | rw [List.take_of_length_le (by omega), List.take_of_length_le (by omega)]
        rw [e] at ho1; exact ho1
  · refine lx_move (.bool false) rfl rfl <| lx_skip rfl <| lx_skip rfl <| lx_skip rfl <| lx_skip rfl <| lx_pick false (.bool false) rfl rfl rfl <| lx_move (.bool false) rfl rfl <| lx_skip rfl <| lx_skip rfl <| lx_pick false (.bool false) rfl rfl rfl <| lx_nil <| wi_false rfl <| wi_exit rfl <| wi_seq <| wi_reg rfl <| lx_move (v) rfl rfl <| lx_assign (v) rfl rfl <| lx_nil <| ?_
    -- R3
    refine wi_ret ⟨v, (res_one rfl rfl), ⟨v, rfl, ?_, hx0_1⟩⟩
    · have e : ms = tameF n most loose ls := by
        unfold tameF
        by_cases h1 : n ≤ 1
        · rw [if_pos h1, hms, hn h1]; simp
        · rw [if_neg h1, hms]
          congr 1
          first
          | rw [show most = i from by omega]
          | rw [List.take_of_length_le (by omega), List.take_of_length_le (by omega)]
      rw [e] at ho1; exact ho1

set_option maxRecDepth 10000 in
theorem rmerge_spec (h : Heap) (m : Nat) (hp1 : m ≤ 10) : Fx Try.prog 22 [.int .i64 ((m : Nat) : Int)] h (fun v h' => ∃ (s : Value), v = s ∧ OwE encP h' h.size 60 s (mergeF m) ∧ Ext h.size h h') := by
  refine fx_intro (n := 62) [(0, .int .i64 ((m : Nat) : Int))] Try.func22 rfl rfl (by simp) ⟨rfl, trivial⟩ fun g0 => ?_
  refine wi_seq <| wi_reg rfl <| lx_assign (.slice none 0 0) rfl rfl <| lx_nil <| wi_seq <| wi_reg rfl <| lx_assign (.int .i64 0) rfl rfl <| lx_nil <| wi_seq <| wi_block <| ?_
  refine wi_loop (σ := Nat) (rngB 11 18 [3]) (fun (t : Nat) => [(3, .int .i64 ((t : Nat) : Int))]) (fun (t : Nat) (hh : Heap) => h = hh ∧ (2 ^ t ≤ 20) ∧ (t = 0 ∨ 2 ^ (t - 1) < m)) (fun (t : Nat) => 20 - 2 ^ t) 0 ⟨rfl, trivial⟩ ⟨rfl, ?_, ?_⟩ ?_
  · try dsimp only
    decide
  · try dsimp only
    omega
  rintro g1 t hh1 ⟨rfl, htb, ht1⟩ IH1
  have htl := @Nat.lt_two_pow_self t
  have htp := Nat.two_pow_pos t
  refine wi_seq <| wi_seq <| wi_reg rfl <| lx_move (.int .i64 ((t : Nat) : Int)) rfl rfl <| lx_conv ((t : Nat) : Int) rfl Try.underlying3 Try.underlying26 rfl (wrap_u64 (by omega) (by omega)) <| lx_shl (m := 1) (n := t) rfl rfl rfl (by show _ ≤ 64; omega) (wrap_i64 (by omega) (by omega)) <| lx_move (.int .i64 ((m : Nat) : Int)) rfl rfl <| lx_lssS rfl rfl rfl (fun c1 => ?_) (fun c1 => ?_)
  · refine lx_nil <| wi_true rfl <| wi_skip <| wi_block <| wi_reg rfl <| lx_move (.int .i64 ((t : Nat) : Int)) rfl rfl <| lx_add (((t + 1 : Nat) : Int)) rfl rfl rfl (by omega) (by omega) (by omega) <| lx_assign (.int .i64 ((t + 1 : Nat) : Int)) rfl rfl <| lx_nil <| wi_inBlock <| ?_
    have e9 := Nat.pow_succ 2 t
    -- L0.1
    refine IH1 _ _ (t + 1) (agree_ups rfl agree_self) ⟨rfl, trivial⟩ ⟨rfl, ?_, ?_⟩ ?_
    · try dsimp only
      omega
    · try dsimp only
      refine .inr ?_
      rw [Nat.add_sub_cancel]; omega
    · first | omega | (dsimp only; omega)
  · refine lx_nil <| wi_false rfl <| wi_exit rfl <| wi_seq <| wi_reg rfl <| lx_assign (.slice none 0 0) rfl rfl <| lx_nil <| wi_seq <| wi_seq <| wi_reg rfl <| ?_
    have htT : 1 < m → t = topT m + 1 := by
      intro h1
      have h0 : t ≠ 0 := by intro e; subst e; simp at *; omega
      obtain ⟨T, rfl⟩ : ∃ T, t = T + 1 := ⟨t - 1, by omega⟩
      have := topT_eq (n := m) (T := T) hp1 (by rw [Nat.add_sub_cancel] at ht1; omega) (by have e := Nat.pow_succ 2 T; omega)
      omega
    refine lx_move (.int .i64 ((t : Nat) : Int)) rfl rfl <| lx_sub ((((t : Nat) : Int)) - ((1 : Int))) rfl rfl rfl (by omega) (by omega) (by omega) <| lx_assign (.int .i64 ((((t : Nat) : Int)) - ((1 : Int)))) rfl rfl <| lx_nil <| wi_block <| ?_
    refine wi_loop (σ := Nat × Value × (List (Int × Int))) (rngB 20 61 [4, 5, 6, 7, 8, 9, 10]) (fun (ss : Nat × Value × (List (Int × Int))) => [(4, ss.2.1), (5, .int .i64 (((ss.1 : Nat) : Int) - 1))]) (fun (ss : Nat × Value × (List (Int × Int))) (hh : Heap) => OwE encP hh h.size 60 ss.2.1 ss.2.2 ∧ Ext h.size h hh ∧ (ss.1 ≤ t) ∧ ((m ≤ 1 ∧ ss.2.2 = [] ∧ ss.1 = 0) ∨ (1 < m ∧ ss.2.2 ++ outM m (topT m) ss.1 = outM m (topT m) (topT m + 1)))) (fun (ss : Nat × Value × (List (Int × Int))) => ss.1) (t, .slice none 0 0, []) ⟨rfl, rfl, trivial⟩ ⟨?_, (Ext.refl _ _), ?_, ?_⟩ ?_
    · first | exact (owE_nil encP _ h.size 60) | (simpa using (owE_nil encP _ h.size 60))
    · try dsimp only
      omega
    · try dsimp only
      by_cases h1 : m ≤ 1
      · refine .inl ⟨h1, rfl, ?_⟩
        rcases ht1 with h2 | h2
        · exact h2
        · have := Nat.two_pow_pos (t - 1); omega
      · exact .inr ⟨by omega, by rw [htT (by omega)]; rfl⟩
    rintro g2 ⟨e1, v, ms⟩ hh2 ⟨ho1, hx0_1, heT, hms⟩ IH2
    dsimp only at *
    refine wi_seq <| wi_seq <| wi_reg rfl <| lx_move (.int .i64 (((e1 : Nat) : Int) - 1)) rfl rfl <| lx_geqS rfl rfl rfl (fun c2 => ?_) (fun c2 => ?_)
    · refine lx_nil <| wi_true rfl <| wi_skip <| wi_seq <| wi_block <| wi_seq <| wi_reg rfl <| ?_
      have he1 : 1 ≤ e1 := by omega
      rcases hms with ⟨_, _, h9⟩ | ⟨hm1, hms⟩
      · exfalso; omega
      rw [show ((e1 : Nat) : Int) - 1 = ((e1 - 1 : Nat) : Int) from by omega]
      have htT1 := htT hm1
      have hT3 := @pow_topT m
      have heT2 : 2 ^ (e1 - 1) ≤ 8 := Nat.le_trans (Nat.pow_le_pow_right (n := 2) (by omega) (show e1 - 1 ≤ topT m by omega)) hT3
      have htT2 : 1 * 2 ^ (t - 1) = 2 ^ topT m := by rw [Nat.one_mul, show t - 1 = topT m from by omega]
      have hTl := topT_le m
      have hlen : (outM m (topT m) (topT m + 1)).length ≤ 31 := outM_short hm1 hp1
      rw [outM_pos (by omega)] at hms
      refine lx_move (.int .i64 ((e1 - 1 : Nat) : Int)) rfl rfl <| lx_conv ((e1 - 1 : Nat) : Int) rfl Try.underlying3 Try.underlying26 rfl (wrap_u64 (by omega) (by omega)) <| lx_shl (m := 1) (n := e1 - 1) rfl rfl rfl (by show _ ≤ 64; omega) (wrap_i64 (by omega) (by omega)) <| lx_assign (.int .i64 ((1 * 2 ^ (e1 - 1) : Nat) : Int)) rfl rfl <| lx_nil <| wi_seq <| wi_reg rfl <| ?_
      generalize hp : 1 * 2 ^ (e1 - 1) = p
      have hpp : p = 2 ^ (e1 - 1) := by rw [← hp, Nat.one_mul]
      have hp0 : 0 < p := by rw [hpp]; exact Nat.two_pow_pos _
      refine lx_move (.int .i64 ((t : Nat) : Int)) rfl rfl <| lx_sub (((t - 1 : Nat) : Int)) rfl rfl rfl (by omega) (by omega) (by omega) <| lx_conv ((t - 1 : Nat) : Int) rfl Try.underlying3 Try.underlying26 rfl (wrap_u64 (by omega) (by omega)) <| lx_shl (m := 1) (n := t - 1) rfl rfl rfl (by show _ ≤ 64; omega) (wrap_i64 (by omega) (by omega)) <| lx_move (.int .i64 ((p : Nat) : Int)) rfl rfl <| lx_assign (.int .i64 ((1 * 2 ^ (t - 1) : Nat) : Int)) rfl rfl <| lx_assign (.int .i64 0) rfl rfl <| lx_assign (.int .i64 ((p : Nat) : Int)) rfl rfl <| lx_nil <| wi_block <| ?_
      refine wi_loop (σ := Nat × Nat × Nat × Nat × Value × (List (Int × Int))) (rngB 32 61 [4, 7, 8, 9, 10]) (fun (ss : Nat × Nat × Nat × Nat × Value × (List (Int × Int))) => [(4, ss.2.2.2.2.1), (7, .int .i64 ((ss.2.1 : Nat) : Int)), (8, .int .i64 ((ss.2.2.1 : Nat) : Int)), (9, .int .i64 ((ss.2.2.2.1 : Nat) : Int))]) (fun (ss : Nat × Nat × Nat × Nat × Value × (List (Int × Int))) (hh : Heap) => OwE encP hh h.size 60 ss.2.2.2.2.1 ss.2.2.2.2.2 ∧ Ext h.size h hh ∧ (ss.2.1 = p * 2 ^ ss.1) ∧ (ss.2.1 ≤ 8) ∧ (ss.2.2.2.1 ≤ 8 ∧ ss.2.2.1 ≤ 8) ∧ (ss.2.2.2.2.2 ++ (passM m p ss.1 ss.2.1 ss.2.2.1 ss.2.2.2.1 ++ outM m (topT m) (e1 - 1)) = outM m (topT m) (topT m + 1))) (fun (ss : Nat × Nat × Nat × Nat × Value × (List (Int × Int))) => ss.1) (topT m - (e1 - 1), 1 * 2 ^ (t - 1), 0, p, v, ms) ⟨rfl, rfl, rfl, rfl, trivial⟩ ⟨?_, hx0_1, ?_, ?_, ?_, ?_⟩ ?_
      · first | exact ho1 | (simpa using ho1)
      · try dsimp only
        rw [htT2]; exact pass_q hpp (by omega)
      · try dsimp only
        omega
      · try dsimp only
        omega
      · try dsimp only
        rw [htT2, hpp]; exact hms
      rintro g3 ⟨k, q, r, d, v, ms⟩ hh3 ⟨ho2, hx0_2, hq, hql, hdl, hms2⟩ IH3
      dsimp only at *
      rw [passM_eq, List.append_assoc] at hms2
      refine wi_block <| wi_seq <| wi_seq <| wi_reg rfl <| lx_assign (.int .i64 0) rfl rfl <| lx_nil <| wi_block <| ?_
      refine wi_loop (σ := Nat × Value × (List (Int × Int))) (rngB 32 52 [4, 10]) (fun (ss : Nat × Value × (List (Int × Int))) => [(4, ss.2.1), (10, .int .i64 ((ss.1 : Nat) : Int))]) (fun (ss : Nat × Value × (List (Int × Int))) (hh : Heap) => OwE encP hh h.size 60 ss.2.1 ss.2.2 ∧ Ext h.size h hh ∧ (ss.1 ≤ m) ∧ (ss.2.2 ++ (innerF p r d (m - d - ss.1) ss.1 ++ (passR m p k q ++ outM m (topT m) (e1 - 1))) = outM m (topT m) (topT m + 1))) (fun (ss : Nat × Value × (List (Int × Int))) => m - ss.1) (0, v, ms) ⟨rfl, rfl, trivial⟩ ⟨?_, hx0_2, ?_, ?_⟩ ?_
      · first | exact ho2 | (simpa using ho2)
      · try dsimp only
        omega
      · try dsimp only
        rw [Nat.sub_zero]; exact hms2
      rintro g4 ⟨i, v, ms⟩ hh4 ⟨ho3, hx0_3, hi, hms3⟩ IH4
      dsimp only at *
      have hml := app_len hms3
      refine wi_seq <| wi_seq <| wi_reg rfl <| lx_move (.int .i64 ((i : Nat) : Int)) rfl rfl <| lx_move (.int .i64 ((m : Nat) : Int)) rfl rfl <| lx_move (.int .i64 ((d : Nat) : Int)) rfl rfl <| lx_sub ((((m : Nat) : Int)) - (((d : Nat) : Int))) rfl rfl rfl (by omega) (by omega) (by omega) <| lx_lssS rfl rfl rfl (fun c3 => ?_) (fun c3 => ?_)
      · refine lx_nil <| wi_true rfl <| wi_skip <| wi_seq <| wi_block <| wi_seq <| wi_reg rfl <| ?_
        have hand := @and_le_l i p
        refine lx_move (.int .i64 ((i : Nat) : Int)) rfl rfl <| lx_move (.int .i64 ((p : Nat) : Int)) rfl rfl <| lx_and (m := i) (n := p) rfl rfl rfl (by show _ < 2 ^ 64; omega) (by show _ < 2 ^ 64; omega) (wrap_i64 (by omega) (by omega)) <| lx_move (.int .i64 ((r : Nat) : Int)) rfl rfl <| lx_eqlS rfl rfl rfl (fun c4 => ?_) (fun c4 => ?_)
        · refine lx_nil <| wi_true rfl <| wi_reg rfl <| lx_move (v) rfl rfl <| lx_move (.int .i64 ((i : Nat) : Int)) rfl rfl <| lx_move (.int .i64 ((i : Nat) : Int)) rfl rfl <| lx_move (.int .i64 ((d : Nat) : Int)) rfl rfl <| lx_add (((i + d : Nat) : Int)) rfl rfl rfl (by omega) (by omega) (by omega) <| lx_build (.agg #[.int .i64 ((i : Nat) : Int), .int .i64 ((i + d : Nat) : Int)]) [(0, .int .i64 ((i : Nat) : Int)), (1, .int .i64 ((i + d : Nat) : Int))] rfl rfl (fun w => bld60_2 _ _ w) <| lx_appendL (E := encP) (B := h.size) [(((i : Nat) : Int), ((i + d : Nat) : Int))] [.agg #[.int .i64 ((i : Nat) : Int), .int .i64 ((i + d : Nat) : Int)]] rfl rfl (fun _ => rfl) rfl eT38 rfl rfl rfl rfl ho3 (fun _ => rfl) (by show ms.length + 1 ≤ _; omega) (by show (ms.length + 1) * 16 ≤ _; omega) hx0_3.size (fun _ _ => trivial) fun u1 v1 h1 ho4 hc1 hg1 => ?_
          have hx0_4 := hx0_3.trans (ho3.ext hc1 hx0_3.size)
          refine lx_assign (v1) rfl rfl <| lx_nil <| wi_inBlock <| wi_reg rfl <| lx_move (.int .i64 ((i : Nat) : Int)) rfl rfl <| lx_add (((i + 1 : Nat) : Int)) rfl rfl rfl (by omega) (by omega) (by omega) <| lx_assign (.int .i64 ((i + 1 : Nat) : Int)) rfl rfl <| lx_nil <| ?_
          -- L6.1
          refine IH4 _ _ (i + 1, v1, ms ++ [(((i : Nat) : Int), ((i + d : Nat) : Int))]) (agree_ups rfl agree_self) ⟨rfl, rfl, trivial⟩ ⟨?_, hx0_4, ?_, ?_⟩ ?_
          · first | exact ho4 | (simpa using ho4)
          · try dsimp only
            omega
          · try dsimp only
            exact (innerF_step (by omega) hms3).1 (by omega)
          · first | omega | (dsimp only; omega)
        · refine lx_nil <| wi_false rfl <| wi_skip <| wi_inBlock <| wi_reg rfl <| lx_move (.int .i64 ((i : Nat) : Int)) rfl rfl <| lx_add (((i + 1 : Nat) : Int)) rfl rfl rfl (by omega) (by omega) (by omega) <| lx_assign (.int .i64 ((i + 1 : Nat) : Int)) rfl rfl <| lx_nil <| ?_
          -- L6.2
          refine IH4 _ _ (i + 1, v, ms) (agree_ups rfl agree_self) ⟨rfl, rfl, trivial⟩ ⟨?_, hx0_3, ?_, ?_⟩ ?_
          · first | exact ho3 | (simpa using ho3)
          · try dsimp only
            omega
          · try dsimp only
            exact (innerF_step (by omega) hms3).2 (by omega)
          · first | omega | (dsimp only; omega)
      · refine lx_nil <| wi_false rfl <| wi_exit rfl <| wi_seq <| wi_seq <| wi_reg rfl <| lx_move (.int .i64 ((q : Nat) : Int)) rfl rfl <| lx_move (.int .i64 ((p : Nat) : Int)) rfl rfl <| lx_eqlS rfl rfl rfl (fun c5 => ?_) (fun c5 => ?_)
        · refine lx_nil <| wi_true rfl <| wi_exit rfl <| wi_inBlock <| wi_reg rfl <| lx_move (.int .i64 ((e1 - 1 : Nat) : Int)) rfl rfl <| lx_sub ((((e1 - 1 : Nat) : Int)) - ((1 : Int))) rfl rfl rfl (by omega) (by omega) (by omega) <| lx_assign (.int .i64 ((((e1 - 1 : Nat) : Int)) - ((1 : Int)))) rfl rfl <| lx_nil <| ?_
          -- L2.1
          refine IH2 _ _ (e1 - 1, v, ms) (agree_ups rfl (agree_mix (rngB_sub (by decide) (by decide) rfl) (agree_ups rfl (agree_mix (rngB_sub (by decide) (by decide) rfl) (agree_ups rfl agree_self))))) ⟨rfl, rfl, trivial⟩ ⟨?_, hx0_3, ?_, ?_⟩ ?_
          · first | exact ho3 | (simpa using ho3)
          · try dsimp only
            omega
          · try dsimp only
            have h9 := innerF_end (by omega) hms3
            rw [(pass_k (by omega) hq).1 (by omega)] at h9
            exact .inr ⟨hm1, by simpa [passR] using h9⟩
          · first | omega | (dsimp only; omega)
        · refine lx_nil <| wi_false rfl <| wi_skip <| wi_seq <| wi_reg rfl <| ?_
          obtain ⟨hk0, hk1, hk2⟩ := (pass_k (by omega) hq).2 (by omega)
          refine lx_move (.int .i64 ((q : Nat) : Int)) rfl rfl <| lx_move (.int .i64 ((p : Nat) : Int)) rfl rfl <| lx_sub (((q - p : Nat) : Int)) rfl rfl rfl (by omega) (by omega) (by omega) <| lx_assign (.int .i64 ((q - p : Nat) : Int)) rfl rfl <| lx_nil <| wi_seq <| wi_reg rfl <| lx_move (.int .i64 ((q : Nat) : Int)) rfl rfl <| lx_quo (m := q) (n := 2) rfl rfl rfl (by omega) (wrap_quo_i64 (by omega)) <| lx_assign (.int .i64 ((q / 2 : Nat) : Int)) rfl rfl <| lx_nil <| wi_reg rfl <| lx_move (.int .i64 ((p : Nat) : Int)) rfl rfl <| lx_assign (.int .i64 ((p : Nat) : Int)) rfl rfl <| lx_nil <| wi_inBlock <| ?_
          -- L4.1
          refine IH3 _ _ (k - 1, q / 2, p, q - p, v, ms) (agree_ups rfl (agree_mix (rngB_sub (by decide) (by decide) rfl) (agree_ups rfl agree_self))) ⟨rfl, rfl, rfl, rfl, trivial⟩ ⟨?_, hx0_3, ?_, ?_, ?_, ?_⟩ ?_
          · first | exact ho3 | (simpa using ho3)
          · try dsimp only
            omega
          · try dsimp only
            omega
          · try dsimp only
            omega
          · try dsimp only
            have h9 := innerF_end (by omega) hms3
            rw [passR_pos hk0] at h9
            exact h9
          · first | omega | (dsimp only; omega)
    · refine lx_nil <| wi_false rfl <| wi_exit rfl <| wi_seq <| wi_reg rfl <| ?_
      have hfin : ms = mergeF m := by
        obtain rfl : e1 = 0 := by omega
        rcases hms with ⟨h1, h2, _⟩ | ⟨h1, h2⟩
        · rw [h2]; unfold mergeF; rw [if_pos h1]
        · unfold mergeF; rw [if_neg (by omega), ← h2]; simp [outM]
      refine lx_move (v) rfl rfl <| lx_assign (v) rfl rfl <| lx_nil <| ?_
      -- R1
      refine wi_ret ⟨v, (res_one rfl rfl), ⟨v, rfl, ?_, hx0_1⟩⟩
      · rw [hfin] at ho1; exact ho1

end Go.Proofs.Ytjfickfgpkejpaa
