/-
  Texts in one: PH, XSubs, PV, PI, PK, PL, PN, PS, PT, PU, PO.
-/
import Derived.Test.YtdokijbdnajhgaaMRot7
set_option linter.unusedSimpArgs false
set_option linter.unusedVariables false
namespace Go.Proofs.Ytdokijbdnajhgaa
open Go Go.X

def UpL (n : Nat) (ls : List (Int × Int)) : Prop := ∀ d, d ∈ ls → ∃ a b : Nat, d = ((a : Int), (b : Int)) ∧ a < b ∧ b < n
theorem upL_nil (n : Nat) : UpL n [] := fun d hd => by cases hd
theorem UpL.snoc {n : Nat} {ls : List (Int × Int)} (h : UpL n ls) {x y : Int} (a b : Nat) (hx : x = a) (hy : y = b) (h1 : a < b) (h2 : b < n) : UpL n (ls ++ [(x, y)]) := fun d hd => by
  rcases List.mem_append.1 hd with hd | hd
  · exact h d hd
  · rw [List.mem_singleton] at hd
    exact ⟨a, b, by rw [hd, hx, hy], h1, h2⟩
def knB (size : Nat) (ls : List (Int × Int)) : Bool := decide (1 ≤ size ∧ size ≤ 12 ∧ ls.length ≤ 1000) && ls.all (Go.X.inR size) && ordB size (closW size ls)
theorem kn_up {size : Nat} {ls : List (Int × Int)} (h1 : 1 ≤ size) (h2 : size ≤ 12) (h3 : ls.length ≤ 1000) (h : UpL size ls) : knB size ls = true := by
  unfold knB
  rw [decide_eq_true ⟨h1, h2, h3⟩, ordB_iff.2 (up_order h), Bool.and_true, Bool.true_and, List.all_eq_true]
  intro d hd
  obtain ⟨a, b, rfl, h4, h5⟩ := h d hd
  exact Go.X.inR_iff.2 ⟨by show (0 : Int) ≤ (a : Int); omega, by show (0 : Int) ≤ (b : Int); omega, by show (a : Int) < _; omega, by show (b : Int) < _; omega⟩
theorem kn_of {size : Nat} {ls : List (Int × Int)} (h : knB size ls = true) : (1 ≤ size ∧ size ≤ 12 ∧ ls.length ≤ 1000) ∧ (∀ j, j < ls.length → Go.X.inR size (gt ls j) = true) ∧ ordB size (closW size ls) = true := by
  unfold knB at h
  rw [Bool.and_eq_true, Bool.and_eq_true, decide_eq_true_iff, List.all_eq_true] at h
  exact ⟨h.1.1, fun j hj => h.1.2 _ (gt_mem hj), h.2⟩
theorem or8 : ∀ x, x < 8 → ∀ b, b < 8 → x &&& b = 0 → 0 < b → x < x ||| b ∧ x ||| b < 8 := by decide
theorem kn2 : knB 5 [((0 : Int), (1 : Int)), ((1 : Int), (2 : Int)), ((2 : Int), (4 : Int)), ((0 : Int), (3 : Int)), ((3 : Int), (4 : Int))] = true := by decide +kernel
theorem kn3 : knB 5 [((0 : Int), (1 : Int)), ((0 : Int), (2 : Int)), ((0 : Int), (3 : Int)), ((1 : Int), (4 : Int)), ((2 : Int), (4 : Int)), ((3 : Int), (4 : Int))] = true := by decide +kernel
theorem kn4 : knB 6 [((0 : Int), (1 : Int)), ((0 : Int), (2 : Int)), ((1 : Int), (3 : Int)), ((1 : Int), (4 : Int)), ((2 : Int), (4 : Int)), ((3 : Int), (5 : Int)), ((4 : Int), (5 : Int))] = true := by decide +kernel
theorem kn5 : knB 7 [((6 : Int), (0 : Int)), ((6 : Int), (1 : Int)), ((6 : Int), (2 : Int)), ((0 : Int), (3 : Int)), ((1 : Int), (3 : Int)), ((1 : Int), (4 : Int)), ((2 : Int), (4 : Int)), ((3 : Int), (5 : Int)), ((4 : Int), (5 : Int))] = true := by decide +kernel

set_option maxRecDepth 10000 in
theorem known_spec (h : Heap) (most : Nat) (n : Nat) (hp1 : n < 18446744073709551616) (hp2 : 1 ≤ most) (hp3 : most ≤ 12) : Fx Try.prog 75 [.int .u64 ((n : Nat) : Int), .int .i64 ((most : Nat) : Int)] h (fun v h' => ∃ (s : Value) (hs : List Hdr) (p : List (List Bool)), v = s ∧ OwE encHd h' h.size 70 s hs ∧ OT encB h' h.size 4 hs p ∧ (p = [] ∨ (isT p = true ∧ 1 ≤ p.length ∧ p.length ≤ most)) ∧ Ext h.size h h') := by
  refine fx_intro (n := 146) [(0, .int .u64 ((n : Nat) : Int)), (1, .int .i64 ((most : Nat) : Int))] Try.func75 rfl rfl (by simp) ⟨rfl, rfl, trivial⟩ fun g0 => ?_
  refine wi_seq <| wi_reg rfl <| lx_assign (.slice none 0 0) rfl rfl <| lx_nil <| wi_seq <| wi_reg rfl <| lx_assign (.slice none 0 0) rfl rfl <| lx_nil <| wi_seq <| wi_reg rfl <| lx_assign (.int .i64 5) rfl rfl <| lx_nil <| wi_seq <| wi_seq <| wi_reg rfl <| lx_move (.int .u64 ((n : Nat) : Int)) rfl rfl <| lx_rem (m := n) (n := 7) rfl rfl rfl (by omega) <| lx_nil <| wi_block <| wi_seq <| wi_reg rfl <| lx_eql rfl rfl rfl <| lx_assign (.bool (decide (((n % 7 : Nat) : Int) = (0 : Int)))) rfl rfl <| lx_nil <| ?_
  refine wi_cutE (σ := Value × (List (Int × Int)) × Nat) (rngB 56 136 [5, 6, 7, 8, 9, 10, 11, 16, 17, 18, 19, 20, 21, 22, 23, 24, 25, 26, 27, 28, 29, 30, 31, 32, 33, 34, 35, 36, 37, 38, 39, 40, 41, 42, 43, 44, 45, 46, 47, 48, 49, 50, 51, 52, 53]) (fun (ss : Value × (List (Int × Int)) × Nat) => [(5, ss.1), (6, .int .i64 ((ss.2.2 : Nat) : Int))]) (fun (ss : Value × (List (Int × Int)) × Nat) (hh : Heap) => OwE encP hh h.size 85 ss.1 ss.2.1 ∧ Ext h.size h hh ∧ (knB ss.2.2 ss.2.1 = true)) (fun J1 => ?_) ?_
  · refine wi_condS (t := decide (((n % 7 : Nat) : Int) = (0 : Int))) rfl (fun c1 => ?_) (fun c1 => ?_)
    · refine wi_seq <| wi_reg rfl <| ?_
      have hmd := Nat.mod_lt (n / 7) (show 0 < most by omega)
      refine lx_move (.int .u64 ((n : Nat) : Int)) rfl rfl <| lx_quo (m := n) (n := 7) rfl rfl rfl (by omega) (wrap_quo_u64 (by omega)) <| lx_move (.int .i64 ((most : Nat) : Int)) rfl rfl <| lx_conv ((most : Nat) : Int) rfl Try.underlying3 Try.underlying45 rfl (wrap_u64 (by omega) (by omega)) <| lx_rem (m := n / 7) (n := most) rfl rfl rfl (by omega) <| lx_conv (((n / 7) % most : Nat) : Int) rfl Try.underlying45 Try.underlying3 rfl (wrap_i64 (by omega) (by omega)) <| lx_add (((1 + ((n / 7) % most) : Nat) : Int)) rfl rfl rfl (by omega) (by omega) (by omega) <| lx_assign (.int .i64 ((1 + ((n / 7) % most) : Nat) : Int)) rfl rfl <| lx_nil <| wi_seq <| wi_reg rfl <| lx_assign (.int .i64 1) rfl rfl <| lx_nil <| wi_block <| ?_
      refine wi_loop (σ := Nat × Value × (List (Int × Int))) (rngB 63 75 [5, 7]) (fun (ss : Nat × Value × (List (Int × Int))) => [(7, .int .i64 ((ss.1 : Nat) : Int)), (5, ss.2.1)]) (fun (ss : Nat × Value × (List (Int × Int))) (hh : Heap) => OwE encP hh h.size 85 ss.2.1 ss.2.2 ∧ Ext h.size h hh ∧ (UpL (1 + n / 7 % most) ss.2.2) ∧ (ss.2.2.length ≤ ss.1) ∧ (1 ≤ ss.1 ∧ ss.1 ≤ 1 + n / 7 % most)) (fun (ss : Nat × Value × (List (Int × Int))) => 1 + n / 7 % most - ss.1) (1, .slice none 0 0, []) ⟨rfl, rfl, trivial⟩ ⟨?_, (Ext.refl _ _), ?_, ?_, ?_⟩ ?_
      · first | exact (owE_nil encP _ h.size 85) | (simpa using (owE_nil encP _ h.size 85))
      · try dsimp only
        exact upL_nil _
      · try dsimp only
        exact Nat.zero_le _
      · try dsimp only
        omega
      rintro g1 ⟨i, v, ls⟩ hh1 ⟨ho1, hx0_1, hu, hll, hi⟩ IH1
      dsimp only at *
      refine wi_seq <| wi_seq <| wi_reg rfl <| lx_move (.int .i64 ((i : Nat) : Int)) rfl rfl <| lx_move (.int .i64 ((1 + ((n / 7) % most) : Nat) : Int)) rfl rfl <| lx_lssS rfl rfl rfl (fun c2 => ?_) (fun c2 => ?_)
      · refine lx_nil <| wi_true rfl <| wi_skip <| wi_seq <| wi_block <| wi_reg rfl <| lx_move (v) rfl rfl <| lx_move (.int .i64 ((i : Nat) : Int)) rfl rfl <| lx_sub ((((i : Nat) : Int)) - ((1 : Int))) rfl rfl rfl (by omega) (by omega) (by omega) <| lx_move (.int .i64 ((i : Nat) : Int)) rfl rfl <| lx_build (.agg #[.int .i64 ((((i : Nat) : Int)) - ((1 : Int))), .int .i64 ((i : Nat) : Int)]) [(0, .int .i64 ((((i : Nat) : Int)) - ((1 : Int)))), (1, .int .i64 ((i : Nat) : Int))] rfl rfl (fun w => bld85_2 _ _ w) <| lx_appendL (E := encP) (B := h.size) [((((i : Nat) : Int)) - ((1 : Int)), ((i : Nat) : Int))] [.agg #[.int .i64 ((((i : Nat) : Int)) - ((1 : Int))), .int .i64 ((i : Nat) : Int)]] rfl rfl (fun _ => rfl) rfl eT22 rfl rfl rfl rfl ho1 (fun _ => rfl) (by show ls.length + 1 ≤ _; omega) (by show (ls.length + 1) * 16 ≤ _; omega) hx0_1.size (fun _ _ => trivial) fun u1 v1 h1 ho2 hc1 hg1 => ?_
        have hx0_2 := hx0_1.trans (ho1.ext hc1 hx0_1.size)
        refine lx_assign (v1) rfl rfl <| lx_nil <| wi_inBlock <| wi_reg rfl <| lx_move (.int .i64 ((i : Nat) : Int)) rfl rfl <| lx_add (((i + 1 : Nat) : Int)) rfl rfl rfl (by omega) (by omega) (by omega) <| lx_assign (.int .i64 ((i + 1 : Nat) : Int)) rfl rfl <| lx_nil <| ?_
        -- L5.1
        refine IH1 _ _ (i + 1, v1, ls ++ [((((i : Nat) : Int)) - ((1 : Int)), ((i : Nat) : Int))]) (agree_ups rfl agree_self) ⟨rfl, rfl, trivial⟩ ⟨?_, hx0_2, ?_, ?_, ?_⟩ ?_
        · first | exact ho2 | (simpa using ho2)
        · try dsimp only
          exact hu.snoc (i - 1) i (by omega) rfl (by omega) (by omega)
        · try dsimp only
          first | omega | (simp only [List.length_append, List.length_cons, List.length_nil]; omega)
        · try dsimp only
          omega
        · first | omega | (dsimp only; omega)
      · refine lx_nil <| wi_false rfl <| wi_exit rfl <| ?_
        -- Jt54.1
        refine J1 _ _ (v, ls, 1 + ((n / 7) % most)) (agree_ups rfl (agree_mix (rngB_sub (by decide) (by decide) rfl) (agree_ups rfl agree_upsJ))) ⟨rfl, rfl, trivial⟩ ⟨?_, hx0_1, ?_⟩
        · first | exact ho1 | (simpa using ho1)
        · try dsimp only
          exact kn_up (by omega) (by omega) (by omega) hu
    · refine wi_seq <| wi_reg rfl <| lx_eqlS rfl rfl rfl (fun c3 => ?_) (fun c3 => ?_)
      · refine lx_assign (.bool true) rfl rfl <| lx_nil <| wi_true rfl <| wi_seq <| wi_reg rfl <| lx_assign (.int .i64 8) rfl rfl <| lx_nil <| wi_seq <| wi_reg rfl <| lx_assign (.int .i64 0) rfl rfl <| lx_nil <| wi_block <| ?_
        refine wi_loop (σ := Nat × Value × (List (Int × Int))) (rngB 77 97 [5, 8, 9]) (fun (ss : Nat × Value × (List (Int × Int))) => [(8, .int .i64 ((ss.1 : Nat) : Int)), (5, ss.2.1)]) (fun (ss : Nat × Value × (List (Int × Int))) (hh : Heap) => OwE encP hh h.size 85 ss.2.1 ss.2.2 ∧ Ext h.size h hh ∧ (UpL 8 ss.2.2) ∧ (ss.2.2.length ≤ 16 * ss.1) ∧ (ss.1 ≤ 8)) (fun (ss : Nat × Value × (List (Int × Int))) => 8 - ss.1) (0, .slice none 0 0, []) ⟨rfl, rfl, trivial⟩ ⟨?_, (Ext.refl _ _), ?_, ?_, ?_⟩ ?_
        · first | exact (owE_nil encP _ h.size 85) | (simpa using (owE_nil encP _ h.size 85))
        · try dsimp only
          exact upL_nil _
        · try dsimp only
          exact Nat.zero_le _
        · try dsimp only
          omega
        rintro g2 ⟨x, v, ls⟩ hh2 ⟨ho3, hx0_3, hu, hll, hx⟩ IH2
        dsimp only at *
        refine wi_seq <| wi_seq <| wi_reg rfl <| lx_move (.int .i64 ((x : Nat) : Int)) rfl rfl <| lx_lssS rfl rfl rfl (fun c4 => ?_) (fun c4 => ?_)
        · refine lx_nil <| wi_true rfl <| wi_skip <| wi_seq <| wi_block <| wi_seq <| wi_reg rfl <| lx_assign (.int .i64 1) rfl rfl <| lx_nil <| wi_block <| ?_
          refine wi_loop (σ := Nat × Value × (List (Int × Int))) (rngB 81 97 [5, 9]) (fun (ss : Nat × Value × (List (Int × Int))) => [(9, .int .i64 ((ss.1 : Nat) : Int)), (5, ss.2.1)]) (fun (ss : Nat × Value × (List (Int × Int))) (hh : Heap) => OwE encP hh h.size 85 ss.2.1 ss.2.2 ∧ Ext h.size h hh ∧ (UpL 8 ss.2.2) ∧ (ss.2.2.length ≤ 16 * x + ss.1) ∧ (1 ≤ ss.1 ∧ ss.1 ≤ 15)) (fun (ss : Nat × Value × (List (Int × Int))) => 16 - ss.1) (1, v, ls) ⟨rfl, rfl, trivial⟩ ⟨?_, hx0_3, ?_, ?_, ?_⟩ ?_
          · first | exact ho3 | (simpa using ho3)
          · try dsimp only
            exact hu
          · try dsimp only
            first | omega | (simp only [List.length_append, List.length_cons, List.length_nil]; omega)
          · try dsimp only
            omega
          rintro g3 ⟨b, v, ls⟩ hh3 ⟨ho4, hx0_4, hu, hll, hb⟩ IH3
          dsimp only at *
          refine wi_seq <| wi_seq <| wi_reg rfl <| lx_move (.int .i64 ((b : Nat) : Int)) rfl rfl <| lx_lssS rfl rfl rfl (fun c5 => ?_) (fun c5 => ?_)
          · refine lx_nil <| wi_true rfl <| wi_skip <| wi_seq <| wi_block <| wi_seq <| wi_reg rfl <| ?_
            have hxb : x &&& b ≤ x := Nat.and_le_left
            refine lx_move (.int .i64 ((x : Nat) : Int)) rfl rfl <| lx_move (.int .i64 ((b : Nat) : Int)) rfl rfl <| lx_and (m := x) (n := b) rfl rfl rfl (by show _ < 2 ^ 64; omega) (by show _ < 2 ^ 64; omega) (wrap_i64 (by omega) (by omega)) <| lx_eqlS rfl rfl rfl (fun c6 => ?_) (fun c6 => ?_)
            · refine lx_nil <| wi_true rfl <| wi_reg rfl <| ?_
              obtain ⟨ho1, ho2⟩ := or8 x (by omega) b (by omega) (by omega) (by omega)
              refine lx_move (v) rfl rfl <| lx_move (.int .i64 ((x : Nat) : Int)) rfl rfl <| lx_move (.int .i64 ((x : Nat) : Int)) rfl rfl <| lx_move (.int .i64 ((b : Nat) : Int)) rfl rfl <| lx_or (m := x) (n := b) rfl rfl rfl (by show _ < 2 ^ 64; omega) (by show _ < 2 ^ 64; omega) (wrap_i64 (by omega) (by omega)) <| lx_build (.agg #[.int .i64 ((x : Nat) : Int), .int .i64 ((x ||| b : Nat) : Int)]) [(0, .int .i64 ((x : Nat) : Int)), (1, .int .i64 ((x ||| b : Nat) : Int))] rfl rfl (fun w => bld85_2 _ _ w) <| lx_appendL (E := encP) (B := h.size) [(((x : Nat) : Int), ((x ||| b : Nat) : Int))] [.agg #[.int .i64 ((x : Nat) : Int), .int .i64 ((x ||| b : Nat) : Int)]] rfl rfl (fun _ => rfl) rfl eT22 rfl rfl rfl rfl ho4 (fun _ => rfl) (by show ls.length + 1 ≤ _; omega) (by show (ls.length + 1) * 16 ≤ _; omega) hx0_4.size (fun _ _ => trivial) fun u2 v2 h2 ho5 hc2 hg2 => ?_
              have hx0_5 := hx0_4.trans (ho4.ext hc2 hx0_4.size)
              refine lx_assign (v2) rfl rfl <| lx_nil <| wi_inBlock <| wi_reg rfl <| lx_move (.int .i64 ((b : Nat) : Int)) rfl rfl <| lx_mul (((2 * b : Nat) : Int)) rfl rfl rfl (by omega) (by omega) (by omega) <| lx_assign (.int .i64 ((2 * b : Nat) : Int)) rfl rfl <| lx_nil <| ?_
              -- L9.1
              refine IH3 _ _ (2 * b, v2, ls ++ [(((x : Nat) : Int), ((x ||| b : Nat) : Int))]) (agree_ups rfl agree_self) ⟨rfl, rfl, trivial⟩ ⟨?_, hx0_5, ?_, ?_, ?_⟩ ?_
              · first | exact ho5 | (simpa using ho5)
              · try dsimp only
                exact hu.snoc x (x ||| b) rfl rfl ho1 ho2
              · try dsimp only
                first | omega | (simp only [List.length_append, List.length_cons, List.length_nil]; omega)
              · try dsimp only
                omega
              · first | omega | (dsimp only; omega)
            · refine lx_nil <| wi_false rfl <| wi_skip <| wi_inBlock <| wi_reg rfl <| lx_move (.int .i64 ((b : Nat) : Int)) rfl rfl <| lx_mul (((2 * b : Nat) : Int)) rfl rfl rfl (by omega) (by omega) (by omega) <| lx_assign (.int .i64 ((2 * b : Nat) : Int)) rfl rfl <| lx_nil <| ?_
              -- L9.2
              refine IH3 _ _ (2 * b, v, ls) (agree_ups rfl agree_self) ⟨rfl, rfl, trivial⟩ ⟨?_, hx0_4, ?_, ?_, ?_⟩ ?_
              · first | exact ho4 | (simpa using ho4)
              · try dsimp only
                exact hu
              · try dsimp only
                first | omega | (simp only [List.length_append, List.length_cons, List.length_nil]; omega)
              · try dsimp only
                omega
              · first | omega | (dsimp only; omega)
          · refine lx_nil <| wi_false rfl <| wi_exit rfl <| wi_inBlock <| wi_reg rfl <| lx_move (.int .i64 ((x : Nat) : Int)) rfl rfl <| lx_add (((x + 1 : Nat) : Int)) rfl rfl rfl (by omega) (by omega) (by omega) <| lx_assign (.int .i64 ((x + 1 : Nat) : Int)) rfl rfl <| lx_nil <| ?_
            -- L7.1
            refine IH2 _ _ (x + 1, v, ls) (agree_ups rfl (agree_mix (rngB_sub (by decide) (by decide) rfl) (agree_ups rfl agree_self))) ⟨rfl, rfl, trivial⟩ ⟨?_, hx0_4, ?_, ?_, ?_⟩ ?_
            · first | exact ho4 | (simpa using ho4)
            · try dsimp only
              exact hu
            · try dsimp only
              omega
            · try dsimp only
              omega
            · first | omega | (dsimp only; omega)
        · refine lx_nil <| wi_false rfl <| wi_exit rfl <| ?_
          -- Jt54.2
          refine J1 _ _ (v, ls, 8) (agree_ups rfl (agree_mix (rngB_sub (by decide) (by decide) rfl) (agree_ups rfl agree_upsJ))) ⟨rfl, rfl, trivial⟩ ⟨?_, hx0_3, ?_⟩
          · first | exact ho3 | (simpa using ho3)
          · try dsimp only
            exact kn_up (by omega) (by omega) (by omega) hu
      · refine lx_assign (.bool false) rfl rfl <| lx_nil <| wi_false rfl <| wi_seq <| wi_reg rfl <| lx_eqlS rfl rfl rfl (fun c7 => ?_) (fun c7 => ?_)
        · refine lx_assign (.bool true) rfl rfl <| lx_nil <| wi_true rfl <| wi_reg rfl <| lx_build (.agg #[.int .i64 0, .int .i64 1]) [(0, .int .i64 0), (1, .int .i64 1)] rfl rfl (fun w => bld85_2 _ _ w) <| lx_build (.agg #[.int .i64 1, .int .i64 2]) [(0, .int .i64 1), (1, .int .i64 2)] rfl rfl (fun w => bld85_2 _ _ w) <| lx_build (.agg #[.int .i64 2, .int .i64 4]) [(0, .int .i64 2), (1, .int .i64 4)] rfl rfl (fun w => bld85_2 _ _ w) <| lx_build (.agg #[.int .i64 0, .int .i64 3]) [(0, .int .i64 0), (1, .int .i64 3)] rfl rfl (fun w => bld85_2 _ _ w) <| lx_build (.agg #[.int .i64 3, .int .i64 4]) [(0, .int .i64 3), (1, .int .i64 4)] rfl rfl (fun w => bld85_2 _ _ w) <| lx_buildSlice (E := encP) h.size [((0 : Int), (1 : Int)), ((1 : Int), (2 : Int)), ((2 : Int), (4 : Int)), ((0 : Int), (3 : Int)), ((3 : Int), (4 : Int))] [.agg #[.int .i64 0, .int .i64 1], .agg #[.int .i64 1, .int .i64 2], .agg #[.int .i64 2, .int .i64 4], .agg #[.int .i64 0, .int .i64 3], .agg #[.int .i64 3, .int .i64 4]] rfl rfl eT22 rfl rfl rfl rfl (Nat.le_refl _) (fun _ _ _ => trivial) fun v3 h3 ho6 hx1 hvb1 hsz1 => ?_
          have ho7 := ho6.base (Nat.le_refl h.size)
          refine lx_assign (v3) rfl rfl <| lx_nil <| ?_
          -- Jt54.3
          refine J1 _ _ (v3, [((0 : Int), (1 : Int)), ((1 : Int), (2 : Int)), ((2 : Int), (4 : Int)), ((0 : Int), (3 : Int)), ((3 : Int), (4 : Int))], 5) (agree_ups rfl agree_upsJ) ⟨rfl, rfl, trivial⟩ ⟨?_, hx1, ?_⟩
          · first | exact ho7 | (simpa using ho7)
          · try dsimp only
            exact kn2
        · refine lx_assign (.bool false) rfl rfl <| lx_nil <| wi_false rfl <| wi_seq <| wi_reg rfl <| lx_eqlS rfl rfl rfl (fun c8 => ?_) (fun c8 => ?_)
          · refine lx_assign (.bool true) rfl rfl <| lx_nil <| wi_true rfl <| wi_reg rfl <| lx_build (.agg #[.int .i64 0, .int .i64 1]) [(0, .int .i64 0), (1, .int .i64 1)] rfl rfl (fun w => bld85_2 _ _ w) <| lx_build (.agg #[.int .i64 0, .int .i64 2]) [(0, .int .i64 0), (1, .int .i64 2)] rfl rfl (fun w => bld85_2 _ _ w) <| lx_build (.agg #[.int .i64 0, .int .i64 3]) [(0, .int .i64 0), (1, .int .i64 3)] rfl rfl (fun w => bld85_2 _ _ w) <| lx_build (.agg #[.int .i64 1, .int .i64 4]) [(0, .int .i64 1), (1, .int .i64 4)] rfl rfl (fun w => bld85_2 _ _ w) <| lx_build (.agg #[.int .i64 2, .int .i64 4]) [(0, .int .i64 2), (1, .int .i64 4)] rfl rfl (fun w => bld85_2 _ _ w) <| lx_build (.agg #[.int .i64 3, .int .i64 4]) [(0, .int .i64 3), (1, .int .i64 4)] rfl rfl (fun w => bld85_2 _ _ w) <| lx_buildSlice (E := encP) h.size [((0 : Int), (1 : Int)), ((0 : Int), (2 : Int)), ((0 : Int), (3 : Int)), ((1 : Int), (4 : Int)), ((2 : Int), (4 : Int)), ((3 : Int), (4 : Int))] [.agg #[.int .i64 0, .int .i64 1], .agg #[.int .i64 0, .int .i64 2], .agg #[.int .i64 0, .int .i64 3], .agg #[.int .i64 1, .int .i64 4], .agg #[.int .i64 2, .int .i64 4], .agg #[.int .i64 3, .int .i64 4]] rfl rfl eT22 rfl rfl rfl rfl (Nat.le_refl _) (fun _ _ _ => trivial) fun v4 h4 ho8 hx2 hvb2 hsz2 => ?_
            have ho9 := ho8.base (Nat.le_refl h.size)
            refine lx_assign (v4) rfl rfl <| lx_nil <| ?_
            -- Jt54.4
            refine J1 _ _ (v4, [((0 : Int), (1 : Int)), ((0 : Int), (2 : Int)), ((0 : Int), (3 : Int)), ((1 : Int), (4 : Int)), ((2 : Int), (4 : Int)), ((3 : Int), (4 : Int))], 5) (agree_ups rfl agree_upsJ) ⟨rfl, rfl, trivial⟩ ⟨?_, hx2, ?_⟩
            · first | exact ho9 | (simpa using ho9)
            · try dsimp only
              exact kn3
          · refine lx_assign (.bool false) rfl rfl <| lx_nil <| wi_false rfl <| wi_seq <| wi_reg rfl <| lx_eqlS rfl rfl rfl (fun c9 => ?_) (fun c9 => ?_)
            · refine lx_assign (.bool true) rfl rfl <| lx_nil <| wi_true rfl <| wi_seq <| wi_reg rfl <| lx_assign (.int .i64 6) rfl rfl <| lx_nil <| wi_reg rfl <| lx_build (.agg #[.int .i64 0, .int .i64 1]) [(0, .int .i64 0), (1, .int .i64 1)] rfl rfl (fun w => bld85_2 _ _ w) <| lx_build (.agg #[.int .i64 0, .int .i64 2]) [(0, .int .i64 0), (1, .int .i64 2)] rfl rfl (fun w => bld85_2 _ _ w) <| lx_build (.agg #[.int .i64 1, .int .i64 3]) [(0, .int .i64 1), (1, .int .i64 3)] rfl rfl (fun w => bld85_2 _ _ w) <| lx_build (.agg #[.int .i64 1, .int .i64 4]) [(0, .int .i64 1), (1, .int .i64 4)] rfl rfl (fun w => bld85_2 _ _ w) <| lx_build (.agg #[.int .i64 2, .int .i64 4]) [(0, .int .i64 2), (1, .int .i64 4)] rfl rfl (fun w => bld85_2 _ _ w) <| lx_build (.agg #[.int .i64 3, .int .i64 5]) [(0, .int .i64 3), (1, .int .i64 5)] rfl rfl (fun w => bld85_2 _ _ w) <| lx_build (.agg #[.int .i64 4, .int .i64 5]) [(0, .int .i64 4), (1, .int .i64 5)] rfl rfl (fun w => bld85_2 _ _ w) <| lx_buildSlice (E := encP) h.size [((0 : Int), (1 : Int)), ((0 : Int), (2 : Int)), ((1 : Int), (3 : Int)), ((1 : Int), (4 : Int)), ((2 : Int), (4 : Int)), ((3 : Int), (5 : Int)), ((4 : Int), (5 : Int))] [.agg #[.int .i64 0, .int .i64 1], .agg #[.int .i64 0, .int .i64 2], .agg #[.int .i64 1, .int .i64 3], .agg #[.int .i64 1, .int .i64 4], .agg #[.int .i64 2, .int .i64 4], .agg #[.int .i64 3, .int .i64 5], .agg #[.int .i64 4, .int .i64 5]] rfl rfl eT22 rfl rfl rfl rfl (Nat.le_refl _) (fun _ _ _ => trivial) fun v5 h5 ho10 hx3 hvb3 hsz3 => ?_
              have ho11 := ho10.base (Nat.le_refl h.size)
              refine lx_assign (v5) rfl rfl <| lx_nil <| ?_
              -- Jt54.5
              refine J1 _ _ (v5, [((0 : Int), (1 : Int)), ((0 : Int), (2 : Int)), ((1 : Int), (3 : Int)), ((1 : Int), (4 : Int)), ((2 : Int), (4 : Int)), ((3 : Int), (5 : Int)), ((4 : Int), (5 : Int))], 6) (agree_ups rfl agree_upsJ) ⟨rfl, rfl, trivial⟩ ⟨?_, hx3, ?_⟩
              · first | exact ho11 | (simpa using ho11)
              · try dsimp only
                exact kn4
            · refine lx_assign (.bool false) rfl rfl <| lx_nil <| wi_false rfl <| wi_seq <| wi_reg rfl <| lx_eqlS rfl rfl rfl (fun c10 => ?_) (fun c10 => ?_)
              · refine lx_assign (.bool true) rfl rfl <| lx_nil <| wi_true rfl <| wi_seq <| wi_reg rfl <| lx_assign (.int .i64 7) rfl rfl <| lx_nil <| wi_reg rfl <| lx_build (.agg #[.int .i64 6, .int .i64 0]) [(0, .int .i64 6), (1, .int .i64 0)] rfl rfl (fun w => bld85_2 _ _ w) <| lx_build (.agg #[.int .i64 6, .int .i64 1]) [(0, .int .i64 6), (1, .int .i64 1)] rfl rfl (fun w => bld85_2 _ _ w) <| lx_build (.agg #[.int .i64 6, .int .i64 2]) [(0, .int .i64 6), (1, .int .i64 2)] rfl rfl (fun w => bld85_2 _ _ w) <| lx_build (.agg #[.int .i64 0, .int .i64 3]) [(0, .int .i64 0), (1, .int .i64 3)] rfl rfl (fun w => bld85_2 _ _ w) <| lx_build (.agg #[.int .i64 1, .int .i64 3]) [(0, .int .i64 1), (1, .int .i64 3)] rfl rfl (fun w => bld85_2 _ _ w) <| lx_build (.agg #[.int .i64 1, .int .i64 4]) [(0, .int .i64 1), (1, .int .i64 4)] rfl rfl (fun w => bld85_2 _ _ w) <| lx_build (.agg #[.int .i64 2, .int .i64 4]) [(0, .int .i64 2), (1, .int .i64 4)] rfl rfl (fun w => bld85_2 _ _ w) <| lx_build (.agg #[.int .i64 3, .int .i64 5]) [(0, .int .i64 3), (1, .int .i64 5)] rfl rfl (fun w => bld85_2 _ _ w) <| lx_build (.agg #[.int .i64 4, .int .i64 5]) [(0, .int .i64 4), (1, .int .i64 5)] rfl rfl (fun w => bld85_2 _ _ w) <| lx_buildSlice (E := encP) h.size [((6 : Int), (0 : Int)), ((6 : Int), (1 : Int)), ((6 : Int), (2 : Int)), ((0 : Int), (3 : Int)), ((1 : Int), (3 : Int)), ((1 : Int), (4 : Int)), ((2 : Int), (4 : Int)), ((3 : Int), (5 : Int)), ((4 : Int), (5 : Int))] [.agg #[.int .i64 6, .int .i64 0], .agg #[.int .i64 6, .int .i64 1], .agg #[.int .i64 6, .int .i64 2], .agg #[.int .i64 0, .int .i64 3], .agg #[.int .i64 1, .int .i64 3], .agg #[.int .i64 1, .int .i64 4], .agg #[.int .i64 2, .int .i64 4], .agg #[.int .i64 3, .int .i64 5], .agg #[.int .i64 4, .int .i64 5]] rfl rfl eT22 rfl rfl rfl rfl (Nat.le_refl _) (fun _ _ _ => trivial) fun v6 h6 ho12 hx4 hvb4 hsz4 => ?_
                have ho13 := ho12.base (Nat.le_refl h.size)
                refine lx_assign (v6) rfl rfl <| lx_nil <| ?_
                -- Jt54.6
                refine J1 _ _ (v6, [((6 : Int), (0 : Int)), ((6 : Int), (1 : Int)), ((6 : Int), (2 : Int)), ((0 : Int), (3 : Int)), ((1 : Int), (3 : Int)), ((1 : Int), (4 : Int)), ((2 : Int), (4 : Int)), ((3 : Int), (5 : Int)), ((4 : Int), (5 : Int))], 7) (agree_ups rfl agree_upsJ) ⟨rfl, rfl, trivial⟩ ⟨?_, hx4, ?_⟩
                · first | exact ho13 | (simpa using ho13)
                · try dsimp only
                  exact kn5
              · refine lx_assign (.bool false) rfl rfl <| lx_nil <| wi_false rfl <| wi_seq <| wi_reg rfl <| lx_assign (.int .i64 12) rfl rfl <| lx_nil <| wi_seq <| wi_reg rfl <| lx_assign (.int .i64 0) rfl rfl <| lx_nil <| wi_block <| ?_
                refine wi_loop (σ := Nat × Value × (List (Int × Int))) (rngB 56 56 [5, 10, 11, 16, 17, 18, 19, 20, 21, 22, 23, 24, 25, 26, 27, 28, 29, 30, 31, 32, 33, 34, 35, 36, 37, 38, 39, 40, 41, 42, 43, 44, 45, 46, 47, 48, 49, 50, 51, 52, 53]) (fun (ss : Nat × Value × (List (Int × Int))) => [(10, .int .i64 ((ss.1 : Nat) : Int)), (5, ss.2.1)]) (fun (ss : Nat × Value × (List (Int × Int))) (hh : Heap) => OwE encP hh h.size 85 ss.2.1 ss.2.2 ∧ Ext h.size h hh ∧ (UpL 12 ss.2.2) ∧ (ss.2.2.length ≤ 10 * ss.1) ∧ (ss.1 ≤ 4)) (fun (ss : Nat × Value × (List (Int × Int))) => 4 - ss.1) (0, .slice none 0 0, []) ⟨rfl, rfl, trivial⟩ ⟨?_, (Ext.refl _ _), ?_, ?_, ?_⟩ ?_
                · first | exact (owE_nil encP _ h.size 85) | (simpa using (owE_nil encP _ h.size 85))
                · try dsimp only
                  exact upL_nil _
                · try dsimp only
                  exact Nat.zero_le _
                · try dsimp only
                  omega
                rintro g4 ⟨x, v, ls⟩ hh4 ⟨ho14, hx0_6, hu, hll, hx⟩ IH4
                dsimp only at *
                refine wi_seq <| wi_seq <| wi_reg rfl <| lx_move (.int .i64 ((x : Nat) : Int)) rfl rfl <| lx_lssS rfl rfl rfl (fun c11 => ?_) (fun c11 => ?_)
                · refine lx_nil <| wi_true rfl <| wi_skip <| wi_seq <| wi_block <| wi_seq <| wi_reg rfl <| lx_assign (.int .i64 0) rfl rfl <| lx_nil <| wi_block <| ?_
                  refine wi_loop (σ := Nat × Value × (List (Int × Int))) (rngB 56 56 [5, 11, 20, 21, 22, 23, 24, 25, 26, 27, 28, 29, 30, 31, 32, 33, 34, 35, 36, 37, 38, 39, 40, 41, 42, 43, 44, 45, 46, 47, 48, 49, 50, 51, 52, 53]) (fun (ss : Nat × Value × (List (Int × Int))) => [(11, .int .i64 ((ss.1 : Nat) : Int)), (5, ss.2.1)]) (fun (ss : Nat × Value × (List (Int × Int))) (hh : Heap) => OwE encP hh h.size 85 ss.2.1 ss.2.2 ∧ Ext h.size h hh ∧ (UpL 12 ss.2.2) ∧ (ss.2.2.length ≤ 10 * x + 2 * ss.1) ∧ (ss.1 ≤ 3)) (fun (ss : Nat × Value × (List (Int × Int))) => 3 - ss.1) (0, v, ls) ⟨rfl, rfl, trivial⟩ ⟨?_, hx0_6, ?_, ?_, ?_⟩ ?_
                  · first | exact ho14 | (simpa using ho14)
                  · try dsimp only
                    exact hu
                  · try dsimp only
                    first | omega | (simp only [List.length_append, List.length_cons, List.length_nil]; omega)
                  · try dsimp only
                    omega
                  rintro g5 ⟨y, v, ls⟩ hh5 ⟨ho15, hx0_7, hu, hll, hy⟩ IH5
                  dsimp only at *
                  refine wi_seq <| wi_seq <| wi_reg rfl <| lx_move (.int .i64 ((y : Nat) : Int)) rfl rfl <| lx_lssS rfl rfl rfl (fun c12 => ?_) (fun c12 => ?_)
                  · refine lx_nil <| wi_true rfl <| wi_skip <| wi_seq <| wi_block <| wi_seq <| wi_seq <| wi_reg rfl <| lx_move (.int .i64 ((x : Nat) : Int)) rfl rfl <| lx_lssS rfl rfl rfl (fun c13 => ?_) (fun c13 => ?_)
                    · refine lx_nil <| wi_true rfl <| wi_reg rfl <| lx_move (v) rfl rfl <| lx_move (.int .i64 ((x : Nat) : Int)) rfl rfl <| lx_mul (((3 * x : Nat) : Int)) rfl rfl rfl (by omega) (by omega) (by omega) <| lx_move (.int .i64 ((y : Nat) : Int)) rfl rfl <| lx_add (((3 * x + y : Nat) : Int)) rfl rfl rfl (by omega) (by omega) (by omega) <| lx_move (.int .i64 ((x : Nat) : Int)) rfl rfl <| lx_mul (((3 * x : Nat) : Int)) rfl rfl rfl (by omega) (by omega) (by omega) <| lx_move (.int .i64 ((y : Nat) : Int)) rfl rfl <| lx_add (((3 * x + y : Nat) : Int)) rfl rfl rfl (by omega) (by omega) (by omega) <| lx_add (((3 * x + y + 3 : Nat) : Int)) rfl rfl rfl (by omega) (by omega) (by omega) <| lx_build (.agg #[.int .i64 ((3 * x + y : Nat) : Int), .int .i64 ((3 * x + y + 3 : Nat) : Int)]) [(0, .int .i64 ((3 * x + y : Nat) : Int)), (1, .int .i64 ((3 * x + y + 3 : Nat) : Int))] rfl rfl (fun w => bld85_2 _ _ w) <| lx_appendL (E := encP) (B := h.size) [(((3 * x + y : Nat) : Int), ((3 * x + y + 3 : Nat) : Int))] [.agg #[.int .i64 ((3 * x + y : Nat) : Int), .int .i64 ((3 * x + y + 3 : Nat) : Int)]] rfl rfl (fun _ => rfl) rfl eT22 rfl rfl rfl rfl ho15 (fun _ => rfl) (by show ls.length + 1 ≤ _; omega) (by show (ls.length + 1) * 16 ≤ _; omega) hx0_7.size (fun _ _ => trivial) fun u3 v7 h7 ho16 hc3 hg3 => ?_
                      have hx0_8 := hx0_7.trans (ho15.ext hc3 hx0_7.size)
                      refine lx_assign (v7) rfl rfl <| lx_nil <| wi_seq <| wi_reg rfl <| lx_move (.int .i64 ((y : Nat) : Int)) rfl rfl <| lx_lssS rfl rfl rfl (fun c14 => ?_) (fun c14 => ?_)
                      · refine lx_nil <| wi_true rfl <| wi_reg rfl <| lx_move (v7) rfl rfl <| lx_move (.int .i64 ((x : Nat) : Int)) rfl rfl <| lx_mul (((3 * x : Nat) : Int)) rfl rfl rfl (by omega) (by omega) (by omega) <| lx_move (.int .i64 ((y : Nat) : Int)) rfl rfl <| lx_add (((3 * x + y : Nat) : Int)) rfl rfl rfl (by omega) (by omega) (by omega) <| lx_move (.int .i64 ((x : Nat) : Int)) rfl rfl <| lx_mul (((3 * x : Nat) : Int)) rfl rfl rfl (by omega) (by omega) (by omega) <| lx_move (.int .i64 ((y : Nat) : Int)) rfl rfl <| lx_add (((3 * x + y : Nat) : Int)) rfl rfl rfl (by omega) (by omega) (by omega) <| lx_add (((3 * x + y + 1 : Nat) : Int)) rfl rfl rfl (by omega) (by omega) (by omega) <| lx_build (.agg #[.int .i64 ((3 * x + y : Nat) : Int), .int .i64 ((3 * x + y + 1 : Nat) : Int)]) [(0, .int .i64 ((3 * x + y : Nat) : Int)), (1, .int .i64 ((3 * x + y + 1 : Nat) : Int))] rfl rfl (fun w => bld85_2 _ _ w) <| lx_appendL (E := encP) (B := h.size) [(((3 * x + y : Nat) : Int), ((3 * x + y + 1 : Nat) : Int))] [.agg #[.int .i64 ((3 * x + y : Nat) : Int), .int .i64 ((3 * x + y + 1 : Nat) : Int)]] rfl rfl (fun _ => rfl) rfl eT22 rfl rfl rfl rfl ho16 (fun _ => rfl) (by show (ls ++ [(((3 * x + y : Nat) : Int), ((3 * x + y + 3 : Nat) : Int))]).length + 1 ≤ _; simp only [List.length_append, List.length_cons, List.length_nil]; omega) (by show ((ls ++ [(((3 * x + y : Nat) : Int), ((3 * x + y + 3 : Nat) : Int))]).length + 1) * 16 ≤ _; simp only [List.length_append, List.length_cons, List.length_nil]; omega) hx0_8.size (fun _ _ => trivial) fun u4 v8 h8 ho17 hc4 hg4 => ?_
                        have hx0_9 := hx0_8.trans (ho16.ext hc4 hx0_8.size)
                        refine lx_assign (v8) rfl rfl <| lx_nil <| wi_inBlock <| wi_reg rfl <| lx_move (.int .i64 ((y : Nat) : Int)) rfl rfl <| lx_add (((y + 1 : Nat) : Int)) rfl rfl rfl (by omega) (by omega) (by omega) <| lx_assign (.int .i64 ((y + 1 : Nat) : Int)) rfl rfl <| lx_nil <| ?_
                        -- L3.1
                        refine IH5 _ _ (y + 1, v8, (ls ++ [(((3 * x + y : Nat) : Int), ((3 * x + y + 3 : Nat) : Int))]) ++ [(((3 * x + y : Nat) : Int), ((3 * x + y + 1 : Nat) : Int))]) (agree_ups rfl agree_self) ⟨rfl, rfl, trivial⟩ ⟨?_, hx0_9, ?_, ?_, ?_⟩ ?_
                        · first | exact ho17 | (simpa using ho17)
                        · try dsimp only
                          first
                          | exact (hu.snoc (3 * x + y) (3 * x + y + 3) (by omega) (by omega) (by omega) (by omega)).snoc (3 * x + y) (3 * x + y + 1) (by omega) (by omega) (by omega) (by omega)
                          | exact hu.snoc (3 * x + y) (3 * x + y + 3) (by omega) (by omega) (by omega) (by omega)
                          | exact hu.snoc (3 * x + y) (3 * x + y + 1) (by omega) (by omega) (by omega) (by omega)
                          | exact hu
                        · try dsimp only
                          first | omega | (simp only [List.length_append, List.length_cons, List.length_nil]; omega)
                        · try dsimp only
                          omega
                        · first | omega | (dsimp only; omega)
                      · refine lx_nil <| wi_false rfl <| wi_skip <| wi_inBlock <| wi_reg rfl <| lx_move (.int .i64 ((y : Nat) : Int)) rfl rfl <| lx_add (((y + 1 : Nat) : Int)) rfl rfl rfl (by omega) (by omega) (by omega) <| lx_assign (.int .i64 ((y + 1 : Nat) : Int)) rfl rfl <| lx_nil <| ?_
                        -- L3.2
                        refine IH5 _ _ (y + 1, v7, ls ++ [(((3 * x + y : Nat) : Int), ((3 * x + y + 3 : Nat) : Int))]) (agree_ups rfl agree_self) ⟨rfl, rfl, trivial⟩ ⟨?_, hx0_8, ?_, ?_, ?_⟩ ?_
                        · first | exact ho16 | (simpa using ho16)
                        · try dsimp only
                          first
                          | exact (hu.snoc (3 * x + y) (3 * x + y + 3) (by omega) (by omega) (by omega) (by omega)).snoc (3 * x + y) (3 * x + y + 1) (by omega) (by omega) (by omega) (by omega)
                          | exact hu.snoc (3 * x + y) (3 * x + y + 3) (by omega) (by omega) (by omega) (by omega)
                          | exact hu.snoc (3 * x + y) (3 * x + y + 1) (by omega) (by omega) (by omega) (by omega)
                          | exact hu
                        · try dsimp only
                          first | omega | (simp only [List.length_append, List.length_cons, List.length_nil]; omega)
                        · try dsimp only
                          omega
                        · first | omega | (dsimp only; omega)
                    · refine lx_nil <| wi_false rfl <| wi_skip <| wi_seq <| wi_reg rfl <| lx_move (.int .i64 ((y : Nat) : Int)) rfl rfl <| lx_lssS rfl rfl rfl (fun c15 => ?_) (fun c15 => ?_)
                      · refine lx_nil <| wi_true rfl <| wi_reg rfl <| lx_move (v) rfl rfl <| lx_move (.int .i64 ((x : Nat) : Int)) rfl rfl <| lx_mul (((3 * x : Nat) : Int)) rfl rfl rfl (by omega) (by omega) (by omega) <| lx_move (.int .i64 ((y : Nat) : Int)) rfl rfl <| lx_add (((3 * x + y : Nat) : Int)) rfl rfl rfl (by omega) (by omega) (by omega) <| lx_move (.int .i64 ((x : Nat) : Int)) rfl rfl <| lx_mul (((3 * x : Nat) : Int)) rfl rfl rfl (by omega) (by omega) (by omega) <| lx_move (.int .i64 ((y : Nat) : Int)) rfl rfl <| lx_add (((3 * x + y : Nat) : Int)) rfl rfl rfl (by omega) (by omega) (by omega) <| lx_add (((3 * x + y + 1 : Nat) : Int)) rfl rfl rfl (by omega) (by omega) (by omega) <| lx_build (.agg #[.int .i64 ((3 * x + y : Nat) : Int), .int .i64 ((3 * x + y + 1 : Nat) : Int)]) [(0, .int .i64 ((3 * x + y : Nat) : Int)), (1, .int .i64 ((3 * x + y + 1 : Nat) : Int))] rfl rfl (fun w => bld85_2 _ _ w) <| lx_appendL (E := encP) (B := h.size) [(((3 * x + y : Nat) : Int), ((3 * x + y + 1 : Nat) : Int))] [.agg #[.int .i64 ((3 * x + y : Nat) : Int), .int .i64 ((3 * x + y + 1 : Nat) : Int)]] rfl rfl (fun _ => rfl) rfl eT22 rfl rfl rfl rfl ho15 (fun _ => rfl) (by show ls.length + 1 ≤ _; omega) (by show (ls.length + 1) * 16 ≤ _; omega) hx0_7.size (fun _ _ => trivial) fun u5 v9 h9 ho18 hc5 hg5 => ?_
                        have hx0_10 := hx0_7.trans (ho15.ext hc5 hx0_7.size)
                        refine lx_assign (v9) rfl rfl <| lx_nil <| wi_inBlock <| wi_reg rfl <| lx_move (.int .i64 ((y : Nat) : Int)) rfl rfl <| lx_add (((y + 1 : Nat) : Int)) rfl rfl rfl (by omega) (by omega) (by omega) <| lx_assign (.int .i64 ((y + 1 : Nat) : Int)) rfl rfl <| lx_nil <| ?_
                        -- L3.3
                        refine IH5 _ _ (y + 1, v9, ls ++ [(((3 * x + y : Nat) : Int), ((3 * x + y + 1 : Nat) : Int))]) (agree_ups rfl agree_self) ⟨rfl, rfl, trivial⟩ ⟨?_, hx0_10, ?_, ?_, ?_⟩ ?_
                        · first | exact ho18 | (simpa using ho18)
                        · try dsimp only
                          first
                          | exact (hu.snoc (3 * x + y) (3 * x + y + 3) (by omega) (by omega) (by omega) (by omega)).snoc (3 * x + y) (3 * x + y + 1) (by omega) (by omega) (by omega) (by omega)
                          | exact hu.snoc (3 * x + y) (3 * x + y + 3) (by omega) (by omega) (by omega) (by omega)
                          | exact hu.snoc (3 * x + y) (3 * x + y + 1) (by omega) (by omega) (by omega) (by omega)
                          | exact hu
                        · try dsimp only
                          first | omega | (simp only [List.length_append, List.length_cons, List.length_nil]; omega)
                        · try dsimp only
                          omega
                        · first | omega | (dsimp only; omega)
                      · refine lx_nil <| wi_false rfl <| wi_skip <| wi_inBlock <| wi_reg rfl <| lx_move (.int .i64 ((y : Nat) : Int)) rfl rfl <| lx_add (((y + 1 : Nat) : Int)) rfl rfl rfl (by omega) (by omega) (by omega) <| lx_assign (.int .i64 ((y + 1 : Nat) : Int)) rfl rfl <| lx_nil <| ?_
                        -- L3.4
                        refine IH5 _ _ (y + 1, v, ls) (agree_ups rfl agree_self) ⟨rfl, rfl, trivial⟩ ⟨?_, hx0_7, ?_, ?_, ?_⟩ ?_
                        · first | exact ho15 | (simpa using ho15)
                        · try dsimp only
                          first
                          | exact (hu.snoc (3 * x + y) (3 * x + y + 3) (by omega) (by omega) (by omega) (by omega)).snoc (3 * x + y) (3 * x + y + 1) (by omega) (by omega) (by omega) (by omega)
                          | exact hu.snoc (3 * x + y) (3 * x + y + 3) (by omega) (by omega) (by omega) (by omega)
                          | exact hu.snoc (3 * x + y) (3 * x + y + 1) (by omega) (by omega) (by omega) (by omega)
                          | exact hu
                        · try dsimp only
                          first | omega | (simp only [List.length_append, List.length_cons, List.length_nil]; omega)
                        · try dsimp only
                          omega
                        · first | omega | (dsimp only; omega)
                  · refine lx_nil <| wi_false rfl <| wi_exit rfl <| wi_inBlock <| wi_reg rfl <| lx_move (.int .i64 ((x : Nat) : Int)) rfl rfl <| lx_add (((x + 1 : Nat) : Int)) rfl rfl rfl (by omega) (by omega) (by omega) <| lx_assign (.int .i64 ((x + 1 : Nat) : Int)) rfl rfl <| lx_nil <| ?_
                    -- L1.1
                    refine IH4 _ _ (x + 1, v, ls) (agree_ups rfl (agree_mix (rngB_sub (by decide) (by decide) rfl) (agree_ups rfl agree_self))) ⟨rfl, rfl, trivial⟩ ⟨?_, hx0_7, ?_, ?_, ?_⟩ ?_
                    · first | exact ho15 | (simpa using ho15)
                    · try dsimp only
                      exact hu
                    · try dsimp only
                      omega
                    · try dsimp only
                      omega
                    · first | omega | (dsimp only; omega)
                · refine lx_nil <| wi_false rfl <| wi_exit rfl <| ?_
                  -- Jt54.7
                  refine J1 _ _ (v, ls, 12) (agree_ups rfl (agree_mix (rngB_sub (by decide) (by decide) rfl) (agree_ups rfl agree_upsJ))) ⟨rfl, rfl, trivial⟩ ⟨?_, hx0_6, ?_⟩
                  · first | exact ho14 | (simpa using ho14)
                  · try dsimp only
                    exact kn_up (by omega) (by omega) (by omega) hu
  rintro g6 ⟨vo, ls, size⟩ hh6 ⟨ho19, hx0_11, hk⟩
  dsimp only at *
  refine wi_inBlock <| wi_seq <| wi_seq <| wi_reg rfl <| ?_
  have hkn := kn_of hk
  obtain ⟨hk1, hk2, hk3⟩ := hkn.1
  refine lx_move (.int .i64 ((size : Nat) : Int)) rfl rfl <| lx_move (.int .i64 ((most : Nat) : Int)) rfl rfl <| lx_gtrS rfl rfl rfl (fun c16 => ?_) (fun c16 => ?_)
  · refine lx_nil <| wi_true rfl <| wi_seq <| wi_reg rfl <| lx_assign (.slice none 0 0) rfl rfl <| lx_nil <| ?_
    -- R1
    refine wi_ret ⟨.slice none 0 0, (res_one rfl rfl), ⟨.slice none 0 0, [], [], rfl, (owE_nil encHd _ h.size 70), (OT.nil encB _ h.size 4), ?_, hx0_11⟩⟩
    · exact .inl rfl
  · refine lx_nil <| wi_false rfl <| wi_skip <| wi_seq <| wi_reg rfl <| lx_move (.int .i64 ((size : Nat) : Int)) rfl rfl <| lx_move (vo) rfl rfl <| lx_call [.int .i64 ((size : Nat) : Int), vo] rfl rfl Try.call64 rfl (rclosure_spec hh6 size vo ls ho19.rd (by omega) (by omega) hkn.2.1) (fun _ _ _ => trivial) ?_
    rintro _ h10 ⟨vr, hsr, rfl, ho20, hot1, hx5⟩
    have hx0_12 := hx0_11.trans2 hx5 hx0_11.size
    have ho21 := ho19.extS hx5
    have ho22 := ho20.base hx0_11.size
    have hot2 := hot1.base hx0_11.size
    have hl_hot2 := hot2.1
    refine lx_move (.tuple #[vr, .bool (ordB size (closW size ls))]) rfl rfl <| lx_extract (vr) rfl rfl rfl <| lx_extract (.bool (ordB size (closW size ls))) rfl rfl rfl <| lx_assign (vr) rfl rfl <| lx_assign (.bool (ordB size (closW size ls))) rfl rfl <| lx_nil <| wi_seq <| wi_reg rfl <| lx_move (vr) rfl rfl <| lx_assign (vr) rfl rfl <| lx_nil <| ?_
    -- R2
    refine wi_ret ⟨vr, (res_one rfl rfl), ⟨vr, hsr, tabF size (closW size ls), rfl, ho22, hot2, ?_, hx0_12⟩⟩
    · exact .inr ⟨isT_tabF (ordB_iff.1 hkn.2.2), by rw [tabF_length]; omega, by rw [tabF_length]; omega⟩

set_option maxRecDepth 10000 in
theorem tame_spec (h : Heap) (n : Int) (vl : Value) (ls : List (Int × Int)) (most : Nat) (hr_vl : RdE encP h vl ls) (hp1 : ls.length ≤ 9223372036854775807) (hp2 : 1 ≤ most) (hp3 : most ≤ 12) : Fx Try.prog 15 [.int .i64 n, vl, .int .i64 ((most : Nat) : Int)] h (fun v h' => ∃ (s : Value) (hs : List Hdr) (p : List (List Bool)), v = s ∧ OwE encHd h' h.size 70 s hs ∧ OT encB h' h.size 4 hs p ∧ (isT p = true ∧ 1 ≤ p.length ∧ p.length ≤ most) ∧ Ext h.size h h') := by
  refine fx_intro (n := 106) [(0, .int .i64 n), (1, vl), (2, .int .i64 ((most : Nat) : Int))] Try.func15 rfl rfl (by simp) ⟨rfl, rfl, rfl, trivial⟩ fun g0 => ?_
  refine wi_seq <| wi_reg rfl <| lx_assign (.slice none 0 0) rfl rfl <| lx_nil <| wi_seq <| wi_reg rfl <| ?_
  have hmd := Nat.mod_lt (ur n) (show 0 < most by omega)
  refine lx_move (.int .i64 n) rfl rfl <| lx_conv ((ur n : Nat) : Int) rfl Try.underlying3 Try.underlying45 rfl (wrap_ur _) <| lx_move (.int .i64 ((most : Nat) : Int)) rfl rfl <| lx_conv ((most : Nat) : Int) rfl Try.underlying3 Try.underlying45 rfl (wrap_u64 (by omega) (by omega)) <| lx_rem (m := ur n) (n := most) rfl rfl rfl (by omega) <| lx_conv (((ur n) % most : Nat) : Int) rfl Try.underlying45 Try.underlying3 rfl (wrap_i64 (by omega) (by omega)) <| lx_add (((1 + ((ur n) % most) : Nat) : Int)) rfl rfl rfl (by omega) (by omega) (by omega) <| lx_assign (.int .i64 ((1 + ((ur n) % most) : Nat) : Int)) rfl rfl <| lx_nil <| wi_seq <| wi_seq <| wi_reg rfl <| lx_move (vl) rfl rfl <| lx_len rfl Try.underlying22 hr_vl rfl <| lx_gtrS rfl rfl rfl (fun c1 => ?_) (fun c1 => ?_)
  · refine lx_move (.bool true) rfl rfl <| lx_move (vl) rfl rfl <| lx_ix (i := 0) rfl eT22 hr_vl rfl rfl (by omega) <| lx_ixP (i := 0) (c := 0) rfl Try.underlying85 Try.sizeOf3 hr_vl (by omega) rfl rfl (by decide) <| lx_ld (i := 0) (j := 0) (.int .i64 ((gt ls 0).1)) rfl rfl fl3 hr_vl (by omega) rfl rfl <| lx_conv ((ur ((gt ls 0).1) : Nat) : Int) rfl Try.underlying3 Try.underlying45 rfl (wrap_ur _) <| lx_rem (m := ur ((gt ls 0).1)) (n := 3) rfl rfl rfl (by omega) <| lx_eqlS rfl rfl rfl (fun c2 => ?_) (fun c2 => ?_)
    · refine lx_pick true (.bool true) rfl rfl rfl <| lx_nil <| wi_true rfl <| wi_seq <| wi_reg rfl <| lx_move (vl) rfl rfl <| lx_ix (i := 0) rfl eT22 hr_vl rfl rfl (by omega) <| lx_ixP (i := 0) (c := 1) rfl Try.underlying85 Try.sizeOf3 hr_vl (by omega) rfl rfl (by decide) <| lx_ld (i := 0) (j := 1) (.int .i64 ((gt ls 0).2)) rfl rfl fl3 hr_vl (by omega) rfl rfl <| lx_conv ((ur ((gt ls 0).2) : Nat) : Int) rfl Try.underlying3 Try.underlying45 rfl (wrap_ur _) <| lx_move (.int .i64 ((most : Nat) : Int)) rfl rfl <| lx_call [.int .u64 ((ur ((gt ls 0).2) : Nat) : Int), .int .i64 ((most : Nat) : Int)] rfl rfl Try.call75 rfl (known_spec h most (ur ((gt ls 0).2)) (ur_lt _) (by omega) (by omega)) (fun _ _ _ => trivial) ?_
      rintro vk h1 ⟨_, hsk, pk, rfl, ho1, hot1, hkn, hx1⟩
      have ho2 := ho1.base (Nat.le_refl h.size)
      have hot2 := hot1.base (Nat.le_refl h.size)
      have hl_hot2 := hot2.1
      refine lx_assign (vk) rfl rfl <| lx_nil <| wi_seq <| wi_reg rfl <| lx_move (vk) rfl rfl <| lx_len rfl Try.underlying23 ho2.rd rfl <| lx_gtrS rfl rfl rfl (fun c3 => ?_) (fun c3 => ?_)
      · refine lx_nil <| wi_true rfl <| wi_seq <| wi_reg rfl <| lx_move (vk) rfl rfl <| lx_assign (vk) rfl rfl <| lx_nil <| ?_
        -- R1
        refine wi_ret ⟨vk, (res_one rfl rfl), ⟨vk, hsk, pk, rfl, ho2, hot2, ?_, hx1⟩⟩
        · rcases hkn with h9 | h9
          · exfalso; have h8 : pk.length = 0 := by rw [h9]; rfl
            omega
          · exact h9
      · refine lx_nil <| wi_false rfl <| wi_skip <| wi_seq <| wi_reg rfl <| lx_assign (.slice none 0 0) rfl rfl <| lx_nil <| wi_seq <| wi_seq <| wi_reg rfl <| lx_assign (.int .i64 0) rfl rfl <| lx_nil <| wi_block <| ?_
        refine wi_loop (σ := Nat × Value × (List (Int × Int))) (rngB 45 92 [9, 10, 11, 12]) (fun (ss : Nat × Value × (List (Int × Int))) => [(10, .int .i64 ((ss.1 : Nat) : Int)), (9, ss.2.1)]) (fun (ss : Nat × Value × (List (Int × Int))) (hh : Heap) => OwE encP hh h.size 85 ss.2.1 ss.2.2 ∧ Ext h.size h hh ∧ (ss.1 ≤ ls.length ∧ ss.1 ≤ 20) ∧ (ss.2.2.length ≤ ss.1) ∧ (∀ j, j < ss.2.2.length → Go.X.inR (((1 + ur n % most) : Nat) : Int) (gt ss.2.2 j) = true)) (fun (ss : Nat × Value × (List (Int × Int))) => ls.length - ss.1) (0, .slice none 0 0, []) ⟨rfl, rfl, trivial⟩ ⟨?_, hx1, ?_, ?_, ?_⟩ ?_
        · first | exact (owE_nil encP _ h.size 85) | (simpa using (owE_nil encP _ h.size 85))
        · try dsimp only
          omega
        · try dsimp only
          exact Nat.zero_le _
        · try dsimp only
          intro j hj; cases hj
        rintro g1 ⟨i, v, xs⟩ hh1 ⟨ho3, hx0_1, hi, hxl, hr⟩ IH1
        dsimp only at *
        refine wi_seq <| wi_seq <| wi_reg rfl <| lx_move (.int .i64 ((i : Nat) : Int)) rfl rfl <| lx_move (vl) rfl rfl <| lx_len rfl Try.underlying22 hr_vl rfl <| lx_lssS rfl rfl rfl (fun c4 => ?_) (fun c4 => ?_)
        · refine lx_move (.bool true) rfl rfl <| lx_move (.int .i64 ((i : Nat) : Int)) rfl rfl <| lx_lssS rfl rfl rfl (fun c5 => ?_) (fun c5 => ?_)
          · refine lx_pick true (.bool true) rfl rfl rfl <| lx_nil <| wi_true rfl <| wi_skip <| wi_seq <| wi_block <| wi_seq <| wi_draw mo rfl (by decide +kernel) <| ?_
            have hma := Nat.mod_lt (ur (gt ls i).1) (show 0 < 1 + ur n % most by omega)
            have hmb := Nat.mod_lt (ur (gt ls i).2) (show 0 < 1 + ur n % most by omega)
            refine lx_move (vl) rfl rfl <| lx_move (.int .i64 ((i : Nat) : Int)) rfl rfl <| lx_ix (i := i) rfl eT22 hr_vl rfl rfl (by omega) <| lx_ixP (i := i) (c := 0) rfl Try.underlying85 Try.sizeOf3 hr_vl (by omega) rfl rfl (by decide) <| lx_ld (i := i) (j := 0) (.int .i64 ((gt ls i).1)) rfl rfl fl3 (hr_vl.extS hx0_1) (by omega) rfl rfl <| lx_conv ((ur ((gt ls i).1) : Nat) : Int) rfl Try.underlying3 Try.underlying45 rfl (wrap_ur _) <| lx_move (.int .i64 ((1 + ((ur n) % most) : Nat) : Int)) rfl rfl <| lx_conv ((1 + ((ur n) % most) : Nat) : Int) rfl Try.underlying3 Try.underlying45 rfl (wrap_u64 (by omega) (by omega)) <| lx_rem (m := ur ((gt ls i).1)) (n := 1 + ((ur n) % most)) rfl rfl rfl (by omega) <| lx_conv (((ur ((gt ls i).1)) % (1 + ((ur n) % most)) : Nat) : Int) rfl Try.underlying45 Try.underlying3 rfl (wrap_i64 (by omega) (by omega)) <| lx_move (vl) rfl rfl <| lx_move (.int .i64 ((i : Nat) : Int)) rfl rfl <| lx_ix (i := i) rfl eT22 hr_vl rfl rfl (by omega) <| lx_ixP (i := i) (c := 1) rfl Try.underlying85 Try.sizeOf3 hr_vl (by omega) rfl rfl (by decide) <| lx_ld (i := i) (j := 1) (.int .i64 ((gt ls i).2)) rfl rfl fl3 (hr_vl.extS hx0_1) (by omega) rfl rfl <| lx_conv ((ur ((gt ls i).2) : Nat) : Int) rfl Try.underlying3 Try.underlying45 rfl (wrap_ur _) <| lx_move (.int .i64 ((1 + ((ur n) % most) : Nat) : Int)) rfl rfl <| lx_conv ((1 + ((ur n) % most) : Nat) : Int) rfl Try.underlying3 Try.underlying45 rfl (wrap_u64 (by omega) (by omega)) <| lx_rem (m := ur ((gt ls i).2)) (n := 1 + ((ur n) % most)) rfl rfl rfl (by omega) <| lx_conv (((ur ((gt ls i).2)) % (1 + ((ur n) % most)) : Nat) : Int) rfl Try.underlying45 Try.underlying3 rfl (wrap_i64 (by omega) (by omega)) <| lx_assign (.int .i64 (((ur ((gt ls i).1)) % (1 + ((ur n) % most)) : Nat) : Int)) rfl rfl <| lx_assign (.int .i64 (((ur ((gt ls i).2)) % (1 + ((ur n) % most)) : Nat) : Int)) rfl rfl <| lx_nil <| wi_seq <| wi_seq <| wi_reg rfl <| lx_move (.int .i64 (((ur ((gt ls i).1)) % (1 + ((ur n) % most)) : Nat) : Int)) rfl rfl <| lx_mul (((5 * ((ur ((gt ls i).1)) % (1 + ((ur n) % most))) : Nat) : Int)) rfl rfl rfl (by omega) (by omega) (by omega) <| lx_add (((5 * ((ur ((gt ls i).1)) % (1 + ((ur n) % most))) + 1 : Nat) : Int)) rfl rfl rfl (by omega) (by omega) (by omega) <| lx_rem (m := 5 * ((ur ((gt ls i).1)) % (1 + ((ur n) % most))) + 1) (n := 13) rfl rfl rfl (by omega) <| lx_move (.int .i64 (((ur ((gt ls i).2)) % (1 + ((ur n) % most)) : Nat) : Int)) rfl rfl <| lx_mul (((5 * ((ur ((gt ls i).2)) % (1 + ((ur n) % most))) : Nat) : Int)) rfl rfl rfl (by omega) (by omega) (by omega) <| lx_add (((5 * ((ur ((gt ls i).2)) % (1 + ((ur n) % most))) + 1 : Nat) : Int)) rfl rfl rfl (by omega) (by omega) (by omega) <| lx_rem (m := 5 * ((ur ((gt ls i).2)) % (1 + ((ur n) % most))) + 1) (n := 13) rfl rfl rfl (by omega) <| lx_gtrS rfl rfl rfl (fun c6 => ?_) (fun c6 => ?_)
            · refine lx_nil <| wi_true rfl <| wi_reg rfl <| lx_move (.int .i64 (((ur ((gt ls i).2)) % (1 + ((ur n) % most)) : Nat) : Int)) rfl rfl <| lx_move (.int .i64 (((ur ((gt ls i).1)) % (1 + ((ur n) % most)) : Nat) : Int)) rfl rfl <| lx_assign (.int .i64 (((ur ((gt ls i).2)) % (1 + ((ur n) % most)) : Nat) : Int)) rfl rfl <| lx_assign (.int .i64 (((ur ((gt ls i).1)) % (1 + ((ur n) % most)) : Nat) : Int)) rfl rfl <| lx_nil <| wi_reg rfl <| lx_move (v) rfl rfl <| lx_move (.int .i64 (((ur ((gt ls i).2)) % (1 + ((ur n) % most)) : Nat) : Int)) rfl rfl <| lx_move (.int .i64 (((ur ((gt ls i).1)) % (1 + ((ur n) % most)) : Nat) : Int)) rfl rfl <| lx_build (.agg #[.int .i64 (((ur ((gt ls i).2)) % (1 + ((ur n) % most)) : Nat) : Int), .int .i64 (((ur ((gt ls i).1)) % (1 + ((ur n) % most)) : Nat) : Int)]) [(0, .int .i64 (((ur ((gt ls i).2)) % (1 + ((ur n) % most)) : Nat) : Int)), (1, .int .i64 (((ur ((gt ls i).1)) % (1 + ((ur n) % most)) : Nat) : Int))] rfl rfl (fun w => bld85_2 _ _ w) <| lx_appendL (E := encP) (B := h.size) [((((ur ((gt ls i).2)) % (1 + ((ur n) % most)) : Nat) : Int), (((ur ((gt ls i).1)) % (1 + ((ur n) % most)) : Nat) : Int))] [.agg #[.int .i64 (((ur ((gt ls i).2)) % (1 + ((ur n) % most)) : Nat) : Int), .int .i64 (((ur ((gt ls i).1)) % (1 + ((ur n) % most)) : Nat) : Int)]] rfl rfl (fun _ => rfl) rfl eT22 rfl rfl rfl rfl ho3 (fun _ => rfl) (by show xs.length + 1 ≤ _; omega) (by show (xs.length + 1) * 16 ≤ _; omega) hx0_1.size (fun _ _ => trivial) fun u1 v1 h2 ho4 hc1 hg1 => ?_
              have hx0_2 := hx0_1.trans (ho3.ext hc1 hx0_1.size)
              refine lx_assign (v1) rfl rfl <| lx_nil <| wi_inBlock <| wi_reg rfl <| lx_move (.int .i64 ((i : Nat) : Int)) rfl rfl <| lx_add (((i + 1 : Nat) : Int)) rfl rfl rfl (by omega) (by omega) (by omega) <| lx_assign (.int .i64 ((i + 1 : Nat) : Int)) rfl rfl <| lx_nil <| ?_
              -- L0.1
              refine IH1 _ _ (i + 1, v1, xs ++ [((((ur ((gt ls i).2)) % (1 + ((ur n) % most)) : Nat) : Int), (((ur ((gt ls i).1)) % (1 + ((ur n) % most)) : Nat) : Int))]) (agree_ups rfl agree_self) ⟨rfl, rfl, trivial⟩ ⟨?_, hx0_2, ?_, ?_, ?_⟩ ?_
              · first | exact ho4 | (simpa using ho4)
              · try dsimp only
                omega
              · try dsimp only
                first | omega | (simp only [List.length_append, List.length_cons, List.length_nil]; omega)
              · try dsimp only
                intro j hj
                rw [List.length_append, List.length_cons, List.length_nil] at hj
                by_cases e : j < xs.length
                · rw [gt_append_left e]; exact hr j e
                · rw [show j = xs.length from by omega, gt_append_right]
                  exact Go.X.inR_iff.2 ⟨by show (0 : Int) ≤ ((_ : Nat) : Int); omega, by show (0 : Int) ≤ ((_ : Nat) : Int); omega, by show ((_ : Nat) : Int) < _; omega, by show ((_ : Nat) : Int) < _; omega⟩
              · first | omega | (dsimp only; omega)
            · refine lx_nil <| wi_false rfl <| wi_skip <| wi_reg rfl <| lx_move (v) rfl rfl <| lx_move (.int .i64 (((ur ((gt ls i).1)) % (1 + ((ur n) % most)) : Nat) : Int)) rfl rfl <| lx_move (.int .i64 (((ur ((gt ls i).2)) % (1 + ((ur n) % most)) : Nat) : Int)) rfl rfl <| lx_build (.agg #[.int .i64 (((ur ((gt ls i).1)) % (1 + ((ur n) % most)) : Nat) : Int), .int .i64 (((ur ((gt ls i).2)) % (1 + ((ur n) % most)) : Nat) : Int)]) [(0, .int .i64 (((ur ((gt ls i).1)) % (1 + ((ur n) % most)) : Nat) : Int)), (1, .int .i64 (((ur ((gt ls i).2)) % (1 + ((ur n) % most)) : Nat) : Int))] rfl rfl (fun w => bld85_2 _ _ w) <| lx_appendL (E := encP) (B := h.size) [((((ur ((gt ls i).1)) % (1 + ((ur n) % most)) : Nat) : Int), (((ur ((gt ls i).2)) % (1 + ((ur n) % most)) : Nat) : Int))] [.agg #[.int .i64 (((ur ((gt ls i).1)) % (1 + ((ur n) % most)) : Nat) : Int), .int .i64 (((ur ((gt ls i).2)) % (1 + ((ur n) % most)) : Nat) : Int)]] rfl rfl (fun _ => rfl) rfl eT22 rfl rfl rfl rfl ho3 (fun _ => rfl) (by show xs.length + 1 ≤ _; omega) (by show (xs.length + 1) * 16 ≤ _; omega) hx0_1.size (fun _ _ => trivial) fun u2 v2 h3 ho5 hc2 hg2 => ?_
              have hx0_3 := hx0_1.trans (ho3.ext hc2 hx0_1.size)
              refine lx_assign (v2) rfl rfl <| lx_nil <| wi_inBlock <| wi_reg rfl <| lx_move (.int .i64 ((i : Nat) : Int)) rfl rfl <| lx_add (((i + 1 : Nat) : Int)) rfl rfl rfl (by omega) (by omega) (by omega) <| lx_assign (.int .i64 ((i + 1 : Nat) : Int)) rfl rfl <| lx_nil <| ?_
              -- L0.2
              refine IH1 _ _ (i + 1, v2, xs ++ [((((ur ((gt ls i).1)) % (1 + ((ur n) % most)) : Nat) : Int), (((ur ((gt ls i).2)) % (1 + ((ur n) % most)) : Nat) : Int))]) (agree_ups rfl agree_self) ⟨rfl, rfl, trivial⟩ ⟨?_, hx0_3, ?_, ?_, ?_⟩ ?_
              · first | exact ho5 | (simpa using ho5)
              · try dsimp only
                omega
              · try dsimp only
                first | omega | (simp only [List.length_append, List.length_cons, List.length_nil]; omega)
              · try dsimp only
                intro j hj
                rw [List.length_append, List.length_cons, List.length_nil] at hj
                by_cases e : j < xs.length
                · rw [gt_append_left e]; exact hr j e
                · rw [show j = xs.length from by omega, gt_append_right]
                  exact Go.X.inR_iff.2 ⟨by show (0 : Int) ≤ ((_ : Nat) : Int); omega, by show (0 : Int) ≤ ((_ : Nat) : Int); omega, by show ((_ : Nat) : Int) < _; omega, by show ((_ : Nat) : Int) < _; omega⟩
              · first | omega | (dsimp only; omega)
          · refine lx_pick true (.bool false) rfl rfl rfl <| lx_nil <| wi_false rfl <| wi_exit rfl <| wi_seq <| wi_reg rfl <| lx_move (.int .i64 ((1 + ((ur n) % most) : Nat) : Int)) rfl rfl <| lx_move (v) rfl rfl <| lx_call [.int .i64 ((1 + ((ur n) % most) : Nat) : Int), v] rfl rfl Try.call64 rfl (rclosure_spec hh1 (1 + ((ur n) % most)) v xs ho3.rd (by omega) (by omega) hr) (fun _ _ _ => trivial) ?_
            rintro _ h4 ⟨vr, hsr, rfl, ho6, hot3, hx2⟩
            have hx0_4 := hx0_1.trans2 hx2 hx0_1.size
            have ho7 := ho3.extS hx2
            have ho8 := ho6.base hx0_1.size
            have hot4 := hot3.base hx0_1.size
            have hl_hot4 := hot4.1
            refine lx_move (.tuple #[vr, .bool (ordB (1 + ((ur n) % most)) (closW (1 + ((ur n) % most)) xs))]) rfl rfl <| lx_extract (vr) rfl rfl rfl <| lx_extract (.bool (ordB (1 + ((ur n) % most)) (closW (1 + ((ur n) % most)) xs))) rfl rfl rfl <| lx_assign (vr) rfl rfl <| lx_assign (.bool (ordB (1 + ((ur n) % most)) (closW (1 + ((ur n) % most)) xs))) rfl rfl <| lx_nil <| wi_seq <| wi_seq <| wi_reg rfl <| lx_move (.bool (ordB (1 + ((ur n) % most)) (closW (1 + ((ur n) % most)) xs))) rfl rfl <| lx_not rfl rfl <| lx_nil <| wi_condS (t := !(ordB (1 + ((ur n) % most)) (closW (1 + ((ur n) % most)) xs))) rfl (fun c7 => ?_) (fun c7 => ?_)
            · refine wi_reg rfl <| lx_move (.int .i64 ((1 + ((ur n) % most) : Nat) : Int)) rfl rfl <| lx_call [.int .i64 ((1 + ((ur n) % most) : Nat) : Int), .slice none 0 0] rfl rfl Try.call64 rfl (rclosure_spec h4 (1 + ((ur n) % most)) ((.slice none 0 0)) ([]) (owE_nil encP _ 0 0).rd (by omega) (by decide) (fun j hj => by cases hj)) (fun _ _ _ => trivial) ?_
              rintro _ h5 ⟨vz, hsz, rfl, ho9, hot5, hx3⟩
              have hx0_5 := hx0_4.trans2 hx3 hx0_4.size
              have ho10 := ho7.extS hx3
              have ho11 := ho8.extS hx3
              have hot6 := hot4.extS hx3
              have ho12 := ho9.base hx0_4.size
              have hot7 := hot5.base hx0_4.size
              have hl_hot7 := hot7.1
              refine lx_move (.tuple #[vz, .bool (ordB (1 + ((ur n) % most)) (closW (1 + ((ur n) % most)) ([])))]) rfl rfl <| lx_extract (vz) rfl rfl rfl <| lx_extract (.bool (ordB (1 + ((ur n) % most)) (closW (1 + ((ur n) % most)) ([])))) rfl rfl rfl <| lx_assign (vz) rfl rfl <| lx_nil <| wi_seq <| wi_reg rfl <| lx_move (vz) rfl rfl <| lx_assign (vz) rfl rfl <| lx_nil <| ?_
              -- R2
              refine wi_ret ⟨vz, (res_one rfl rfl), ⟨vz, hsz, tabF (1 + ((ur n) % most)) (closW (1 + ((ur n) % most)) ([])), rfl, ho12, hot7, ?_, hx0_5⟩⟩
              · first
                | exact ⟨isT_tabF (ordB_iff.1 (by simpa using ‹(!ordB (1 + ur n % most) (closW (1 + ur n % most) xs)) = false›)), by rw [tabF_length]; omega, by rw [tabF_length]; omega⟩
                | exact ⟨isT_tabF (up_order fun d hd => by cases hd), by rw [tabF_length]; omega, by rw [tabF_length]; omega⟩
            · refine wi_skip <| wi_seq <| wi_reg rfl <| lx_move (vr) rfl rfl <| lx_assign (vr) rfl rfl <| lx_nil <| ?_
              -- R3
              refine wi_ret ⟨vr, (res_one rfl rfl), ⟨vr, hsr, tabF (1 + ((ur n) % most)) (closW (1 + ((ur n) % most)) xs), rfl, ho8, hot4, ?_, hx0_4⟩⟩
              · first
                | exact ⟨isT_tabF (ordB_iff.1 (by simpa using ‹(!ordB (1 + ur n % most) (closW (1 + ur n % most) xs)) = false›)), by rw [tabF_length]; omega, by rw [tabF_length]; omega⟩
                | exact ⟨isT_tabF (up_order fun d hd => by cases hd), by rw [tabF_length]; omega, by rw [tabF_length]; omega⟩
        · refine lx_move (.bool false) rfl rfl <| lx_skip rfl <| lx_skip rfl <| lx_pick false (.bool false) rfl rfl rfl <| lx_nil <| wi_false rfl <| wi_exit rfl <| wi_seq <| wi_reg rfl <| lx_move (.int .i64 ((1 + ((ur n) % most) : Nat) : Int)) rfl rfl <| lx_move (v) rfl rfl <| lx_call [.int .i64 ((1 + ((ur n) % most) : Nat) : Int), v] rfl rfl Try.call64 rfl (rclosure_spec hh1 (1 + ((ur n) % most)) v xs ho3.rd (by omega) (by omega) hr) (fun _ _ _ => trivial) ?_
          rintro _ h6 ⟨vr, hsr, rfl, ho13, hot8, hx4⟩
          have hx0_6 := hx0_1.trans2 hx4 hx0_1.size
          have ho14 := ho3.extS hx4
          have ho15 := ho13.base hx0_1.size
          have hot9 := hot8.base hx0_1.size
          have hl_hot9 := hot9.1
          refine lx_move (.tuple #[vr, .bool (ordB (1 + ((ur n) % most)) (closW (1 + ((ur n) % most)) xs))]) rfl rfl <| lx_extract (vr) rfl rfl rfl <| lx_extract (.bool (ordB (1 + ((ur n) % most)) (closW (1 + ((ur n) % most)) xs))) rfl rfl rfl <| lx_assign (vr) rfl rfl <| lx_assign (.bool (ordB (1 + ((ur n) % most)) (closW (1 + ((ur n) % most)) xs))) rfl rfl <| lx_nil <| wi_seq <| wi_seq <| wi_reg rfl <| lx_move (.bool (ordB (1 + ((ur n) % most)) (closW (1 + ((ur n) % most)) xs))) rfl rfl <| lx_not rfl rfl <| lx_nil <| wi_condS (t := !(ordB (1 + ((ur n) % most)) (closW (1 + ((ur n) % most)) xs))) rfl (fun c8 => ?_) (fun c8 => ?_)
          · refine wi_reg rfl <| lx_move (.int .i64 ((1 + ((ur n) % most) : Nat) : Int)) rfl rfl <| lx_call [.int .i64 ((1 + ((ur n) % most) : Nat) : Int), .slice none 0 0] rfl rfl Try.call64 rfl (rclosure_spec h6 (1 + ((ur n) % most)) ((.slice none 0 0)) ([]) (owE_nil encP _ 0 0).rd (by omega) (by decide) (fun j hj => by cases hj)) (fun _ _ _ => trivial) ?_
            rintro _ h7 ⟨vz, hsz, rfl, ho16, hot10, hx5⟩
            have hx0_7 := hx0_6.trans2 hx5 hx0_6.size
            have ho17 := ho14.extS hx5
            have ho18 := ho15.extS hx5
            have hot11 := hot9.extS hx5
            have ho19 := ho16.base hx0_6.size
            have hot12 := hot10.base hx0_6.size
            have hl_hot12 := hot12.1
            refine lx_move (.tuple #[vz, .bool (ordB (1 + ((ur n) % most)) (closW (1 + ((ur n) % most)) ([])))]) rfl rfl <| lx_extract (vz) rfl rfl rfl <| lx_extract (.bool (ordB (1 + ((ur n) % most)) (closW (1 + ((ur n) % most)) ([])))) rfl rfl rfl <| lx_assign (vz) rfl rfl <| lx_nil <| wi_seq <| wi_reg rfl <| lx_move (vz) rfl rfl <| lx_assign (vz) rfl rfl <| lx_nil <| ?_
            -- R4
            refine wi_ret ⟨vz, (res_one rfl rfl), ⟨vz, hsz, tabF (1 + ((ur n) % most)) (closW (1 + ((ur n) % most)) ([])), rfl, ho19, hot12, ?_, hx0_7⟩⟩
            · first
              | exact ⟨isT_tabF (ordB_iff.1 (by simpa using ‹(!ordB (1 + ur n % most) (closW (1 + ur n % most) xs)) = false›)), by rw [tabF_length]; omega, by rw [tabF_length]; omega⟩
              | exact ⟨isT_tabF (up_order fun d hd => by cases hd), by rw [tabF_length]; omega, by rw [tabF_length]; omega⟩
          · refine wi_skip <| wi_seq <| wi_reg rfl <| lx_move (vr) rfl rfl <| lx_assign (vr) rfl rfl <| lx_nil <| ?_
            -- R5
            refine wi_ret ⟨vr, (res_one rfl rfl), ⟨vr, hsr, tabF (1 + ((ur n) % most)) (closW (1 + ((ur n) % most)) xs), rfl, ho15, hot9, ?_, hx0_6⟩⟩
            · first
              | exact ⟨isT_tabF (ordB_iff.1 (by simpa using ‹(!ordB (1 + ur n % most) (closW (1 + ur n % most) xs)) = false›)), by rw [tabF_length]; omega, by rw [tabF_length]; omega⟩
              | exact ⟨isT_tabF (up_order fun d hd => by cases hd), by rw [tabF_length]; omega, by rw [tabF_length]; omega⟩
    · refine lx_pick true (.bool false) rfl rfl rfl <| lx_nil <| wi_false rfl <| wi_skip <| wi_seq <| wi_reg rfl <| lx_assign (.slice none 0 0) rfl rfl <| lx_nil <| wi_seq <| wi_seq <| wi_reg rfl <| lx_assign (.int .i64 0) rfl rfl <| lx_nil <| wi_block <| ?_
      refine wi_loop (σ := Nat × Value × (List (Int × Int))) (rngB 45 92 [9, 10, 11, 12]) (fun (ss : Nat × Value × (List (Int × Int))) => [(10, .int .i64 ((ss.1 : Nat) : Int)), (9, ss.2.1)]) (fun (ss : Nat × Value × (List (Int × Int))) (hh : Heap) => OwE encP hh h.size 85 ss.2.1 ss.2.2 ∧ Ext h.size h hh ∧ (ss.1 ≤ ls.length ∧ ss.1 ≤ 20) ∧ (ss.2.2.length ≤ ss.1) ∧ (∀ j, j < ss.2.2.length → Go.X.inR (((1 + ur n % most) : Nat) : Int) (gt ss.2.2 j) = true)) (fun (ss : Nat × Value × (List (Int × Int))) => ls.length - ss.1) (0, .slice none 0 0, []) ⟨rfl, rfl, trivial⟩ ⟨?_, (Ext.refl _ _), ?_, ?_, ?_⟩ ?_
      · first | exact (owE_nil encP _ h.size 85) | (simpa using (owE_nil encP _ h.size 85))
      · try dsimp only
        omega
      · try dsimp only
        exact Nat.zero_le _
      · try dsimp only
        intro j hj; cases hj
      rintro g2 ⟨i, v, xs⟩ hh2 ⟨ho20, hx0_8, hi, hxl, hr⟩ IH2
      dsimp only at *
      refine wi_seq <| wi_seq <| wi_reg rfl <| lx_move (.int .i64 ((i : Nat) : Int)) rfl rfl <| lx_move (vl) rfl rfl <| lx_len rfl Try.underlying22 hr_vl rfl <| lx_lssS rfl rfl rfl (fun c9 => ?_) (fun c9 => ?_)
      · refine lx_move (.bool true) rfl rfl <| lx_move (.int .i64 ((i : Nat) : Int)) rfl rfl <| lx_lssS rfl rfl rfl (fun c10 => ?_) (fun c10 => ?_)
        · refine lx_pick true (.bool true) rfl rfl rfl <| lx_nil <| wi_true rfl <| wi_skip <| wi_seq <| wi_block <| wi_seq <| wi_draw mo rfl (by decide +kernel) <| ?_
          have hma := Nat.mod_lt (ur (gt ls i).1) (show 0 < 1 + ur n % most by omega)
          have hmb := Nat.mod_lt (ur (gt ls i).2) (show 0 < 1 + ur n % most by omega)
          refine lx_move (vl) rfl rfl <| lx_move (.int .i64 ((i : Nat) : Int)) rfl rfl <| lx_ix (i := i) rfl eT22 hr_vl rfl rfl (by omega) <| lx_ixP (i := i) (c := 0) rfl Try.underlying85 Try.sizeOf3 hr_vl (by omega) rfl rfl (by decide) <| lx_ld (i := i) (j := 0) (.int .i64 ((gt ls i).1)) rfl rfl fl3 (hr_vl.extS hx0_8) (by omega) rfl rfl <| lx_conv ((ur ((gt ls i).1) : Nat) : Int) rfl Try.underlying3 Try.underlying45 rfl (wrap_ur _) <| lx_move (.int .i64 ((1 + ((ur n) % most) : Nat) : Int)) rfl rfl <| lx_conv ((1 + ((ur n) % most) : Nat) : Int) rfl Try.underlying3 Try.underlying45 rfl (wrap_u64 (by omega) (by omega)) <| lx_rem (m := ur ((gt ls i).1)) (n := 1 + ((ur n) % most)) rfl rfl rfl (by omega) <| lx_conv (((ur ((gt ls i).1)) % (1 + ((ur n) % most)) : Nat) : Int) rfl Try.underlying45 Try.underlying3 rfl (wrap_i64 (by omega) (by omega)) <| lx_move (vl) rfl rfl <| lx_move (.int .i64 ((i : Nat) : Int)) rfl rfl <| lx_ix (i := i) rfl eT22 hr_vl rfl rfl (by omega) <| lx_ixP (i := i) (c := 1) rfl Try.underlying85 Try.sizeOf3 hr_vl (by omega) rfl rfl (by decide) <| lx_ld (i := i) (j := 1) (.int .i64 ((gt ls i).2)) rfl rfl fl3 (hr_vl.extS hx0_8) (by omega) rfl rfl <| lx_conv ((ur ((gt ls i).2) : Nat) : Int) rfl Try.underlying3 Try.underlying45 rfl (wrap_ur _) <| lx_move (.int .i64 ((1 + ((ur n) % most) : Nat) : Int)) rfl rfl <| lx_conv ((1 + ((ur n) % most) : Nat) : Int) rfl Try.underlying3 Try.underlying45 rfl (wrap_u64 (by omega) (by omega)) <| lx_rem (m := ur ((gt ls i).2)) (n := 1 + ((ur n) % most)) rfl rfl rfl (by omega) <| lx_conv (((ur ((gt ls i).2)) % (1 + ((ur n) % most)) : Nat) : Int) rfl Try.underlying45 Try.underlying3 rfl (wrap_i64 (by omega) (by omega)) <| lx_assign (.int .i64 (((ur ((gt ls i).1)) % (1 + ((ur n) % most)) : Nat) : Int)) rfl rfl <| lx_assign (.int .i64 (((ur ((gt ls i).2)) % (1 + ((ur n) % most)) : Nat) : Int)) rfl rfl <| lx_nil <| wi_seq <| wi_seq <| wi_reg rfl <| lx_move (.int .i64 (((ur ((gt ls i).1)) % (1 + ((ur n) % most)) : Nat) : Int)) rfl rfl <| lx_mul (((5 * ((ur ((gt ls i).1)) % (1 + ((ur n) % most))) : Nat) : Int)) rfl rfl rfl (by omega) (by omega) (by omega) <| lx_add (((5 * ((ur ((gt ls i).1)) % (1 + ((ur n) % most))) + 1 : Nat) : Int)) rfl rfl rfl (by omega) (by omega) (by omega) <| lx_rem (m := 5 * ((ur ((gt ls i).1)) % (1 + ((ur n) % most))) + 1) (n := 13) rfl rfl rfl (by omega) <| lx_move (.int .i64 (((ur ((gt ls i).2)) % (1 + ((ur n) % most)) : Nat) : Int)) rfl rfl <| lx_mul (((5 * ((ur ((gt ls i).2)) % (1 + ((ur n) % most))) : Nat) : Int)) rfl rfl rfl (by omega) (by omega) (by omega) <| lx_add (((5 * ((ur ((gt ls i).2)) % (1 + ((ur n) % most))) + 1 : Nat) : Int)) rfl rfl rfl (by omega) (by omega) (by omega) <| lx_rem (m := 5 * ((ur ((gt ls i).2)) % (1 + ((ur n) % most))) + 1) (n := 13) rfl rfl rfl (by omega) <| lx_gtrS rfl rfl rfl (fun c11 => ?_) (fun c11 => ?_)
          · refine lx_nil <| wi_true rfl <| wi_reg rfl <| lx_move (.int .i64 (((ur ((gt ls i).2)) % (1 + ((ur n) % most)) : Nat) : Int)) rfl rfl <| lx_move (.int .i64 (((ur ((gt ls i).1)) % (1 + ((ur n) % most)) : Nat) : Int)) rfl rfl <| lx_assign (.int .i64 (((ur ((gt ls i).2)) % (1 + ((ur n) % most)) : Nat) : Int)) rfl rfl <| lx_assign (.int .i64 (((ur ((gt ls i).1)) % (1 + ((ur n) % most)) : Nat) : Int)) rfl rfl <| lx_nil <| wi_reg rfl <| lx_move (v) rfl rfl <| lx_move (.int .i64 (((ur ((gt ls i).2)) % (1 + ((ur n) % most)) : Nat) : Int)) rfl rfl <| lx_move (.int .i64 (((ur ((gt ls i).1)) % (1 + ((ur n) % most)) : Nat) : Int)) rfl rfl <| lx_build (.agg #[.int .i64 (((ur ((gt ls i).2)) % (1 + ((ur n) % most)) : Nat) : Int), .int .i64 (((ur ((gt ls i).1)) % (1 + ((ur n) % most)) : Nat) : Int)]) [(0, .int .i64 (((ur ((gt ls i).2)) % (1 + ((ur n) % most)) : Nat) : Int)), (1, .int .i64 (((ur ((gt ls i).1)) % (1 + ((ur n) % most)) : Nat) : Int))] rfl rfl (fun w => bld85_2 _ _ w) <| lx_appendL (E := encP) (B := h.size) [((((ur ((gt ls i).2)) % (1 + ((ur n) % most)) : Nat) : Int), (((ur ((gt ls i).1)) % (1 + ((ur n) % most)) : Nat) : Int))] [.agg #[.int .i64 (((ur ((gt ls i).2)) % (1 + ((ur n) % most)) : Nat) : Int), .int .i64 (((ur ((gt ls i).1)) % (1 + ((ur n) % most)) : Nat) : Int)]] rfl rfl (fun _ => rfl) rfl eT22 rfl rfl rfl rfl ho20 (fun _ => rfl) (by show xs.length + 1 ≤ _; omega) (by show (xs.length + 1) * 16 ≤ _; omega) hx0_8.size (fun _ _ => trivial) fun u3 v3 h8 ho21 hc3 hg3 => ?_
            have hx0_9 := hx0_8.trans (ho20.ext hc3 hx0_8.size)
            refine lx_assign (v3) rfl rfl <| lx_nil <| wi_inBlock <| wi_reg rfl <| lx_move (.int .i64 ((i : Nat) : Int)) rfl rfl <| lx_add (((i + 1 : Nat) : Int)) rfl rfl rfl (by omega) (by omega) (by omega) <| lx_assign (.int .i64 ((i + 1 : Nat) : Int)) rfl rfl <| lx_nil <| ?_
            -- L0.1
            refine IH2 _ _ (i + 1, v3, xs ++ [((((ur ((gt ls i).2)) % (1 + ((ur n) % most)) : Nat) : Int), (((ur ((gt ls i).1)) % (1 + ((ur n) % most)) : Nat) : Int))]) (agree_ups rfl agree_self) ⟨rfl, rfl, trivial⟩ ⟨?_, hx0_9, ?_, ?_, ?_⟩ ?_
            · first | exact ho21 | (simpa using ho21)
            · try dsimp only
              omega
            · try dsimp only
              first | omega | (simp only [List.length_append, List.length_cons, List.length_nil]; omega)
            · try dsimp only
              intro j hj
              rw [List.length_append, List.length_cons, List.length_nil] at hj
              by_cases e : j < xs.length
              · rw [gt_append_left e]; exact hr j e
              · rw [show j = xs.length from by omega, gt_append_right]
                exact Go.X.inR_iff.2 ⟨by show (0 : Int) ≤ ((_ : Nat) : Int); omega, by show (0 : Int) ≤ ((_ : Nat) : Int); omega, by show ((_ : Nat) : Int) < _; omega, by show ((_ : Nat) : Int) < _; omega⟩
            · first | omega | (dsimp only; omega)
          · refine lx_nil <| wi_false rfl <| wi_skip <| wi_reg rfl <| lx_move (v) rfl rfl <| lx_move (.int .i64 (((ur ((gt ls i).1)) % (1 + ((ur n) % most)) : Nat) : Int)) rfl rfl <| lx_move (.int .i64 (((ur ((gt ls i).2)) % (1 + ((ur n) % most)) : Nat) : Int)) rfl rfl <| lx_build (.agg #[.int .i64 (((ur ((gt ls i).1)) % (1 + ((ur n) % most)) : Nat) : Int), .int .i64 (((ur ((gt ls i).2)) % (1 + ((ur n) % most)) : Nat) : Int)]) [(0, .int .i64 (((ur ((gt ls i).1)) % (1 + ((ur n) % most)) : Nat) : Int)), (1, .int .i64 (((ur ((gt ls i).2)) % (1 + ((ur n) % most)) : Nat) : Int))] rfl rfl (fun w => bld85_2 _ _ w) <| lx_appendL (E := encP) (B := h.size) [((((ur ((gt ls i).1)) % (1 + ((ur n) % most)) : Nat) : Int), (((ur ((gt ls i).2)) % (1 + ((ur n) % most)) : Nat) : Int))] [.agg #[.int .i64 (((ur ((gt ls i).1)) % (1 + ((ur n) % most)) : Nat) : Int), .int .i64 (((ur ((gt ls i).2)) % (1 + ((ur n) % most)) : Nat) : Int)]] rfl rfl (fun _ => rfl) rfl eT22 rfl rfl rfl rfl ho20 (fun _ => rfl) (by show xs.length + 1 ≤ _; omega) (by show (xs.length + 1) * 16 ≤ _; omega) hx0_8.size (fun _ _ => trivial) fun u4 v4 h9 ho22 hc4 hg4 => ?_
            have hx0_10 := hx0_8.trans (ho20.ext hc4 hx0_8.size)
            refine lx_assign (v4) rfl rfl <| lx_nil <| wi_inBlock <| wi_reg rfl <| lx_move (.int .i64 ((i : Nat) : Int)) rfl rfl <| lx_add (((i + 1 : Nat) : Int)) rfl rfl rfl (by omega) (by omega) (by omega) <| lx_assign (.int .i64 ((i + 1 : Nat) : Int)) rfl rfl <| lx_nil <| ?_
            -- L0.2
            refine IH2 _ _ (i + 1, v4, xs ++ [((((ur ((gt ls i).1)) % (1 + ((ur n) % most)) : Nat) : Int), (((ur ((gt ls i).2)) % (1 + ((ur n) % most)) : Nat) : Int))]) (agree_ups rfl agree_self) ⟨rfl, rfl, trivial⟩ ⟨?_, hx0_10, ?_, ?_, ?_⟩ ?_
            · first | exact ho22 | (simpa using ho22)
            · try dsimp only
              omega
            · try dsimp only
              first | omega | (simp only [List.length_append, List.length_cons, List.length_nil]; omega)
            · try dsimp only
              intro j hj
              rw [List.length_append, List.length_cons, List.length_nil] at hj
              by_cases e : j < xs.length
              · rw [gt_append_left e]; exact hr j e
              · rw [show j = xs.length from by omega, gt_append_right]
                exact Go.X.inR_iff.2 ⟨by show (0 : Int) ≤ ((_ : Nat) : Int); omega, by show (0 : Int) ≤ ((_ : Nat) : Int); omega, by show ((_ : Nat) : Int) < _; omega, by show ((_ : Nat) : Int) < _; omega⟩
            · first | omega | (dsimp only; omega)
        · refine lx_pick true (.bool false) rfl rfl rfl <| lx_nil <| wi_false rfl <| wi_exit rfl <| wi_seq <| wi_reg rfl <| lx_move (.int .i64 ((1 + ((ur n) % most) : Nat) : Int)) rfl rfl <| lx_move (v) rfl rfl <| lx_call [.int .i64 ((1 + ((ur n) % most) : Nat) : Int), v] rfl rfl Try.call64 rfl (rclosure_spec hh2 (1 + ((ur n) % most)) v xs ho20.rd (by omega) (by omega) hr) (fun _ _ _ => trivial) ?_
          rintro _ h10 ⟨vr, hsr, rfl, ho23, hot13, hx6⟩
          have hx0_11 := hx0_8.trans2 hx6 hx0_8.size
          have ho24 := ho20.extS hx6
          have ho25 := ho23.base hx0_8.size
          have hot14 := hot13.base hx0_8.size
          have hl_hot14 := hot14.1
          refine lx_move (.tuple #[vr, .bool (ordB (1 + ((ur n) % most)) (closW (1 + ((ur n) % most)) xs))]) rfl rfl <| lx_extract (vr) rfl rfl rfl <| lx_extract (.bool (ordB (1 + ((ur n) % most)) (closW (1 + ((ur n) % most)) xs))) rfl rfl rfl <| lx_assign (vr) rfl rfl <| lx_assign (.bool (ordB (1 + ((ur n) % most)) (closW (1 + ((ur n) % most)) xs))) rfl rfl <| lx_nil <| wi_seq <| wi_seq <| wi_reg rfl <| lx_move (.bool (ordB (1 + ((ur n) % most)) (closW (1 + ((ur n) % most)) xs))) rfl rfl <| lx_not rfl rfl <| lx_nil <| wi_condS (t := !(ordB (1 + ((ur n) % most)) (closW (1 + ((ur n) % most)) xs))) rfl (fun c12 => ?_) (fun c12 => ?_)
          · refine wi_reg rfl <| lx_move (.int .i64 ((1 + ((ur n) % most) : Nat) : Int)) rfl rfl <| lx_call [.int .i64 ((1 + ((ur n) % most) : Nat) : Int), .slice none 0 0] rfl rfl Try.call64 rfl (rclosure_spec h10 (1 + ((ur n) % most)) ((.slice none 0 0)) ([]) (owE_nil encP _ 0 0).rd (by omega) (by decide) (fun j hj => by cases hj)) (fun _ _ _ => trivial) ?_
            rintro _ h11 ⟨vz, hsz, rfl, ho26, hot15, hx7⟩
            have hx0_12 := hx0_11.trans2 hx7 hx0_11.size
            have ho27 := ho24.extS hx7
            have ho28 := ho25.extS hx7
            have hot16 := hot14.extS hx7
            have ho29 := ho26.base hx0_11.size
            have hot17 := hot15.base hx0_11.size
            have hl_hot17 := hot17.1
            refine lx_move (.tuple #[vz, .bool (ordB (1 + ((ur n) % most)) (closW (1 + ((ur n) % most)) ([])))]) rfl rfl <| lx_extract (vz) rfl rfl rfl <| lx_extract (.bool (ordB (1 + ((ur n) % most)) (closW (1 + ((ur n) % most)) ([])))) rfl rfl rfl <| lx_assign (vz) rfl rfl <| lx_nil <| wi_seq <| wi_reg rfl <| lx_move (vz) rfl rfl <| lx_assign (vz) rfl rfl <| lx_nil <| ?_
            -- R6
            refine wi_ret ⟨vz, (res_one rfl rfl), ⟨vz, hsz, tabF (1 + ((ur n) % most)) (closW (1 + ((ur n) % most)) ([])), rfl, ho29, hot17, ?_, hx0_12⟩⟩
            · first
              | exact ⟨isT_tabF (ordB_iff.1 (by simpa using ‹(!ordB (1 + ur n % most) (closW (1 + ur n % most) xs)) = false›)), by rw [tabF_length]; omega, by rw [tabF_length]; omega⟩
              | exact ⟨isT_tabF (up_order fun d hd => by cases hd), by rw [tabF_length]; omega, by rw [tabF_length]; omega⟩
          · refine wi_skip <| wi_seq <| wi_reg rfl <| lx_move (vr) rfl rfl <| lx_assign (vr) rfl rfl <| lx_nil <| ?_
            -- R7
            refine wi_ret ⟨vr, (res_one rfl rfl), ⟨vr, hsr, tabF (1 + ((ur n) % most)) (closW (1 + ((ur n) % most)) xs), rfl, ho25, hot14, ?_, hx0_11⟩⟩
            · first
              | exact ⟨isT_tabF (ordB_iff.1 (by simpa using ‹(!ordB (1 + ur n % most) (closW (1 + ur n % most) xs)) = false›)), by rw [tabF_length]; omega, by rw [tabF_length]; omega⟩
              | exact ⟨isT_tabF (up_order fun d hd => by cases hd), by rw [tabF_length]; omega, by rw [tabF_length]; omega⟩
      · refine lx_move (.bool false) rfl rfl <| lx_skip rfl <| lx_skip rfl <| lx_pick false (.bool false) rfl rfl rfl <| lx_nil <| wi_false rfl <| wi_exit rfl <| wi_seq <| wi_reg rfl <| lx_move (.int .i64 ((1 + ((ur n) % most) : Nat) : Int)) rfl rfl <| lx_move (v) rfl rfl <| lx_call [.int .i64 ((1 + ((ur n) % most) : Nat) : Int), v] rfl rfl Try.call64 rfl (rclosure_spec hh2 (1 + ((ur n) % most)) v xs ho20.rd (by omega) (by omega) hr) (fun _ _ _ => trivial) ?_
        rintro _ h12 ⟨vr, hsr, rfl, ho30, hot18, hx8⟩
        have hx0_13 := hx0_8.trans2 hx8 hx0_8.size
        have ho31 := ho20.extS hx8
        have ho32 := ho30.base hx0_8.size
        have hot19 := hot18.base hx0_8.size
        have hl_hot19 := hot19.1
        refine lx_move (.tuple #[vr, .bool (ordB (1 + ((ur n) % most)) (closW (1 + ((ur n) % most)) xs))]) rfl rfl <| lx_extract (vr) rfl rfl rfl <| lx_extract (.bool (ordB (1 + ((ur n) % most)) (closW (1 + ((ur n) % most)) xs))) rfl rfl rfl <| lx_assign (vr) rfl rfl <| lx_assign (.bool (ordB (1 + ((ur n) % most)) (closW (1 + ((ur n) % most)) xs))) rfl rfl <| lx_nil <| wi_seq <| wi_seq <| wi_reg rfl <| lx_move (.bool (ordB (1 + ((ur n) % most)) (closW (1 + ((ur n) % most)) xs))) rfl rfl <| lx_not rfl rfl <| lx_nil <| wi_condS (t := !(ordB (1 + ((ur n) % most)) (closW (1 + ((ur n) % most)) xs))) rfl (fun c13 => ?_) (fun c13 => ?_)
        · refine wi_reg rfl <| lx_move (.int .i64 ((1 + ((ur n) % most) : Nat) : Int)) rfl rfl <| lx_call [.int .i64 ((1 + ((ur n) % most) : Nat) : Int), .slice none 0 0] rfl rfl Try.call64 rfl (rclosure_spec h12 (1 + ((ur n) % most)) ((.slice none 0 0)) ([]) (owE_nil encP _ 0 0).rd (by omega) (by decide) (fun j hj => by cases hj)) (fun _ _ _ => trivial) ?_
          rintro _ h13 ⟨vz, hsz, rfl, ho33, hot20, hx9⟩
          have hx0_14 := hx0_13.trans2 hx9 hx0_13.size
          have ho34 := ho31.extS hx9
          have ho35 := ho32.extS hx9
          have hot21 := hot19.extS hx9
          have ho36 := ho33.base hx0_13.size
          have hot22 := hot20.base hx0_13.size
          have hl_hot22 := hot22.1
          refine lx_move (.tuple #[vz, .bool (ordB (1 + ((ur n) % most)) (closW (1 + ((ur n) % most)) ([])))]) rfl rfl <| lx_extract (vz) rfl rfl rfl <| lx_extract (.bool (ordB (1 + ((ur n) % most)) (closW (1 + ((ur n) % most)) ([])))) rfl rfl rfl <| lx_assign (vz) rfl rfl <| lx_nil <| wi_seq <| wi_reg rfl <| lx_move (vz) rfl rfl <| lx_assign (vz) rfl rfl <| lx_nil <| ?_
          -- R8
          refine wi_ret ⟨vz, (res_one rfl rfl), ⟨vz, hsz, tabF (1 + ((ur n) % most)) (closW (1 + ((ur n) % most)) ([])), rfl, ho36, hot22, ?_, hx0_14⟩⟩
          · first
            | exact ⟨isT_tabF (ordB_iff.1 (by simpa using ‹(!ordB (1 + ur n % most) (closW (1 + ur n % most) xs)) = false›)), by rw [tabF_length]; omega, by rw [tabF_length]; omega⟩
            | exact ⟨isT_tabF (up_order fun d hd => by cases hd), by rw [tabF_length]; omega, by rw [tabF_length]; omega⟩
        · refine wi_skip <| wi_seq <| wi_reg rfl <| lx_move (vr) rfl rfl <| lx_assign (vr) rfl rfl <| lx_nil <| ?_
          -- R9
          refine wi_ret ⟨vr, (res_one rfl rfl), ⟨vr, hsr, tabF (1 + ((ur n) % most)) (closW (1 + ((ur n) % most)) xs), rfl, ho32, hot19, ?_, hx0_13⟩⟩
          · first
            | exact ⟨isT_tabF (ordB_iff.1 (by simpa using ‹(!ordB (1 + ur n % most) (closW (1 + ur n % most) xs)) = false›)), by rw [tabF_length]; omega, by rw [tabF_length]; omega⟩
            | exact ⟨isT_tabF (up_order fun d hd => by cases hd), by rw [tabF_length]; omega, by rw [tabF_length]; omega⟩
  · refine lx_move (.bool false) rfl rfl <| lx_skip rfl <| lx_skip rfl <| lx_skip rfl <| lx_skip rfl <| lx_skip rfl <| lx_skip rfl <| lx_skip rfl <| lx_pick false (.bool false) rfl rfl rfl <| lx_nil <| wi_false rfl <| wi_skip <| wi_seq <| wi_reg rfl <| lx_assign (.slice none 0 0) rfl rfl <| lx_nil <| wi_seq <| wi_seq <| wi_reg rfl <| lx_assign (.int .i64 0) rfl rfl <| lx_nil <| wi_block <| ?_
    refine wi_loop (σ := Nat × Value × (List (Int × Int))) (rngB 45 92 [9, 10, 11, 12]) (fun (ss : Nat × Value × (List (Int × Int))) => [(10, .int .i64 ((ss.1 : Nat) : Int)), (9, ss.2.1)]) (fun (ss : Nat × Value × (List (Int × Int))) (hh : Heap) => OwE encP hh h.size 85 ss.2.1 ss.2.2 ∧ Ext h.size h hh ∧ (ss.1 ≤ ls.length ∧ ss.1 ≤ 20) ∧ (ss.2.2.length ≤ ss.1) ∧ (∀ j, j < ss.2.2.length → Go.X.inR (((1 + ur n % most) : Nat) : Int) (gt ss.2.2 j) = true)) (fun (ss : Nat × Value × (List (Int × Int))) => ls.length - ss.1) (0, .slice none 0 0, []) ⟨rfl, rfl, trivial⟩ ⟨?_, (Ext.refl _ _), ?_, ?_, ?_⟩ ?_
    · first | exact (owE_nil encP _ h.size 85) | (simpa using (owE_nil encP _ h.size 85))
    · try dsimp only
      omega
    · try dsimp only
      exact Nat.zero_le _
    · try dsimp only
      intro j hj; cases hj
    rintro g3 ⟨i, v, xs⟩ hh3 ⟨ho37, hx0_15, hi, hxl, hr⟩ IH3
    dsimp only at *
    refine wi_seq <| wi_seq <| wi_reg rfl <| lx_move (.int .i64 ((i : Nat) : Int)) rfl rfl <| lx_move (vl) rfl rfl <| lx_len rfl Try.underlying22 hr_vl rfl <| lx_lssS rfl rfl rfl (fun c14 => ?_) (fun c14 => ?_)
    · refine lx_move (.bool true) rfl rfl <| lx_move (.int .i64 ((i : Nat) : Int)) rfl rfl <| lx_lssS rfl rfl rfl (fun c15 => ?_) (fun c15 => ?_)
      · refine lx_pick true (.bool true) rfl rfl rfl <| lx_nil <| wi_true rfl <| wi_skip <| wi_seq <| wi_block <| wi_seq <| wi_draw mo rfl (by decide +kernel) <| ?_
        have hma := Nat.mod_lt (ur (gt ls i).1) (show 0 < 1 + ur n % most by omega)
        have hmb := Nat.mod_lt (ur (gt ls i).2) (show 0 < 1 + ur n % most by omega)
        refine lx_move (vl) rfl rfl <| lx_move (.int .i64 ((i : Nat) : Int)) rfl rfl <| lx_ix (i := i) rfl eT22 hr_vl rfl rfl (by omega) <| lx_ixP (i := i) (c := 0) rfl Try.underlying85 Try.sizeOf3 hr_vl (by omega) rfl rfl (by decide) <| lx_ld (i := i) (j := 0) (.int .i64 ((gt ls i).1)) rfl rfl fl3 (hr_vl.extS hx0_15) (by omega) rfl rfl <| lx_conv ((ur ((gt ls i).1) : Nat) : Int) rfl Try.underlying3 Try.underlying45 rfl (wrap_ur _) <| lx_move (.int .i64 ((1 + ((ur n) % most) : Nat) : Int)) rfl rfl <| lx_conv ((1 + ((ur n) % most) : Nat) : Int) rfl Try.underlying3 Try.underlying45 rfl (wrap_u64 (by omega) (by omega)) <| lx_rem (m := ur ((gt ls i).1)) (n := 1 + ((ur n) % most)) rfl rfl rfl (by omega) <| lx_conv (((ur ((gt ls i).1)) % (1 + ((ur n) % most)) : Nat) : Int) rfl Try.underlying45 Try.underlying3 rfl (wrap_i64 (by omega) (by omega)) <| lx_move (vl) rfl rfl <| lx_move (.int .i64 ((i : Nat) : Int)) rfl rfl <| lx_ix (i := i) rfl eT22 hr_vl rfl rfl (by omega) <| lx_ixP (i := i) (c := 1) rfl Try.underlying85 Try.sizeOf3 hr_vl (by omega) rfl rfl (by decide) <| lx_ld (i := i) (j := 1) (.int .i64 ((gt ls i).2)) rfl rfl fl3 (hr_vl.extS hx0_15) (by omega) rfl rfl <| lx_conv ((ur ((gt ls i).2) : Nat) : Int) rfl Try.underlying3 Try.underlying45 rfl (wrap_ur _) <| lx_move (.int .i64 ((1 + ((ur n) % most) : Nat) : Int)) rfl rfl <| lx_conv ((1 + ((ur n) % most) : Nat) : Int) rfl Try.underlying3 Try.underlying45 rfl (wrap_u64 (by omega) (by omega)) <| lx_rem (m := ur ((gt ls i).2)) (n := 1 + ((ur n) % most)) rfl rfl rfl (by omega) <| lx_conv (((ur ((gt ls i).2)) % (1 + ((ur n) % most)) : Nat) : Int) rfl Try.underlying45 Try.underlying3 rfl (wrap_i64 (by omega) (by omega)) <| lx_assign (.int .i64 (((ur ((gt ls i).1)) % (1 + ((ur n) % most)) : Nat) : Int)) rfl rfl <| lx_assign (.int .i64 (((ur ((gt ls i).2)) % (1 + ((ur n) % most)) : Nat) : Int)) rfl rfl <| lx_nil <| wi_seq <| wi_seq <| wi_reg rfl <| lx_move (.int .i64 (((ur ((gt ls i).1)) % (1 + ((ur n) % most)) : Nat) : Int)) rfl rfl <| lx_mul (((5 * ((ur ((gt ls i).1)) % (1 + ((ur n) % most))) : Nat) : Int)) rfl rfl rfl (by omega) (by omega) (by omega) <| lx_add (((5 * ((ur ((gt ls i).1)) % (1 + ((ur n) % most))) + 1 : Nat) : Int)) rfl rfl rfl (by omega) (by omega) (by omega) <| lx_rem (m := 5 * ((ur ((gt ls i).1)) % (1 + ((ur n) % most))) + 1) (n := 13) rfl rfl rfl (by omega) <| lx_move (.int .i64 (((ur ((gt ls i).2)) % (1 + ((ur n) % most)) : Nat) : Int)) rfl rfl <| lx_mul (((5 * ((ur ((gt ls i).2)) % (1 + ((ur n) % most))) : Nat) : Int)) rfl rfl rfl (by omega) (by omega) (by omega) <| lx_add (((5 * ((ur ((gt ls i).2)) % (1 + ((ur n) % most))) + 1 : Nat) : Int)) rfl rfl rfl (by omega) (by omega) (by omega) <| lx_rem (m := 5 * ((ur ((gt ls i).2)) % (1 + ((ur n) % most))) + 1) (n := 13) rfl rfl rfl (by omega) <| lx_gtrS rfl rfl rfl (fun c16 => ?_) (fun c16 => ?_)
        · refine lx_nil <| wi_true rfl <| wi_reg rfl <| lx_move (.int .i64 (((ur ((gt ls i).2)) % (1 + ((ur n) % most)) : Nat) : Int)) rfl rfl <| lx_move (.int .i64 (((ur ((gt ls i).1)) % (1 + ((ur n) % most)) : Nat) : Int)) rfl rfl <| lx_assign (.int .i64 (((ur ((gt ls i).2)) % (1 + ((ur n) % most)) : Nat) : Int)) rfl rfl <| lx_assign (.int .i64 (((ur ((gt ls i).1)) % (1 + ((ur n) % most)) : Nat) : Int)) rfl rfl <| lx_nil <| wi_reg rfl <| lx_move (v) rfl rfl <| lx_move (.int .i64 (((ur ((gt ls i).2)) % (1 + ((ur n) % most)) : Nat) : Int)) rfl rfl <| lx_move (.int .i64 (((ur ((gt ls i).1)) % (1 + ((ur n) % most)) : Nat) : Int)) rfl rfl <| lx_build (.agg #[.int .i64 (((ur ((gt ls i).2)) % (1 + ((ur n) % most)) : Nat) : Int), .int .i64 (((ur ((gt ls i).1)) % (1 + ((ur n) % most)) : Nat) : Int)]) [(0, .int .i64 (((ur ((gt ls i).2)) % (1 + ((ur n) % most)) : Nat) : Int)), (1, .int .i64 (((ur ((gt ls i).1)) % (1 + ((ur n) % most)) : Nat) : Int))] rfl rfl (fun w => bld85_2 _ _ w) <| lx_appendL (E := encP) (B := h.size) [((((ur ((gt ls i).2)) % (1 + ((ur n) % most)) : Nat) : Int), (((ur ((gt ls i).1)) % (1 + ((ur n) % most)) : Nat) : Int))] [.agg #[.int .i64 (((ur ((gt ls i).2)) % (1 + ((ur n) % most)) : Nat) : Int), .int .i64 (((ur ((gt ls i).1)) % (1 + ((ur n) % most)) : Nat) : Int)]] rfl rfl (fun _ => rfl) rfl eT22 rfl rfl rfl rfl ho37 (fun _ => rfl) (by show xs.length + 1 ≤ _; omega) (by show (xs.length + 1) * 16 ≤ _; omega) hx0_15.size (fun _ _ => trivial) fun u5 v5 h14 ho38 hc5 hg5 => ?_
          have hx0_16 := hx0_15.trans (ho37.ext hc5 hx0_15.size)
          refine lx_assign (v5) rfl rfl <| lx_nil <| wi_inBlock <| wi_reg rfl <| lx_move (.int .i64 ((i : Nat) : Int)) rfl rfl <| lx_add (((i + 1 : Nat) : Int)) rfl rfl rfl (by omega) (by omega) (by omega) <| lx_assign (.int .i64 ((i + 1 : Nat) : Int)) rfl rfl <| lx_nil <| ?_
          -- L0.1
          refine IH3 _ _ (i + 1, v5, xs ++ [((((ur ((gt ls i).2)) % (1 + ((ur n) % most)) : Nat) : Int), (((ur ((gt ls i).1)) % (1 + ((ur n) % most)) : Nat) : Int))]) (agree_ups rfl agree_self) ⟨rfl, rfl, trivial⟩ ⟨?_, hx0_16, ?_, ?_, ?_⟩ ?_
          · first | exact ho38 | (simpa using ho38)
          · try dsimp only
            omega
          · try dsimp only
            first | omega | (simp only [List.length_append, List.length_cons, List.length_nil]; omega)
          · try dsimp only
            intro j hj
            rw [List.length_append, List.length_cons, List.length_nil] at hj
            by_cases e : j < xs.length
            · rw [gt_append_left e]; exact hr j e
            · rw [show j = xs.length from by omega, gt_append_right]
              exact Go.X.inR_iff.2 ⟨by show (0 : Int) ≤ ((_ : Nat) : Int); omega, by show (0 : Int) ≤ ((_ : Nat) : Int); omega, by show ((_ : Nat) : Int) < _; omega, by show ((_ : Nat) : Int) < _; omega⟩
          · first | omega | (dsimp only; omega)
        · refine lx_nil <| wi_false rfl <| wi_skip <| wi_reg rfl <| lx_move (v) rfl rfl <| lx_move (.int .i64 (((ur ((gt ls i).1)) % (1 + ((ur n) % most)) : Nat) : Int)) rfl rfl <| lx_move (.int .i64 (((ur ((gt ls i).2)) % (1 + ((ur n) % most)) : Nat) : Int)) rfl rfl <| lx_build (.agg #[.int .i64 (((ur ((gt ls i).1)) % (1 + ((ur n) % most)) : Nat) : Int), .int .i64 (((ur ((gt ls i).2)) % (1 + ((ur n) % most)) : Nat) : Int)]) [(0, .int .i64 (((ur ((gt ls i).1)) % (1 + ((ur n) % most)) : Nat) : Int)), (1, .int .i64 (((ur ((gt ls i).2)) % (1 + ((ur n) % most)) : Nat) : Int))] rfl rfl (fun w => bld85_2 _ _ w) <| lx_appendL (E := encP) (B := h.size) [((((ur ((gt ls i).1)) % (1 + ((ur n) % most)) : Nat) : Int), (((ur ((gt ls i).2)) % (1 + ((ur n) % most)) : Nat) : Int))] [.agg #[.int .i64 (((ur ((gt ls i).1)) % (1 + ((ur n) % most)) : Nat) : Int), .int .i64 (((ur ((gt ls i).2)) % (1 + ((ur n) % most)) : Nat) : Int)]] rfl rfl (fun _ => rfl) rfl eT22 rfl rfl rfl rfl ho37 (fun _ => rfl) (by show xs.length + 1 ≤ _; omega) (by show (xs.length + 1) * 16 ≤ _; omega) hx0_15.size (fun _ _ => trivial) fun u6 v6 h15 ho39 hc6 hg6 => ?_
          have hx0_17 := hx0_15.trans (ho37.ext hc6 hx0_15.size)
          refine lx_assign (v6) rfl rfl <| lx_nil <| wi_inBlock <| wi_reg rfl <| lx_move (.int .i64 ((i : Nat) : Int)) rfl rfl <| lx_add (((i + 1 : Nat) : Int)) rfl rfl rfl (by omega) (by omega) (by omega) <| lx_assign (.int .i64 ((i + 1 : Nat) : Int)) rfl rfl <| lx_nil <| ?_
          -- L0.2
          refine IH3 _ _ (i + 1, v6, xs ++ [((((ur ((gt ls i).1)) % (1 + ((ur n) % most)) : Nat) : Int), (((ur ((gt ls i).2)) % (1 + ((ur n) % most)) : Nat) : Int))]) (agree_ups rfl agree_self) ⟨rfl, rfl, trivial⟩ ⟨?_, hx0_17, ?_, ?_, ?_⟩ ?_
          · first | exact ho39 | (simpa using ho39)
          · try dsimp only
            omega
          · try dsimp only
            first | omega | (simp only [List.length_append, List.length_cons, List.length_nil]; omega)
          · try dsimp only
            intro j hj
            rw [List.length_append, List.length_cons, List.length_nil] at hj
            by_cases e : j < xs.length
            · rw [gt_append_left e]; exact hr j e
            · rw [show j = xs.length from by omega, gt_append_right]
              exact Go.X.inR_iff.2 ⟨by show (0 : Int) ≤ ((_ : Nat) : Int); omega, by show (0 : Int) ≤ ((_ : Nat) : Int); omega, by show ((_ : Nat) : Int) < _; omega, by show ((_ : Nat) : Int) < _; omega⟩
          · first | omega | (dsimp only; omega)
      · refine lx_pick true (.bool false) rfl rfl rfl <| lx_nil <| wi_false rfl <| wi_exit rfl <| wi_seq <| wi_reg rfl <| lx_move (.int .i64 ((1 + ((ur n) % most) : Nat) : Int)) rfl rfl <| lx_move (v) rfl rfl <| lx_call [.int .i64 ((1 + ((ur n) % most) : Nat) : Int), v] rfl rfl Try.call64 rfl (rclosure_spec hh3 (1 + ((ur n) % most)) v xs ho37.rd (by omega) (by omega) hr) (fun _ _ _ => trivial) ?_
        rintro _ h16 ⟨vr, hsr, rfl, ho40, hot23, hx10⟩
        have hx0_18 := hx0_15.trans2 hx10 hx0_15.size
        have ho41 := ho37.extS hx10
        have ho42 := ho40.base hx0_15.size
        have hot24 := hot23.base hx0_15.size
        have hl_hot24 := hot24.1
        refine lx_move (.tuple #[vr, .bool (ordB (1 + ((ur n) % most)) (closW (1 + ((ur n) % most)) xs))]) rfl rfl <| lx_extract (vr) rfl rfl rfl <| lx_extract (.bool (ordB (1 + ((ur n) % most)) (closW (1 + ((ur n) % most)) xs))) rfl rfl rfl <| lx_assign (vr) rfl rfl <| lx_assign (.bool (ordB (1 + ((ur n) % most)) (closW (1 + ((ur n) % most)) xs))) rfl rfl <| lx_nil <| wi_seq <| wi_seq <| wi_reg rfl <| lx_move (.bool (ordB (1 + ((ur n) % most)) (closW (1 + ((ur n) % most)) xs))) rfl rfl <| lx_not rfl rfl <| lx_nil <| wi_condS (t := !(ordB (1 + ((ur n) % most)) (closW (1 + ((ur n) % most)) xs))) rfl (fun c17 => ?_) (fun c17 => ?_)
        · refine wi_reg rfl <| lx_move (.int .i64 ((1 + ((ur n) % most) : Nat) : Int)) rfl rfl <| lx_call [.int .i64 ((1 + ((ur n) % most) : Nat) : Int), .slice none 0 0] rfl rfl Try.call64 rfl (rclosure_spec h16 (1 + ((ur n) % most)) ((.slice none 0 0)) ([]) (owE_nil encP _ 0 0).rd (by omega) (by decide) (fun j hj => by cases hj)) (fun _ _ _ => trivial) ?_
          rintro _ h17 ⟨vz, hsz, rfl, ho43, hot25, hx11⟩
          have hx0_19 := hx0_18.trans2 hx11 hx0_18.size
          have ho44 := ho41.extS hx11
          have ho45 := ho42.extS hx11
          have hot26 := hot24.extS hx11
          have ho46 := ho43.base hx0_18.size
          have hot27 := hot25.base hx0_18.size
          have hl_hot27 := hot27.1
          refine lx_move (.tuple #[vz, .bool (ordB (1 + ((ur n) % most)) (closW (1 + ((ur n) % most)) ([])))]) rfl rfl <| lx_extract (vz) rfl rfl rfl <| lx_extract (.bool (ordB (1 + ((ur n) % most)) (closW (1 + ((ur n) % most)) ([])))) rfl rfl rfl <| lx_assign (vz) rfl rfl <| lx_nil <| wi_seq <| wi_reg rfl <| lx_move (vz) rfl rfl <| lx_assign (vz) rfl rfl <| lx_nil <| ?_
          -- R10
          refine wi_ret ⟨vz, (res_one rfl rfl), ⟨vz, hsz, tabF (1 + ((ur n) % most)) (closW (1 + ((ur n) % most)) ([])), rfl, ho46, hot27, ?_, hx0_19⟩⟩
          · first
            | exact ⟨isT_tabF (ordB_iff.1 (by simpa using ‹(!ordB (1 + ur n % most) (closW (1 + ur n % most) xs)) = false›)), by rw [tabF_length]; omega, by rw [tabF_length]; omega⟩
            | exact ⟨isT_tabF (up_order fun d hd => by cases hd), by rw [tabF_length]; omega, by rw [tabF_length]; omega⟩
        · refine wi_skip <| wi_seq <| wi_reg rfl <| lx_move (vr) rfl rfl <| lx_assign (vr) rfl rfl <| lx_nil <| ?_
          -- R11
          refine wi_ret ⟨vr, (res_one rfl rfl), ⟨vr, hsr, tabF (1 + ((ur n) % most)) (closW (1 + ((ur n) % most)) xs), rfl, ho42, hot24, ?_, hx0_18⟩⟩
          · first
            | exact ⟨isT_tabF (ordB_iff.1 (by simpa using ‹(!ordB (1 + ur n % most) (closW (1 + ur n % most) xs)) = false›)), by rw [tabF_length]; omega, by rw [tabF_length]; omega⟩
            | exact ⟨isT_tabF (up_order fun d hd => by cases hd), by rw [tabF_length]; omega, by rw [tabF_length]; omega⟩
    · refine lx_move (.bool false) rfl rfl <| lx_skip rfl <| lx_skip rfl <| lx_pick false (.bool false) rfl rfl rfl <| lx_nil <| wi_false rfl <| wi_exit rfl <| wi_seq <| wi_reg rfl <| lx_move (.int .i64 ((1 + ((ur n) % most) : Nat) : Int)) rfl rfl <| lx_move (v) rfl rfl <| lx_call [.int .i64 ((1 + ((ur n) % most) : Nat) : Int), v] rfl rfl Try.call64 rfl (rclosure_spec hh3 (1 + ((ur n) % most)) v xs ho37.rd (by omega) (by omega) hr) (fun _ _ _ => trivial) ?_
      rintro _ h18 ⟨vr, hsr, rfl, ho47, hot28, hx12⟩
      have hx0_20 := hx0_15.trans2 hx12 hx0_15.size
      have ho48 := ho37.extS hx12
      have ho49 := ho47.base hx0_15.size
      have hot29 := hot28.base hx0_15.size
      have hl_hot29 := hot29.1
      refine lx_move (.tuple #[vr, .bool (ordB (1 + ((ur n) % most)) (closW (1 + ((ur n) % most)) xs))]) rfl rfl <| lx_extract (vr) rfl rfl rfl <| lx_extract (.bool (ordB (1 + ((ur n) % most)) (closW (1 + ((ur n) % most)) xs))) rfl rfl rfl <| lx_assign (vr) rfl rfl <| lx_assign (.bool (ordB (1 + ((ur n) % most)) (closW (1 + ((ur n) % most)) xs))) rfl rfl <| lx_nil <| wi_seq <| wi_seq <| wi_reg rfl <| lx_move (.bool (ordB (1 + ((ur n) % most)) (closW (1 + ((ur n) % most)) xs))) rfl rfl <| lx_not rfl rfl <| lx_nil <| wi_condS (t := !(ordB (1 + ((ur n) % most)) (closW (1 + ((ur n) % most)) xs))) rfl (fun c18 => ?_) (fun c18 => ?_)
      · refine wi_reg rfl <| lx_move (.int .i64 ((1 + ((ur n) % most) : Nat) : Int)) rfl rfl <| lx_call [.int .i64 ((1 + ((ur n) % most) : Nat) : Int), .slice none 0 0] rfl rfl Try.call64 rfl (rclosure_spec h18 (1 + ((ur n) % most)) ((.slice none 0 0)) ([]) (owE_nil encP _ 0 0).rd (by omega) (by decide) (fun j hj => by cases hj)) (fun _ _ _ => trivial) ?_
        rintro _ h19 ⟨vz, hsz, rfl, ho50, hot30, hx13⟩
        have hx0_21 := hx0_20.trans2 hx13 hx0_20.size
        have ho51 := ho48.extS hx13
        have ho52 := ho49.extS hx13
        have hot31 := hot29.extS hx13
        have ho53 := ho50.base hx0_20.size
        have hot32 := hot30.base hx0_20.size
        have hl_hot32 := hot32.1
        refine lx_move (.tuple #[vz, .bool (ordB (1 + ((ur n) % most)) (closW (1 + ((ur n) % most)) ([])))]) rfl rfl <| lx_extract (vz) rfl rfl rfl <| lx_extract (.bool (ordB (1 + ((ur n) % most)) (closW (1 + ((ur n) % most)) ([])))) rfl rfl rfl <| lx_assign (vz) rfl rfl <| lx_nil <| wi_seq <| wi_reg rfl <| lx_move (vz) rfl rfl <| lx_assign (vz) rfl rfl <| lx_nil <| ?_
        -- R12
        refine wi_ret ⟨vz, (res_one rfl rfl), ⟨vz, hsz, tabF (1 + ((ur n) % most)) (closW (1 + ((ur n) % most)) ([])), rfl, ho53, hot32, ?_, hx0_21⟩⟩
        · first
          | exact ⟨isT_tabF (ordB_iff.1 (by simpa using ‹(!ordB (1 + ur n % most) (closW (1 + ur n % most) xs)) = false›)), by rw [tabF_length]; omega, by rw [tabF_length]; omega⟩
          | exact ⟨isT_tabF (up_order fun d hd => by cases hd), by rw [tabF_length]; omega, by rw [tabF_length]; omega⟩
      · refine wi_skip <| wi_seq <| wi_reg rfl <| lx_move (vr) rfl rfl <| lx_assign (vr) rfl rfl <| lx_nil <| ?_
        -- R13
        refine wi_ret ⟨vr, (res_one rfl rfl), ⟨vr, hsr, tabF (1 + ((ur n) % most)) (closW (1 + ((ur n) % most)) xs), rfl, ho49, hot29, ?_, hx0_20⟩⟩
        · first
          | exact ⟨isT_tabF (ordB_iff.1 (by simpa using ‹(!ordB (1 + ur n % most) (closW (1 + ur n % most) xs)) = false›)), by rw [tabF_length]; omega, by rw [tabF_length]; omega⟩
          | exact ⟨isT_tabF (up_order fun d hd => by cases hd), by rw [tabF_length]; omega, by rw [tabF_length]; omega⟩

end Go.Proofs.Ytdokijbdnajhgaa
namespace Go.X

end Go.X
namespace Go.Proofs.Ytdokijbdnajhgaa
open Go Go.X

end Go.Proofs.Ytdokijbdnajhgaa
namespace Go.Proofs.Ytdokijbdnajhgaa
open Go Go.X

theorem chkT_zero {p : List (List Bool)} (h1 : 1 ≤ p.length) (h2 : p.length ≤ 12) (h3 : isT p = true) : chkT p = 0 := by
  rw [sq_self (isT_sq h3), chkT_tabF h1 h2, if_pos (ordB_iff.2 (isT_o h3))]

end Go.Proofs.Ytdokijbdnajhgaa
namespace Go.Proofs.Ytdokijbdnajhgaa
open Go Go.X

theorem jnB_congr {n x y z : Nat} {f g : Nat → Nat → Bool} (h : ∀ x y, x < n → y < n → f x y = g x y) (hx : x < n) (hy : y < n) (hz : z < n) : jnB n f x y z = jnB n g x y z := by
  rw [Bool.eq_iff_iff, jnB_iff, jnB_iff, h x z hx hz, h y z hy hz]
  refine and_congr_right fun _ => and_congr_right fun _ => ⟨fun k w hw a b => ?_, fun k w hw a b => ?_⟩
  · rw [← h z w hz hw]; exact k w hw (by rw [h x w hx hw]; exact a) (by rw [h y w hy hw]; exact b)
  · rw [h z w hz hw]; exact k w hw (by rw [← h x w hx hw]; exact a) (by rw [← h y w hy hw]; exact b)
theorem join_congr {n x y : Nat} {f g : Nat → Nat → Bool} (h : ∀ x y, x < n → y < n → f x y = g x y) (hx : x < n) (hy : y < n) : joinF n f x y = joinF n g x y := firstF_congr fun z hz => jnB_congr h hx hy hz
theorem meet_turn {n x y : Nat} (f : Nat → Nat → Bool) (hx : x < n) (hy : y < n) : joinF (tabF n (flipF f)).length (pb (tabF n (flipF f))) x y = meetF n f x y := by
  rw [tabF_length, join_congr (g := flipF f) (fun x y hx hy => pb_tabF hx hy) hx hy]; rfl
set_option maxRecDepth 10000 in
theorem turned_spec (h : Heap) (vp : Value) (hs : List Hdr) (p : List (List Bool)) (hr_vp : RdE encHd h vp hs) (ht_vp : RT encB h hs p) (hp1 : p.length ≤ 12) (hp2 : Sq p p.length) : Fx Try.prog 130 [vp] h (fun v h' => ∃ (s : Value) (hs1 : List Hdr), v = s ∧ OwE encHd h' h.size 70 s hs1 ∧ OT encB h' h.size 4 hs1 (tabF p.length (flipF (pb p))) ∧ Ext h.size h h') := by
  have hl_vp := ht_vp.1
  refine fx_intro (n := 34) [(0, vp)] Try.func130 rfl rfl (by simp) ⟨rfl, trivial⟩ fun g0 => ?_
  refine wi_seq <| wi_reg rfl <| lx_assign (.slice none 0 0) rfl rfl <| lx_nil <| wi_seq <| wi_reg rfl <| lx_assign (.slice none 0 0) rfl rfl <| lx_nil <| wi_seq <| wi_seq <| wi_reg rfl <| lx_assign (.int .i64 0) rfl rfl <| lx_nil <| wi_block <| ?_
  refine wi_loop (σ := Nat × Value × (List Hdr) × (List (List Bool))) (rngB 3 33 []) (fun (ss : Nat × Value × (List Hdr) × (List (List Bool))) => [(4, .int .i64 ((ss.1 : Nat) : Int)), (3, ss.2.1)]) (fun (ss : Nat × Value × (List Hdr) × (List (List Bool))) (hh : Heap) => OwE encHd hh h.size 70 ss.2.1 ss.2.2.1 ∧ OT encB hh h.size 4 ss.2.2.1 ss.2.2.2 ∧ Ext h.size h hh ∧ (ss.1 ≤ p.length) ∧ (ss.2.2.2 = (List.range ss.1).map fun q => rowF p.length (flipF (pb p) q))) (fun (ss : Nat × Value × (List Hdr) × (List (List Bool))) => p.length - ss.1) (0, .slice none 0 0, [], []) ⟨rfl, rfl, trivial⟩ ⟨?_, ?_, (Ext.refl _ _), ?_, ?_⟩ ?_
  · first | exact (owE_nil encHd _ h.size 70) | (simpa using (owE_nil encHd _ h.size 70))
  · first | exact (OT.nil encB _ h.size 4) | (simpa using (OT.nil encB _ h.size 4))
  · try dsimp only
    omega
  · try dsimp only
    first | done | rfl
  rintro g1 ⟨x, v, hv, rows⟩ hh1 ⟨ho1, hot1, hx0_1, hx, hrw⟩ IH1
  dsimp only at *
  have hrl : rows.length = x := by rw [hrw]; simp
  have hl_hot1 := hot1.1
  refine wi_seq <| wi_seq <| wi_reg rfl <| lx_move (.int .i64 ((x : Nat) : Int)) rfl rfl <| lx_move (vp) rfl rfl <| lx_len rfl Try.underlying23 hr_vp rfl <| lx_lssS rfl rfl rfl (fun c1 => ?_) (fun c1 => ?_)
  · refine lx_nil <| wi_true rfl <| wi_skip <| wi_seq <| wi_block <| wi_seq <| wi_reg rfl <| lx_assign (.slice none 0 0) rfl rfl <| lx_nil <| wi_seq <| wi_seq <| wi_reg rfl <| lx_assign (.int .i64 0) rfl rfl <| lx_nil <| wi_block <| ?_
    refine wi_loop (σ := Nat × Value × (List Bool)) (rngB 13 29 [5, 6]) (fun (ss : Nat × Value × (List Bool)) => [(6, .int .i64 ((ss.1 : Nat) : Int)), (5, ss.2.1)]) (fun (ss : Nat × Value × (List Bool)) (hh : Heap) => OwE encHd hh h.size 70 v hv ∧ OT encB hh h.size 4 hv rows ∧ OwE encB hh h.size 4 ss.2.1 ss.2.2 ∧ Djt hv ss.2.1 ∧ Ext h.size h hh ∧ (ss.1 ≤ p.length) ∧ (ss.2.2 = (List.range ss.1).map (flipF (pb p) x))) (fun (ss : Nat × Value × (List Bool)) => p.length - ss.1) (0, .slice none 0 0, []) ⟨rfl, rfl, trivial⟩ ⟨?_, ?_, ?_, (djt_nil _), hx0_1, ?_, ?_⟩ ?_
    · first | exact ho1 | (simpa using ho1)
    · first | exact hot1 | (simpa using hot1)
    · first | exact (owE_nil encB _ h.size 4) | (simpa using (owE_nil encB _ h.size 4))
    · try dsimp only
      omega
    · try dsimp only
      first | done | rfl
    rintro g2 ⟨y, w, l⟩ hh2 ⟨ho2, hot2, ho3, hdt1, hx0_2, hy, hl⟩ IH2
    dsimp only at *
    have hll : l.length = y := by rw [hl]; simp
    have hl_hot2 := hot2.1
    refine wi_seq <| wi_seq <| wi_reg rfl <| lx_move (.int .i64 ((y : Nat) : Int)) rfl rfl <| lx_move (vp) rfl rfl <| lx_len rfl Try.underlying23 hr_vp rfl <| lx_lssS rfl rfl rfl (fun c2 => ?_) (fun c2 => ?_)
    · refine lx_nil <| wi_true rfl <| wi_skip <| wi_seq <| wi_block <| wi_reg rfl <| lx_move (w) rfl rfl <| lx_move (vp) rfl rfl <| lx_move (.int .i64 ((y : Nat) : Int)) rfl rfl <| lx_ix (i := y) rfl eT23 hr_vp rfl rfl (by omega) <| lx_ld (i := y) (j := 0) ((gt hs y).v) rfl rfl fl70 (hr_vp.extS hx0_2) (by omega) rfl rfl <| lx_move (.int .i64 ((x : Nat) : Int)) rfl rfl <| lx_ix (i := x) rfl eT70 (ht_vp.2 y (by omega)) rfl rfl (by rw [hp2.2 y (by omega)]; omega) <| lx_ld (i := x) (j := 0) (.bool (gt (gt p y) x)) rfl rfl fl4 ((ht_vp.extS hx0_2).2 y (by omega)) (by rw [hp2.2 y (by omega)]; omega) rfl rfl <| lx_appendL (E := encB) (B := h.size) [gt (gt p y) x] [.bool (gt (gt p y) x)] rfl rfl (fun _ => rfl) rfl eT70 rfl rfl rfl rfl ho3 (fun _ => rfl) (by show l.length + 1 ≤ _; omega) (by show (l.length + 1) * 1 ≤ _; omega) hx0_2.size (fun _ _ => trivial) fun u1 v1 h1 ho4 hc1 hg1 => ?_
      have hx0_3 := hx0_2.trans (ho3.ext hc1 hx0_2.size)
      have ho5 := ho2.chg hc1 (dj_ty ho2 ho3 (by decide))
      have hot3 := hot2.chg hc1 hdt1
      refine lx_assign (v1) rfl rfl <| lx_nil <| wi_inBlock <| wi_reg rfl <| lx_move (.int .i64 ((y : Nat) : Int)) rfl rfl <| lx_add (((y + 1 : Nat) : Int)) rfl rfl rfl (by omega) (by omega) (by omega) <| lx_assign (.int .i64 ((y + 1 : Nat) : Int)) rfl rfl <| lx_nil <| ?_
      -- L2.1
      refine IH2 _ _ (y + 1, v1, l ++ [gt (gt p y) x]) (agree_ups rfl agree_self) ⟨rfl, rfl, trivial⟩ ⟨?_, ?_, ?_, (djt_app hdt1 hot2 hg1), hx0_3, ?_, ?_⟩ ?_
      · first | exact ho5 | (simpa using ho5)
      · first | exact hot3 | (simpa using hot3)
      · first | exact ho4 | (simpa using ho4)
      · try dsimp only
        omega
      · try dsimp only
        rw [hl, List.range_succ, List.map_append]; rfl
      · first | omega | (dsimp only; omega)
    · have hot4 : OT encB hh2 h.size 4 (hv ++ [hdrOf w]) (rows ++ [l]) := OT.snoc hot2 ho3 hdt1
      refine lx_nil <| wi_false rfl <| wi_exit rfl <| wi_reg rfl <| lx_move (v) rfl rfl <| lx_move (w) rfl rfl <| lx_appendL (E := encHd) (B := h.size) [hdrOf w] [w] rfl rfl (fun _ => rfl) rfl eT23 rfl rfl (hdr_cells1 ho3.rd) rfl ho2 (fun _ => rfl) (by show hv.length + 1 ≤ _; omega) (by show (hv.length + 1) * 24 ≤ _; omega) hx0_2.size (fun _ _ => trivial) fun u2 v2 h2 ho6 hc2 hg2 => ?_
      have hx0_4 := hx0_2.trans (ho2.ext hc2 hx0_2.size)
      have hot5 : OT encB h2 h.size 4 (hv ++ [hdrOf w]) (rows ++ [l]) := hot4.chg hc2 (djt_ty hot4 ho2 (by decide))
      have hl_hot5 := hot5.1
      refine lx_assign (v2) rfl rfl <| lx_nil <| wi_inBlock <| wi_reg rfl <| lx_move (.int .i64 ((x : Nat) : Int)) rfl rfl <| lx_add (((x + 1 : Nat) : Int)) rfl rfl rfl (by omega) (by omega) (by omega) <| lx_assign (.int .i64 ((x + 1 : Nat) : Int)) rfl rfl <| lx_nil <| ?_
      -- L0.1
      refine IH1 _ _ (x + 1, v2, hv ++ [hdrOf w], rows ++ [l]) (agree_ups rfl (agree_mix (rngB_sub (by decide) (by decide) rfl) (agree_ups rfl agree_self))) ⟨rfl, rfl, trivial⟩ ⟨?_, ?_, hx0_4, ?_, ?_⟩ ?_
      · first | exact ho6 | (simpa using ho6)
      · first | exact hot5 | (simpa using hot5)
      · try dsimp only
        omega
      · try dsimp only
        rw [hrw, List.range_succ, List.map_append, hl, show y = p.length from by omega]; rfl
      · first | omega | (dsimp only; omega)
  · refine lx_nil <| wi_false rfl <| wi_exit rfl <| wi_seq <| wi_reg rfl <| lx_move (v) rfl rfl <| lx_assign (v) rfl rfl <| lx_nil <| ?_
    -- R1
    refine wi_ret ⟨v, (res_one rfl rfl), ⟨v, hv, rfl, ?_, ?_, hx0_1⟩⟩
    · exact ho1
    · rw [show tabF p.length (flipF (pb p)) = rows from by rw [hrw, show x = p.length from by omega]; rfl]; exact hot1

set_option maxRecDepth 10000 in
theorem join_spec (h : Heap) (vp : Value) (hs : List Hdr) (p : List (List Bool)) (x : Nat) (y : Nat) (hr_vp : RdE encHd h vp hs) (ht_vp : RT encB h hs p) (hp1 : p.length ≤ 12) (hp2 : Sq p p.length) (hp3 : x < p.length) (hp4 : y < p.length) : Fx Try.prog 88 [vp, .int .i64 ((x : Nat) : Int), .int .i64 ((y : Nat) : Int)] h (fun v h' => v = .int .i64 (joinF p.length (pb p) x y) ∧ h = h') := by
  have hl_vp := ht_vp.1
  refine fx_intro (n := 70) [(0, vp), (1, .int .i64 ((x : Nat) : Int)), (2, .int .i64 ((y : Nat) : Int))] Try.func88 rfl rfl (by simp) ⟨rfl, rfl, rfl, trivial⟩ fun g0 => ?_
  refine wi_seq <| wi_reg rfl <| lx_assign (.int .i64 0) rfl rfl <| lx_nil <| wi_seq <| wi_seq <| wi_reg rfl <| lx_assign (.int .i64 0) rfl rfl <| lx_nil <| wi_block <| ?_
  refine wi_loop (σ := Nat) (rngB 6 70 []) (fun (z : Nat) => [(7, .int .i64 ((z : Nat) : Int))]) (fun (z : Nat) (hh : Heap) => h = hh ∧ (z ≤ p.length) ∧ (∀ i, i < z → jnB p.length (pb p) x y i = false)) (fun (z : Nat) => p.length - z) 0 ⟨rfl, trivial⟩ ⟨rfl, ?_, ?_⟩ ?_
  · try dsimp only
    omega
  · try dsimp only
    intro i hi; omega
  rintro g1 z hh1 ⟨rfl, hz, ha⟩ IH1
  refine wi_seq <| wi_seq <| wi_reg rfl <| lx_move (.int .i64 ((z : Nat) : Int)) rfl rfl <| lx_move (vp) rfl rfl <| lx_len rfl Try.underlying23 hr_vp rfl <| lx_lssS rfl rfl rfl (fun c1 => ?_) (fun c1 => ?_)
  · refine lx_nil <| wi_true rfl <| wi_skip <| wi_seq <| wi_block <| wi_seq <| wi_reg rfl <| lx_move (vp) rfl rfl <| lx_move (.int .i64 ((x : Nat) : Int)) rfl rfl <| lx_ix (i := x) rfl eT23 hr_vp rfl rfl (by omega) <| lx_ld (i := x) (j := 0) ((gt hs x).v) rfl rfl fl70 hr_vp (by omega) rfl rfl <| lx_move (.int .i64 ((z : Nat) : Int)) rfl rfl <| lx_ix (i := z) rfl eT70 (ht_vp.2 x (by omega)) rfl rfl (by rw [hp2.2 x (by omega)]; omega) <| lx_ld (i := z) (j := 0) (.bool (gt (gt p x) z)) rfl rfl fl4 (ht_vp.2 x (by omega)) (by rw [hp2.2 x (by omega)]; omega) rfl rfl <| lx_move (.bool (gt (gt p x) z)) rfl rfl <| ?_
    cases c2 : (gt (gt p x) z)
    · refine lx_skip rfl <| lx_skip rfl <| lx_skip rfl <| lx_skip rfl <| lx_skip rfl <| lx_skip rfl <| lx_skip rfl <| lx_pick false (.bool false) rfl rfl rfl <| lx_assign (.bool false) rfl rfl <| lx_nil <| wi_seq <| wi_seq <| wi_reg rfl <| lx_assign (.int .i64 0) rfl rfl <| lx_nil <| wi_block <| ?_
      refine wi_loop (σ := Nat × Bool) (rngB 32 68 [8, 9]) (fun (ss : Nat × Bool) => [(9, .int .i64 ((ss.1 : Nat) : Int)), (8, .bool ss.2)]) (fun (ss : Nat × Bool) (hh : Heap) => h = hh ∧ (ss.1 ≤ p.length) ∧ (ss.2 = (pb p x z && pb p y z && (List.range ss.1).all fun q => !pb p x q || !pb p y q || pb p z q))) (fun (ss : Nat × Bool) => p.length - ss.1) (0, false) ⟨rfl, rfl, trivial⟩ ⟨rfl, ?_, ?_⟩ ?_
      · try dsimp only
        omega
      · try dsimp only
        first
        | (rw [show pb p x z = true from by assumption]; simp; done)
        | (rw [show pb p x z = false from by assumption]; rfl)
      rintro g2 ⟨w, b⟩ hh2 ⟨rfl, hw, hb⟩ IH2
      dsimp only at *
      refine wi_seq <| wi_seq <| wi_reg rfl <| lx_move (.int .i64 ((w : Nat) : Int)) rfl rfl <| lx_move (vp) rfl rfl <| lx_len rfl Try.underlying23 hr_vp rfl <| lx_lssS rfl rfl rfl (fun c3 => ?_) (fun c3 => ?_)
      · refine lx_move (.bool true) rfl rfl <| lx_move (.bool b) rfl rfl <| lx_pick true (.bool b) rfl rfl rfl <| lx_nil <| wi_condS (t := b) rfl (fun c4 => ?_) (fun c4 => ?_)
        · refine wi_skip <| wi_seq <| wi_block <| wi_reg rfl <| lx_move (vp) rfl rfl <| lx_move (.int .i64 ((x : Nat) : Int)) rfl rfl <| lx_ix (i := x) rfl eT23 hr_vp rfl rfl (by omega) <| lx_ld (i := x) (j := 0) ((gt hs x).v) rfl rfl fl70 hr_vp (by omega) rfl rfl <| lx_move (.int .i64 ((w : Nat) : Int)) rfl rfl <| lx_ix (i := w) rfl eT70 (ht_vp.2 x (by omega)) rfl rfl (by rw [hp2.2 x (by omega)]; omega) <| lx_ld (i := w) (j := 0) (.bool (gt (gt p x) w)) rfl rfl fl4 (ht_vp.2 x (by omega)) (by rw [hp2.2 x (by omega)]; omega) rfl rfl <| lx_not rfl rfl <| lx_move (.bool (!(gt (gt p x) w))) rfl rfl <| ?_
          cases c5 : (gt (gt p x) w)
          · refine lx_skip rfl <| lx_skip rfl <| lx_skip rfl <| lx_skip rfl <| lx_skip rfl <| lx_skip rfl <| lx_skip rfl <| lx_skip rfl <| lx_pick true (.bool true) rfl rfl rfl <| lx_move (.bool true) rfl rfl <| lx_skip rfl <| lx_skip rfl <| lx_skip rfl <| lx_skip rfl <| lx_skip rfl <| lx_skip rfl <| lx_skip rfl <| lx_pick true (.bool true) rfl rfl rfl <| lx_assign (.bool true) rfl rfl <| lx_nil <| wi_inBlock <| wi_reg rfl <| lx_move (.int .i64 ((w : Nat) : Int)) rfl rfl <| lx_add (((w + 1 : Nat) : Int)) rfl rfl rfl (by omega) (by omega) (by omega) <| lx_assign (.int .i64 ((w + 1 : Nat) : Int)) rfl rfl <| lx_nil <| ?_
            -- L2.1
            refine IH2 _ _ (w + 1, true) (agree_ups rfl agree_self) ⟨rfl, rfl, trivial⟩ ⟨rfl, ?_, ?_⟩ ?_
            · try dsimp only
              omega
            · try dsimp only
              rw [rall_succ, ← Bool.and_assoc, ← hb]
              show _ = (b && (!pb p x w || !pb p y w || pb p z w))
              rw [show b = true from by assumption]
              first
              | (rw [show pb p x w = false from by assumption]; rfl)
              | (rw [show pb p x w = true from by assumption, show pb p y w = false from by assumption]; rfl)
              | (rw [show pb p x w = true from by assumption, show pb p y w = true from by assumption]; simp; done)
            · first | omega | (dsimp only; omega)
          · refine lx_move (vp) rfl rfl <| lx_move (.int .i64 ((y : Nat) : Int)) rfl rfl <| lx_ix (i := y) rfl eT23 hr_vp rfl rfl (by omega) <| lx_ld (i := y) (j := 0) ((gt hs y).v) rfl rfl fl70 hr_vp (by omega) rfl rfl <| lx_move (.int .i64 ((w : Nat) : Int)) rfl rfl <| lx_ix (i := w) rfl eT70 (ht_vp.2 y (by omega)) rfl rfl (by rw [hp2.2 y (by omega)]; omega) <| lx_ld (i := w) (j := 0) (.bool (gt (gt p y) w)) rfl rfl fl4 (ht_vp.2 y (by omega)) (by rw [hp2.2 y (by omega)]; omega) rfl rfl <| lx_not rfl rfl <| lx_pick false (.bool (!(gt (gt p y) w))) rfl rfl rfl <| lx_move (.bool (!(gt (gt p y) w))) rfl rfl <| ?_
            cases c6 : (gt (gt p y) w)
            · refine lx_skip rfl <| lx_skip rfl <| lx_skip rfl <| lx_skip rfl <| lx_skip rfl <| lx_skip rfl <| lx_skip rfl <| lx_pick true (.bool true) rfl rfl rfl <| lx_assign (.bool true) rfl rfl <| lx_nil <| wi_inBlock <| wi_reg rfl <| lx_move (.int .i64 ((w : Nat) : Int)) rfl rfl <| lx_add (((w + 1 : Nat) : Int)) rfl rfl rfl (by omega) (by omega) (by omega) <| lx_assign (.int .i64 ((w + 1 : Nat) : Int)) rfl rfl <| lx_nil <| ?_
              -- L2.2
              refine IH2 _ _ (w + 1, true) (agree_ups rfl agree_self) ⟨rfl, rfl, trivial⟩ ⟨rfl, ?_, ?_⟩ ?_
              · try dsimp only
                omega
              · try dsimp only
                rw [rall_succ, ← Bool.and_assoc, ← hb]
                show _ = (b && (!pb p x w || !pb p y w || pb p z w))
                rw [show b = true from by assumption]
                first
                | (rw [show pb p x w = false from by assumption]; rfl)
                | (rw [show pb p x w = true from by assumption, show pb p y w = false from by assumption]; rfl)
                | (rw [show pb p x w = true from by assumption, show pb p y w = true from by assumption]; simp; done)
              · first | omega | (dsimp only; omega)
            · refine lx_move (vp) rfl rfl <| lx_move (.int .i64 ((z : Nat) : Int)) rfl rfl <| lx_ix (i := z) rfl eT23 hr_vp rfl rfl (by omega) <| lx_ld (i := z) (j := 0) ((gt hs z).v) rfl rfl fl70 hr_vp (by omega) rfl rfl <| lx_move (.int .i64 ((w : Nat) : Int)) rfl rfl <| lx_ix (i := w) rfl eT70 (ht_vp.2 z (by omega)) rfl rfl (by rw [hp2.2 z (by omega)]; omega) <| lx_ld (i := w) (j := 0) (.bool (gt (gt p z) w)) rfl rfl fl4 (ht_vp.2 z (by omega)) (by rw [hp2.2 z (by omega)]; omega) rfl rfl <| lx_pick false (.bool (gt (gt p z) w)) rfl rfl rfl <| lx_assign (.bool (gt (gt p z) w)) rfl rfl <| lx_nil <| wi_inBlock <| wi_reg rfl <| lx_move (.int .i64 ((w : Nat) : Int)) rfl rfl <| lx_add (((w + 1 : Nat) : Int)) rfl rfl rfl (by omega) (by omega) (by omega) <| lx_assign (.int .i64 ((w + 1 : Nat) : Int)) rfl rfl <| lx_nil <| ?_
              -- L2.3
              refine IH2 _ _ (w + 1, gt (gt p z) w) (agree_ups rfl agree_self) ⟨rfl, rfl, trivial⟩ ⟨rfl, ?_, ?_⟩ ?_
              · try dsimp only
                omega
              · try dsimp only
                rw [rall_succ, ← Bool.and_assoc, ← hb]
                show _ = (b && (!pb p x w || !pb p y w || pb p z w))
                rw [show b = true from by assumption]
                first
                | (rw [show pb p x w = false from by assumption]; rfl)
                | (rw [show pb p x w = true from by assumption, show pb p y w = false from by assumption]; rfl)
                | (rw [show pb p x w = true from by assumption, show pb p y w = true from by assumption]; simp; done)
              · first | omega | (dsimp only; omega)
        · refine wi_exit rfl <| wi_seq <| wi_reg rfl <| ?_
          have hfull : b = jnB p.length (pb p) x y z := by
            rcases Nat.lt_or_ge w p.length with h8 | h8
            · have hbf : b = false := by first | assumption | omega
              rw [hbf]
              symm
              rw [Bool.eq_false_iff]
              intro h9
              obtain ⟨h91, h92, h93⟩ := jnB_iff.1 h9
              have h97 : b = true := by
                rw [hb, h91, h92, Bool.true_and, Bool.true_and, rall_iff]
                intro q hq
                have h94 := h93 q (by omega)
                cases h95 : pb p x q
                · rfl
                · cases h96 : pb p y q
                  · rfl
                  · rw [h94 h95 h96]; rfl
              rw [hbf] at h97; cases h97
            · rw [hb, show w = p.length from by omega]; rfl
          refine lx_move (.bool b) rfl rfl <| lx_nil <| wi_condS (t := b) rfl (fun c7 => ?_) (fun c7 => ?_)
          · refine wi_seq <| wi_reg rfl <| lx_move (.int .i64 ((z : Nat) : Int)) rfl rfl <| lx_assign (.int .i64 ((z : Nat) : Int)) rfl rfl <| lx_nil <| ?_
            -- R1
            refine wi_ret ⟨.int .i64 ((z : Nat) : Int), (res_one rfl rfl), ⟨?_, rfl⟩⟩
            · congr 1
              first
              | exact (firstF_none fun i hi => ha i (by omega)).symm
              | exact (firstF_some (z := z) (by omega) (by rw [← hfull]; assumption) ha).symm
          · refine wi_skip <| wi_inBlock <| wi_reg rfl <| lx_move (.int .i64 ((z : Nat) : Int)) rfl rfl <| lx_add (((z + 1 : Nat) : Int)) rfl rfl rfl (by omega) (by omega) (by omega) <| lx_assign (.int .i64 ((z + 1 : Nat) : Int)) rfl rfl <| lx_nil <| ?_
            -- L0.1
            refine IH1 _ _ (z + 1) (agree_ups rfl (agree_mix (rngB_sub (by decide) (by decide) rfl) (agree_ups rfl agree_self))) ⟨rfl, trivial⟩ ⟨rfl, ?_, ?_⟩ ?_
            · try dsimp only
              omega
            · try dsimp only
              intro i hi
              by_cases e : i = z
              · subst e; rw [← hfull]; assumption
              · exact ha i (by omega)
            · first | omega | (dsimp only; omega)
      · refine lx_move (.bool false) rfl rfl <| lx_skip rfl <| lx_pick false (.bool false) rfl rfl rfl <| lx_nil <| wi_false rfl <| wi_exit rfl <| wi_seq <| wi_reg rfl <| ?_
        have hfull : b = jnB p.length (pb p) x y z := by
          rcases Nat.lt_or_ge w p.length with h8 | h8
          · have hbf : b = false := by first | assumption | omega
            rw [hbf]
            symm
            rw [Bool.eq_false_iff]
            intro h9
            obtain ⟨h91, h92, h93⟩ := jnB_iff.1 h9
            have h97 : b = true := by
              rw [hb, h91, h92, Bool.true_and, Bool.true_and, rall_iff]
              intro q hq
              have h94 := h93 q (by omega)
              cases h95 : pb p x q
              · rfl
              · cases h96 : pb p y q
                · rfl
                · rw [h94 h95 h96]; rfl
            rw [hbf] at h97; cases h97
          · rw [hb, show w = p.length from by omega]; rfl
        refine lx_move (.bool b) rfl rfl <| lx_nil <| wi_condS (t := b) rfl (fun c8 => ?_) (fun c8 => ?_)
        · refine wi_seq <| wi_reg rfl <| lx_move (.int .i64 ((z : Nat) : Int)) rfl rfl <| lx_assign (.int .i64 ((z : Nat) : Int)) rfl rfl <| lx_nil <| ?_
          -- R2
          refine wi_ret ⟨.int .i64 ((z : Nat) : Int), (res_one rfl rfl), ⟨?_, rfl⟩⟩
          · congr 1
            first
            | exact (firstF_none fun i hi => ha i (by omega)).symm
            | exact (firstF_some (z := z) (by omega) (by rw [← hfull]; assumption) ha).symm
        · refine wi_skip <| wi_inBlock <| wi_reg rfl <| lx_move (.int .i64 ((z : Nat) : Int)) rfl rfl <| lx_add (((z + 1 : Nat) : Int)) rfl rfl rfl (by omega) (by omega) (by omega) <| lx_assign (.int .i64 ((z + 1 : Nat) : Int)) rfl rfl <| lx_nil <| ?_
          -- L0.2
          refine IH1 _ _ (z + 1) (agree_ups rfl (agree_mix (rngB_sub (by decide) (by decide) rfl) (agree_ups rfl agree_self))) ⟨rfl, trivial⟩ ⟨rfl, ?_, ?_⟩ ?_
          · try dsimp only
            omega
          · try dsimp only
            intro i hi
            by_cases e : i = z
            · subst e; rw [← hfull]; assumption
            · exact ha i (by omega)
          · first | omega | (dsimp only; omega)
    · refine lx_move (vp) rfl rfl <| lx_move (.int .i64 ((y : Nat) : Int)) rfl rfl <| lx_ix (i := y) rfl eT23 hr_vp rfl rfl (by omega) <| lx_ld (i := y) (j := 0) ((gt hs y).v) rfl rfl fl70 hr_vp (by omega) rfl rfl <| lx_move (.int .i64 ((z : Nat) : Int)) rfl rfl <| lx_ix (i := z) rfl eT70 (ht_vp.2 y (by omega)) rfl rfl (by rw [hp2.2 y (by omega)]; omega) <| lx_ld (i := z) (j := 0) (.bool (gt (gt p y) z)) rfl rfl fl4 (ht_vp.2 y (by omega)) (by rw [hp2.2 y (by omega)]; omega) rfl rfl <| lx_pick true (.bool (gt (gt p y) z)) rfl rfl rfl <| lx_assign (.bool (gt (gt p y) z)) rfl rfl <| lx_nil <| wi_seq <| wi_seq <| wi_reg rfl <| lx_assign (.int .i64 0) rfl rfl <| lx_nil <| wi_block <| ?_
      refine wi_loop (σ := Nat × Bool) (rngB 32 68 [8, 9]) (fun (ss : Nat × Bool) => [(9, .int .i64 ((ss.1 : Nat) : Int)), (8, .bool ss.2)]) (fun (ss : Nat × Bool) (hh : Heap) => h = hh ∧ (ss.1 ≤ p.length) ∧ (ss.2 = (pb p x z && pb p y z && (List.range ss.1).all fun q => !pb p x q || !pb p y q || pb p z q))) (fun (ss : Nat × Bool) => p.length - ss.1) (0, gt (gt p y) z) ⟨rfl, rfl, trivial⟩ ⟨rfl, ?_, ?_⟩ ?_
      · try dsimp only
        omega
      · try dsimp only
        first
        | (rw [show pb p x z = true from by assumption]; simp; done)
        | (rw [show pb p x z = false from by assumption]; rfl)
      rintro g3 ⟨w, b⟩ hh3 ⟨rfl, hw, hb⟩ IH3
      dsimp only at *
      refine wi_seq <| wi_seq <| wi_reg rfl <| lx_move (.int .i64 ((w : Nat) : Int)) rfl rfl <| lx_move (vp) rfl rfl <| lx_len rfl Try.underlying23 hr_vp rfl <| lx_lssS rfl rfl rfl (fun c9 => ?_) (fun c9 => ?_)
      · refine lx_move (.bool true) rfl rfl <| lx_move (.bool b) rfl rfl <| lx_pick true (.bool b) rfl rfl rfl <| lx_nil <| wi_condS (t := b) rfl (fun c10 => ?_) (fun c10 => ?_)
        · refine wi_skip <| wi_seq <| wi_block <| wi_reg rfl <| lx_move (vp) rfl rfl <| lx_move (.int .i64 ((x : Nat) : Int)) rfl rfl <| lx_ix (i := x) rfl eT23 hr_vp rfl rfl (by omega) <| lx_ld (i := x) (j := 0) ((gt hs x).v) rfl rfl fl70 hr_vp (by omega) rfl rfl <| lx_move (.int .i64 ((w : Nat) : Int)) rfl rfl <| lx_ix (i := w) rfl eT70 (ht_vp.2 x (by omega)) rfl rfl (by rw [hp2.2 x (by omega)]; omega) <| lx_ld (i := w) (j := 0) (.bool (gt (gt p x) w)) rfl rfl fl4 (ht_vp.2 x (by omega)) (by rw [hp2.2 x (by omega)]; omega) rfl rfl <| lx_not rfl rfl <| lx_move (.bool (!(gt (gt p x) w))) rfl rfl <| ?_
          cases c11 : (gt (gt p x) w)
          · refine lx_skip rfl <| lx_skip rfl <| lx_skip rfl <| lx_skip rfl <| lx_skip rfl <| lx_skip rfl <| lx_skip rfl <| lx_skip rfl <| lx_pick true (.bool true) rfl rfl rfl <| lx_move (.bool true) rfl rfl <| lx_skip rfl <| lx_skip rfl <| lx_skip rfl <| lx_skip rfl <| lx_skip rfl <| lx_skip rfl <| lx_skip rfl <| lx_pick true (.bool true) rfl rfl rfl <| lx_assign (.bool true) rfl rfl <| lx_nil <| wi_inBlock <| wi_reg rfl <| lx_move (.int .i64 ((w : Nat) : Int)) rfl rfl <| lx_add (((w + 1 : Nat) : Int)) rfl rfl rfl (by omega) (by omega) (by omega) <| lx_assign (.int .i64 ((w + 1 : Nat) : Int)) rfl rfl <| lx_nil <| ?_
            -- L2.1
            refine IH3 _ _ (w + 1, true) (agree_ups rfl agree_self) ⟨rfl, rfl, trivial⟩ ⟨rfl, ?_, ?_⟩ ?_
            · try dsimp only
              omega
            · try dsimp only
              rw [rall_succ, ← Bool.and_assoc, ← hb]
              show _ = (b && (!pb p x w || !pb p y w || pb p z w))
              rw [show b = true from by assumption]
              first
              | (rw [show pb p x w = false from by assumption]; rfl)
              | (rw [show pb p x w = true from by assumption, show pb p y w = false from by assumption]; rfl)
              | (rw [show pb p x w = true from by assumption, show pb p y w = true from by assumption]; simp; done)
            · first | omega | (dsimp only; omega)
          · refine lx_move (vp) rfl rfl <| lx_move (.int .i64 ((y : Nat) : Int)) rfl rfl <| lx_ix (i := y) rfl eT23 hr_vp rfl rfl (by omega) <| lx_ld (i := y) (j := 0) ((gt hs y).v) rfl rfl fl70 hr_vp (by omega) rfl rfl <| lx_move (.int .i64 ((w : Nat) : Int)) rfl rfl <| lx_ix (i := w) rfl eT70 (ht_vp.2 y (by omega)) rfl rfl (by rw [hp2.2 y (by omega)]; omega) <| lx_ld (i := w) (j := 0) (.bool (gt (gt p y) w)) rfl rfl fl4 (ht_vp.2 y (by omega)) (by rw [hp2.2 y (by omega)]; omega) rfl rfl <| lx_not rfl rfl <| lx_pick false (.bool (!(gt (gt p y) w))) rfl rfl rfl <| lx_move (.bool (!(gt (gt p y) w))) rfl rfl <| ?_
            cases c12 : (gt (gt p y) w)
            · refine lx_skip rfl <| lx_skip rfl <| lx_skip rfl <| lx_skip rfl <| lx_skip rfl <| lx_skip rfl <| lx_skip rfl <| lx_pick true (.bool true) rfl rfl rfl <| lx_assign (.bool true) rfl rfl <| lx_nil <| wi_inBlock <| wi_reg rfl <| lx_move (.int .i64 ((w : Nat) : Int)) rfl rfl <| lx_add (((w + 1 : Nat) : Int)) rfl rfl rfl (by omega) (by omega) (by omega) <| lx_assign (.int .i64 ((w + 1 : Nat) : Int)) rfl rfl <| lx_nil <| ?_
              -- L2.2
              refine IH3 _ _ (w + 1, true) (agree_ups rfl agree_self) ⟨rfl, rfl, trivial⟩ ⟨rfl, ?_, ?_⟩ ?_
              · try dsimp only
                omega
              · try dsimp only
                rw [rall_succ, ← Bool.and_assoc, ← hb]
                show _ = (b && (!pb p x w || !pb p y w || pb p z w))
                rw [show b = true from by assumption]
                first
                | (rw [show pb p x w = false from by assumption]; rfl)
                | (rw [show pb p x w = true from by assumption, show pb p y w = false from by assumption]; rfl)
                | (rw [show pb p x w = true from by assumption, show pb p y w = true from by assumption]; simp; done)
              · first | omega | (dsimp only; omega)
            · refine lx_move (vp) rfl rfl <| lx_move (.int .i64 ((z : Nat) : Int)) rfl rfl <| lx_ix (i := z) rfl eT23 hr_vp rfl rfl (by omega) <| lx_ld (i := z) (j := 0) ((gt hs z).v) rfl rfl fl70 hr_vp (by omega) rfl rfl <| lx_move (.int .i64 ((w : Nat) : Int)) rfl rfl <| lx_ix (i := w) rfl eT70 (ht_vp.2 z (by omega)) rfl rfl (by rw [hp2.2 z (by omega)]; omega) <| lx_ld (i := w) (j := 0) (.bool (gt (gt p z) w)) rfl rfl fl4 (ht_vp.2 z (by omega)) (by rw [hp2.2 z (by omega)]; omega) rfl rfl <| lx_pick false (.bool (gt (gt p z) w)) rfl rfl rfl <| lx_assign (.bool (gt (gt p z) w)) rfl rfl <| lx_nil <| wi_inBlock <| wi_reg rfl <| lx_move (.int .i64 ((w : Nat) : Int)) rfl rfl <| lx_add (((w + 1 : Nat) : Int)) rfl rfl rfl (by omega) (by omega) (by omega) <| lx_assign (.int .i64 ((w + 1 : Nat) : Int)) rfl rfl <| lx_nil <| ?_
              -- L2.3
              refine IH3 _ _ (w + 1, gt (gt p z) w) (agree_ups rfl agree_self) ⟨rfl, rfl, trivial⟩ ⟨rfl, ?_, ?_⟩ ?_
              · try dsimp only
                omega
              · try dsimp only
                rw [rall_succ, ← Bool.and_assoc, ← hb]
                show _ = (b && (!pb p x w || !pb p y w || pb p z w))
                rw [show b = true from by assumption]
                first
                | (rw [show pb p x w = false from by assumption]; rfl)
                | (rw [show pb p x w = true from by assumption, show pb p y w = false from by assumption]; rfl)
                | (rw [show pb p x w = true from by assumption, show pb p y w = true from by assumption]; simp; done)
              · first | omega | (dsimp only; omega)
        · refine wi_exit rfl <| wi_seq <| wi_reg rfl <| ?_
          have hfull : b = jnB p.length (pb p) x y z := by
            rcases Nat.lt_or_ge w p.length with h8 | h8
            · have hbf : b = false := by first | assumption | omega
              rw [hbf]
              symm
              rw [Bool.eq_false_iff]
              intro h9
              obtain ⟨h91, h92, h93⟩ := jnB_iff.1 h9
              have h97 : b = true := by
                rw [hb, h91, h92, Bool.true_and, Bool.true_and, rall_iff]
                intro q hq
                have h94 := h93 q (by omega)
                cases h95 : pb p x q
                · rfl
                · cases h96 : pb p y q
                  · rfl
                  · rw [h94 h95 h96]; rfl
              rw [hbf] at h97; cases h97
            · rw [hb, show w = p.length from by omega]; rfl
          refine lx_move (.bool b) rfl rfl <| lx_nil <| wi_condS (t := b) rfl (fun c13 => ?_) (fun c13 => ?_)
          · refine wi_seq <| wi_reg rfl <| lx_move (.int .i64 ((z : Nat) : Int)) rfl rfl <| lx_assign (.int .i64 ((z : Nat) : Int)) rfl rfl <| lx_nil <| ?_
            -- R3
            refine wi_ret ⟨.int .i64 ((z : Nat) : Int), (res_one rfl rfl), ⟨?_, rfl⟩⟩
            · congr 1
              first
              | exact (firstF_none fun i hi => ha i (by omega)).symm
              | exact (firstF_some (z := z) (by omega) (by rw [← hfull]; assumption) ha).symm
          · refine wi_skip <| wi_inBlock <| wi_reg rfl <| lx_move (.int .i64 ((z : Nat) : Int)) rfl rfl <| lx_add (((z + 1 : Nat) : Int)) rfl rfl rfl (by omega) (by omega) (by omega) <| lx_assign (.int .i64 ((z + 1 : Nat) : Int)) rfl rfl <| lx_nil <| ?_
            -- L0.3
            refine IH1 _ _ (z + 1) (agree_ups rfl (agree_mix (rngB_sub (by decide) (by decide) rfl) (agree_ups rfl agree_self))) ⟨rfl, trivial⟩ ⟨rfl, ?_, ?_⟩ ?_
            · try dsimp only
              omega
            · try dsimp only
              intro i hi
              by_cases e : i = z
              · subst e; rw [← hfull]; assumption
              · exact ha i (by omega)
            · first | omega | (dsimp only; omega)
      · refine lx_move (.bool false) rfl rfl <| lx_skip rfl <| lx_pick false (.bool false) rfl rfl rfl <| lx_nil <| wi_false rfl <| wi_exit rfl <| wi_seq <| wi_reg rfl <| ?_
        have hfull : b = jnB p.length (pb p) x y z := by
          rcases Nat.lt_or_ge w p.length with h8 | h8
          · have hbf : b = false := by first | assumption | omega
            rw [hbf]
            symm
            rw [Bool.eq_false_iff]
            intro h9
            obtain ⟨h91, h92, h93⟩ := jnB_iff.1 h9
            have h97 : b = true := by
              rw [hb, h91, h92, Bool.true_and, Bool.true_and, rall_iff]
              intro q hq
              have h94 := h93 q (by omega)
              cases h95 : pb p x q
              · rfl
              · cases h96 : pb p y q
                · rfl
                · rw [h94 h95 h96]; rfl
            rw [hbf] at h97; cases h97
          · rw [hb, show w = p.length from by omega]; rfl
        refine lx_move (.bool b) rfl rfl <| lx_nil <| wi_condS (t := b) rfl (fun c14 => ?_) (fun c14 => ?_)
        · refine wi_seq <| wi_reg rfl <| lx_move (.int .i64 ((z : Nat) : Int)) rfl rfl <| lx_assign (.int .i64 ((z : Nat) : Int)) rfl rfl <| lx_nil <| ?_
          -- R4
          refine wi_ret ⟨.int .i64 ((z : Nat) : Int), (res_one rfl rfl), ⟨?_, rfl⟩⟩
          · congr 1
            first
            | exact (firstF_none fun i hi => ha i (by omega)).symm
            | exact (firstF_some (z := z) (by omega) (by rw [← hfull]; assumption) ha).symm
        · refine wi_skip <| wi_inBlock <| wi_reg rfl <| lx_move (.int .i64 ((z : Nat) : Int)) rfl rfl <| lx_add (((z + 1 : Nat) : Int)) rfl rfl rfl (by omega) (by omega) (by omega) <| lx_assign (.int .i64 ((z + 1 : Nat) : Int)) rfl rfl <| lx_nil <| ?_
          -- L0.4
          refine IH1 _ _ (z + 1) (agree_ups rfl (agree_mix (rngB_sub (by decide) (by decide) rfl) (agree_ups rfl agree_self))) ⟨rfl, trivial⟩ ⟨rfl, ?_, ?_⟩ ?_
          · try dsimp only
            omega
          · try dsimp only
            intro i hi
            by_cases e : i = z
            · subst e; rw [← hfull]; assumption
            · exact ha i (by omega)
          · first | omega | (dsimp only; omega)
  · refine lx_nil <| wi_false rfl <| wi_exit rfl <| wi_seq <| wi_reg rfl <| lx_assign (.int .i64 (-1)) rfl rfl <| lx_nil <| ?_
    -- R5
    refine wi_ret ⟨.int .i64 (-1), (res_one rfl rfl), ⟨?_, rfl⟩⟩
    · congr 1
      first
      | exact (firstF_none fun i hi => ha i (by omega)).symm
      | exact (firstF_some (z := z) (by omega) (by rw [← hfull]; assumption) ha).symm

set_option maxRecDepth 10000 in
theorem meet_spec (h : Heap) (vp : Value) (hs : List Hdr) (p : List (List Bool)) (x : Nat) (y : Nat) (hr_vp : RdE encHd h vp hs) (ht_vp : RT encB h hs p) (hp1 : p.length ≤ 12) (hp2 : Sq p p.length) (hp3 : x < p.length) (hp4 : y < p.length) : Fx Try.prog 91 [vp, .int .i64 ((x : Nat) : Int), .int .i64 ((y : Nat) : Int)] h (fun v h' => v = .int .i64 (meetF p.length (pb p) x y) ∧ Ext h.size h h') := by
  have hl_vp := ht_vp.1
  refine fx_intro (n := 12) [(0, vp), (1, .int .i64 ((x : Nat) : Int)), (2, .int .i64 ((y : Nat) : Int))] Try.func91 rfl rfl (by simp) ⟨rfl, rfl, rfl, trivial⟩ fun g0 => ?_
  refine wi_seq <| wi_reg rfl <| lx_assign (.int .i64 0) rfl rfl <| lx_nil <| wi_seq <| wi_reg rfl <| lx_move (vp) rfl rfl <| lx_call [vp] rfl rfl Try.call130 rfl (turned_spec h vp hs p hr_vp ht_vp (by omega) (by first | with_reducible assumption | omega)) (fun _ _ _ => trivial) ?_
  rintro vt h1 ⟨_, ht, rfl, ho1, hot1, hx1⟩
  have ho2 := ho1.base (Nat.le_refl h.size)
  have hot2 := hot1.base (Nat.le_refl h.size)
  have hl_hot2 := hot2.1
  refine lx_move (.int .i64 ((x : Nat) : Int)) rfl rfl <| lx_move (.int .i64 ((y : Nat) : Int)) rfl rfl <| lx_call [vt, .int .i64 ((x : Nat) : Int), .int .i64 ((y : Nat) : Int)] rfl rfl Try.call88 rfl (join_spec h1 vt ht (tabF p.length (flipF (pb p))) x y ho2.rd hot2.rt (by rw [tabF_length]; omega) (by rw [tabF_length]; exact tabF_sq _ _) (by rw [tabF_length]; omega) (by rw [tabF_length]; omega)) (fun _ _ _ => trivial) ?_
  rintro _ h2 ⟨rfl, rfl⟩
  refine lx_assign (.int .i64 (joinF (tabF p.length (flipF (pb p))).length (pb (tabF p.length (flipF (pb p)))) x y)) rfl rfl <| lx_nil <| ?_
  -- R1
  refine wi_ret ⟨.int .i64 (joinF (tabF p.length (flipF (pb p))).length (pb (tabF p.length (flipF (pb p)))) x y), (res_one rfl rfl), ⟨?_, hx1⟩⟩
  · rw [meet_turn _ hp3 hp4]

end Go.Proofs.Ytdokijbdnajhgaa
namespace Go.Proofs.Ytdokijbdnajhgaa
open Go Go.X

end Go.Proofs.Ytdokijbdnajhgaa
namespace Go.Proofs.Ytdokijbdnajhgaa
open Go Go.X

theorem jN_nat {n x y : Nat} {f : Nat → Nat → Bool} (ho : IsO n f) (hg : noGap n f) (hx : x < n) (hy : y < n) : gt (gt (tabI n (joinF n f)) x) y = ((jN n f x y : Nat) : Int) := by
  rw [gt_tabI hx, gt_mapR hy]; exact (jN_at ho hg hx hy).1
theorem tabI_row {n x : Nat} {g : Nat → Nat → Int} (hx : x < n) : (gt (tabI n g) x).length = n := by rw [gt_tabI hx, mapR_len]

end Go.Proofs.Ytdokijbdnajhgaa
namespace Go.Proofs.Ytdokijbdnajhgaa
open Go Go.X

/-- What is wrong with a list of numbers. -/
def numB (xs : List Int) : Bool := (List.range xs.length).all fun i => decide (-1000000000 ≤ gt xs i ∧ gt xs i ≤ 1000000000)
theorem numB_iff {xs : List Int} : numB xs = true ↔ ∀ i, i < xs.length → -1000000000 ≤ gt xs i ∧ gt xs i ≤ 1000000000 := by
  unfold numB
  rw [rall_iff]
  exact ⟨fun h i hi => of_decide_eq_true (h i hi), fun h i hi => decide_eq_true (h i hi)⟩
def lstE (n : Nat) (xs : List Int) : Int := if xs.length = n then (if numB xs then 0 else 1) else 7
def lisE (p : List (List Bool)) (xs : List Int) : Int := if chkT p = 0 then lstE p.length xs else chkT p

set_option maxRecDepth 10000 in
theorem lst1_spec (h : Heap) (x : Int) : Fx Try.prog 141 [.int .i64 x] h (fun v h' => v = .bool (decide (¬ (-1000000000 ≤ x ∧ x ≤ 1000000000))) ∧ h = h') := by
  refine fx_intro (n := 9) [(0, .int .i64 x)] Try.func141 rfl rfl (by simp) ⟨rfl, trivial⟩ fun g0 => ?_
  refine wi_seq <| wi_reg rfl <| lx_assign (.bool false) rfl rfl <| lx_nil <| wi_seq <| wi_reg rfl <| lx_move (.int .i64 x) rfl rfl <| lx_lssS rfl rfl rfl (fun c1 => ?_) (fun c1 => ?_)
  · refine lx_move (.bool true) rfl rfl <| lx_skip rfl <| lx_skip rfl <| lx_pick true (.bool true) rfl rfl rfl <| lx_assign (.bool true) rfl rfl <| lx_nil <| ?_
    -- R1
    refine wi_ret ⟨.bool true, (res_one rfl rfl), ⟨?_, rfl⟩⟩
    · congr 1
      first
      | exact (decide_eq_true (by omega)).symm
      | exact (decide_eq_false (by omega)).symm
  · refine lx_move (.bool false) rfl rfl <| lx_move (.int .i64 x) rfl rfl <| lx_gtrS rfl rfl rfl (fun c2 => ?_) (fun c2 => ?_)
    · refine lx_pick false (.bool true) rfl rfl rfl <| lx_assign (.bool true) rfl rfl <| lx_nil <| ?_
      -- R2
      refine wi_ret ⟨.bool true, (res_one rfl rfl), ⟨?_, rfl⟩⟩
      · congr 1
        first
        | exact (decide_eq_true (by omega)).symm
        | exact (decide_eq_false (by omega)).symm
    · refine lx_pick false (.bool false) rfl rfl rfl <| lx_assign (.bool false) rfl rfl <| lx_nil <| ?_
      -- R3
      refine wi_ret ⟨.bool false, (res_one rfl rfl), ⟨?_, rfl⟩⟩
      · congr 1
        first
        | exact (decide_eq_true (by omega)).symm
        | exact (decide_eq_false (by omega)).symm

set_option maxRecDepth 10000 in
theorem lindex_spec (h : Heap) (vl : Value) (xs : List Int) (hr_vl : RdE encI h vl xs) (hp1 : xs.length ≤ 1000000) : Fx Try.prog 171 [vl, .func (.func 141) #[] #[]] h (fun v h' => ∃ (r : Int), v = .int .i64 r ∧ ((r = -1 ∧ ∀ i, i < xs.length → -1000000000 ≤ gt xs i ∧ gt xs i ≤ 1000000000) ∨ (0 ≤ r ∧ ∃ i, i < xs.length ∧ ¬ (-1000000000 ≤ gt xs i ∧ gt xs i ≤ 1000000000))) ∧ h = h') := by
  refine fx_intro (n := 19) [(0, vl), (1, .func (.func 141) #[] #[])] Try.func171 rfl rfl (by simp) ⟨rfl, rfl, trivial⟩ fun g0 => ?_
  refine wi_seq <| wi_reg rfl <| lx_assign (.int .i64 0) rfl rfl <| lx_nil <| wi_seq <| wi_seq <| wi_reg rfl <| lx_move (vl) rfl rfl <| lx_len rfl Try.underlying58 hr_vl rfl <| lx_move (.int .i64 0) rfl rfl <| lx_nil <| wi_block <| ?_
  refine wi_loop (σ := Nat) (rngB 8 19 [4, 5]) (fun (i : Nat) => [(8, .int .i64 ((i : Nat) : Int))]) (fun (i : Nat) (hh : Heap) => h = hh ∧ (i ≤ xs.length) ∧ (∀ j, j < i → -1000000000 ≤ gt xs j ∧ gt xs j ≤ 1000000000)) (fun (i : Nat) => xs.length - i) 0 ⟨rfl, trivial⟩ ⟨rfl, ?_, ?_⟩ ?_
  · try dsimp only
    omega
  · try dsimp only
    intro j hj; omega
  rintro g1 i hh1 ⟨rfl, hi, he⟩ IH1
  refine wi_seq <| wi_reg rfl <| lx_lssS rfl rfl rfl (fun c1 => ?_) (fun c1 => ?_)
  · refine lx_nil <| wi_seq <| wi_true rfl <| wi_skip <| wi_seq <| wi_block <| wi_seq <| wi_reg rfl <| lx_move (.int .i64 ((i : Nat) : Int)) rfl rfl <| lx_assign (.int .i64 ((i : Nat) : Int)) rfl rfl <| lx_nil <| wi_seq <| wi_reg rfl <| lx_move (.func (.func 141) #[] #[]) rfl rfl <| lx_move (vl) rfl rfl <| lx_move (.int .i64 ((i : Nat) : Int)) rfl rfl <| lx_ix (i := i) rfl eT58 hr_vl rfl rfl (by omega) <| lx_ld (i := i) (j := 0) (.int .i64 (gt xs i)) rfl rfl fl2 hr_vl (by omega) rfl rfl <| lx_callV [] [] [.int .i64 (gt xs i)] rfl rfl Try.call141 rfl rfl (lst1_spec h (gt xs i) ) (fun _ _ _ => trivial) ?_
    rintro _ h1 ⟨rfl, rfl⟩
    refine lx_nil <| wi_condS (t := decide (¬ (-1000000000 ≤ (gt xs i) ∧ (gt xs i) ≤ 1000000000))) rfl (fun c2 => ?_) (fun c2 => ?_)
    · refine wi_seq <| wi_reg rfl <| lx_move (.int .i64 ((i : Nat) : Int)) rfl rfl <| lx_assign (.int .i64 ((i : Nat) : Int)) rfl rfl <| lx_nil <| ?_
      -- R1
      refine wi_ret ⟨.int .i64 ((i : Nat) : Int), (res_one rfl rfl), ⟨((i : Nat) : Int), ?_, ?_, rfl⟩⟩
      · first | rfl | (simp; done) | (simp; omega)
      · refine .inr ⟨by omega, i, by omega, ?_⟩
        exact of_decide_eq_true c2
    · refine wi_skip <| wi_inBlock <| wi_reg rfl <| lx_add (((i + 1 : Nat) : Int)) rfl rfl rfl (by omega) (by omega) (by omega) <| lx_move (.int .i64 ((i + 1 : Nat) : Int)) rfl rfl <| lx_nil <| ?_
      -- L0.1
      refine IH1 _ _ (i + 1) (agree_ups rfl agree_self) ⟨rfl, trivial⟩ ⟨rfl, ?_, ?_⟩ ?_
      · try dsimp only
        omega
      · try dsimp only
        intro j hj; by_cases e : j = i
        · subst e; have h9 := of_decide_eq_false c2; omega
        · exact he j (by omega)
      · first | omega | (dsimp only; omega)
  · refine lx_nil <| wi_seq <| wi_false rfl <| wi_exit rfl <| wi_seq <| wi_reg rfl <| lx_assign (.int .i64 (-1)) rfl rfl <| lx_nil <| ?_
    -- R2
    refine wi_ret ⟨.int .i64 (-1), (res_one rfl rfl), ⟨(-1), ?_, ?_, rfl⟩⟩
    · first | rfl | (simp; done) | (simp; omega)
    · exact .inl ⟨rfl, fun j hj => he j (by omega)⟩

set_option maxRecDepth 10000 in
theorem lcontains_spec (h : Heap) (vl : Value) (xs : List Int) (hr_vl : RdE encI h vl xs) (hp1 : xs.length ≤ 1000000) : Fx Try.prog 140 [vl, .func (.func 141) #[] #[]] h (fun v h' => v = .bool (!numB xs) ∧ h = h') := by
  refine fx_intro (n := 9) [(0, vl), (1, .func (.func 141) #[] #[])] Try.func140 rfl rfl (by simp) ⟨rfl, rfl, trivial⟩ fun g0 => ?_
  refine wi_seq <| wi_reg rfl <| lx_assign (.bool false) rfl rfl <| lx_nil <| wi_seq <| wi_reg rfl <| lx_move (vl) rfl rfl <| lx_move (.func (.func 141) #[] #[]) rfl rfl <| lx_call [vl, .func (.func 141) #[] #[]] rfl rfl Try.call171 rfl (lindex_spec h vl xs hr_vl (by omega)) (fun _ _ _ => trivial) ?_
  rintro _ h1 ⟨r_1, rfl, hr_1, rfl⟩
  refine lx_geq rfl rfl rfl <| lx_assign (.bool (decide ((0 : Int) ≤ r_1))) rfl rfl <| lx_nil <| ?_
  -- R1
  refine wi_ret ⟨.bool (decide ((0 : Int) ≤ r_1)), (res_one rfl rfl), ⟨?_, rfl⟩⟩
  · congr 1
    rcases hr_1 with ⟨h1, h2⟩ | ⟨h1, j, h2, h3⟩
    · rw [decide_eq_false (by omega), numB_iff.2 h2]; rfl
    · rw [decide_eq_true (by omega)]
      symm
      rw [Bool.not_eq_true', Bool.eq_false_iff]
      exact fun h => h3 (numB_iff.1 h j h2)

set_option maxRecDepth 10000 in
theorem checkList_spec (h : Heap) (vp : Value) (hs : List Hdr) (p : List (List Bool)) (vl : Value) (xs : List Int) (hr_vp : RdE encHd h vp hs) (ht_vp : RT encB h hs p) (hr_vl : RdE encI h vl xs) (hp1 : p.length ≤ 1000000) (hp2 : ∀ i, i < p.length → (gt p i).length ≤ 1000000) (hp3 : xs.length ≤ 1000000) : Fx Try.prog 107 [vp, vl] h (fun v h' => v = .int .i64 (lisE p xs) ∧ Ext h.size h h') := by
  have hl_vp := ht_vp.1
  refine fx_intro (n := 18) [(0, vp), (1, vl)] Try.func107 rfl rfl (by simp) ⟨rfl, rfl, trivial⟩ fun g0 => ?_
  refine wi_seq <| wi_reg rfl <| lx_assign (.int .i64 0) rfl rfl <| lx_nil <| wi_seq <| wi_seq <| wi_reg rfl <| lx_move (vp) rfl rfl <| lx_call [vp] rfl rfl Try.call62 rfl (ocheck_spec h vp hs p hr_vp ht_vp (by omega) (by first | with_reducible assumption | omega)) (fun _ _ _ => trivial) ?_
  rintro _ h1 ⟨rfl, hx1⟩
  refine lx_assign (.int .i64 (chkT p)) rfl rfl <| lx_nil <| wi_seq <| wi_reg rfl <| lx_move (.int .i64 (chkT p)) rfl rfl <| lx_neqS rfl rfl rfl (fun c1 => ?_) (fun c1 => ?_)
  · refine lx_nil <| wi_true rfl <| wi_seq <| wi_reg rfl <| lx_move (.int .i64 (chkT p)) rfl rfl <| lx_assign (.int .i64 (chkT p)) rfl rfl <| lx_nil <| ?_
    -- R1
    refine wi_ret ⟨.int .i64 (chkT p), (res_one rfl rfl), ⟨?_, hx1⟩⟩
    · rw [show lisE p xs = chkT p from if_neg (by omega)]
  · refine lx_nil <| wi_false rfl <| wi_skip <| wi_seq <| wi_seq <| wi_reg rfl <| lx_move (vl) rfl rfl <| lx_len rfl Try.underlying58 hr_vl rfl <| lx_move (vp) rfl rfl <| lx_len rfl Try.underlying29 hr_vp rfl <| lx_neqS rfl rfl rfl (fun c2 => ?_) (fun c2 => ?_)
    · refine lx_nil <| wi_true rfl <| wi_seq <| wi_reg rfl <| lx_assign (.int .i64 7) rfl rfl <| lx_nil <| ?_
      -- R2
      refine wi_ret ⟨.int .i64 7, (res_one rfl rfl), ⟨?_, hx1⟩⟩
      · congr 1; unfold lisE lstE; rw [if_pos (by omega), if_neg (by omega)]
    · refine lx_nil <| wi_false rfl <| wi_skip <| wi_seq <| wi_seq <| wi_reg rfl <| lx_move (vl) rfl rfl <| lx_call [vl, .func (.func 141) #[] #[]] rfl rfl Try.call140 rfl (lcontains_spec h1 vl xs (hr_vl.extS hx1) (by omega)) (fun _ _ _ => trivial) ?_
      rintro _ h2 ⟨rfl, rfl⟩
      refine lx_nil <| wi_condS (t := !numB xs) rfl (fun c3 => ?_) (fun c3 => ?_)
      · refine wi_seq <| wi_reg rfl <| lx_assign (.int .i64 1) rfl rfl <| lx_nil <| ?_
        -- R3
        refine wi_ret ⟨.int .i64 1, (res_one rfl rfl), ⟨?_, hx1⟩⟩
        · congr 1; unfold lisE lstE; rw [if_pos (by omega), if_pos (by omega), if_neg (by simpa using ‹(!numB xs) = true›)]
      · refine wi_skip <| wi_seq <| wi_reg rfl <| lx_assign (.int .i64 0) rfl rfl <| lx_nil <| ?_
        -- R4
        refine wi_ret ⟨.int .i64 0, (res_one rfl rfl), ⟨?_, hx1⟩⟩
        · congr 1; unfold lisE lstE; rw [if_pos (by omega), if_pos (by omega), if_pos (by simpa using ‹(!numB xs) = false›)]

end Go.Proofs.Ytdokijbdnajhgaa
namespace Go.Proofs.Ytdokijbdnajhgaa
open Go Go.X

end Go.Proofs.Ytdokijbdnajhgaa
namespace Go.Proofs.Ytdokijbdnajhgaa
open Go Go.X

end Go.Proofs.Ytdokijbdnajhgaa
namespace Go.Proofs.Ytdokijbdnajhgaa
open Go Go.X

theorem opnC_of {p : List (List Bool)} (h : chkT p = 0) (hg : ngB p.length (pb p) = true) : opnC p = 0 := by unfold opnC; rw [if_pos h, if_pos hg]
/-- The numbers of sets of atoms. -/
def atL (n : Nat) (f : Nat → Nat → Bool) : List Int := filtF n (rbF n f (loN n f))
def crF (n : Nat) (f : Nat → Nat → Bool) : List Int := crL n f (loN n f) (hiN n f) (atL n f) (2 ^ (atL n f).length)
theorem atL_at {n k : Nat} {f : Nat → Nat → Bool} (h : k < (atL n f).length) : ∃ a : Nat, gt (atL n f) k = (a : Int) ∧ a < n ∧ rbF n f (loN n f) a = true := filtF_gt h
theorem atL_rng {n : Nat} {f : Nat → Nat → Bool} : ∀ i, i < (atL n f).length → (gt (atL n f) i).toNat < n := fun i hi => by
  obtain ⟨a, h1, h2, _⟩ := atL_at hi
  rw [h1]; exact h2
theorem atL_len (n : Nat) (f : Nat → Nat → Bool) : (atL n f).length ≤ n := filtF_length _ _

set_option maxRecDepth 10000 in
theorem ends_spec (h : Heap) (vp : Value) (hs : List Hdr) (p : List (List Bool)) (hr_vp : RdE encHd h vp hs) (ht_vp : RT encB h hs p) (hp1 : p.length ≤ 12) (hp2 : Sq p p.length) (hp3 : IsO p.length (pb p)) (hp4 : noGap p.length (pb p)) (hp5 : 1 ≤ p.length) : Fx Try.prog 51 [vp] h (fun v h' => v = .tuple #[.int .i64 ((loN p.length (pb p) : Nat) : Int), .int .i64 ((hiN p.length (pb p) : Nat) : Int)] ∧ Ext h.size h h') := by
  have hl_vp := ht_vp.1
  refine fx_intro (n := 23) [(0, vp)] Try.func51 rfl rfl (by simp) ⟨rfl, trivial⟩ fun g0 => ?_
  refine wi_seq <| wi_reg rfl <| lx_assign (.int .i64 0) rfl rfl <| lx_assign (.int .i64 0) rfl rfl <| lx_nil <| wi_seq <| wi_reg rfl <| lx_assign (.int .i64 0) rfl rfl <| lx_assign (.int .i64 0) rfl rfl <| lx_nil <| wi_seq <| wi_seq <| wi_reg rfl <| lx_assign (.int .i64 0) rfl rfl <| lx_nil <| wi_block <| ?_
  refine wi_loop (σ := Nat × Nat × Nat) (rngB 4 21 []) (fun (ss : Nat × Nat × Nat) => [(6, .int .i64 ((ss.1 : Nat) : Int)), (4, .int .i64 ((ss.2.1 : Nat) : Int)), (5, .int .i64 ((ss.2.2 : Nat) : Int))]) (fun (ss : Nat × Nat × Nat) (hh : Heap) => Ext h.size h hh ∧ (ss.1 ≤ p.length) ∧ (ss.2.1 < p.length) ∧ (∀ q, q < ss.1 → pb p ss.2.1 q = true) ∧ (ss.2.2 < p.length) ∧ (∀ q, q < ss.1 → pb p q ss.2.2 = true)) (fun (ss : Nat × Nat × Nat) => p.length - ss.1) (0, 0, 0) ⟨rfl, rfl, rfl, trivial⟩ ⟨(Ext.refl _ _), ?_, ?_, ?_, ?_, ?_⟩ ?_
  · try dsimp only
    omega
  · try dsimp only
    omega
  · try dsimp only
    intro q hq; omega
  · try dsimp only
    omega
  · try dsimp only
    intro q hq; omega
  rintro g1 ⟨x, lo, hi⟩ hh1 ⟨hx0_1, hx, hlo, hl, hhi, hh9⟩ IH1
  dsimp only at *
  refine wi_seq <| wi_seq <| wi_reg rfl <| lx_move (.int .i64 ((x : Nat) : Int)) rfl rfl <| lx_move (vp) rfl rfl <| lx_len rfl Try.underlying23 hr_vp rfl <| lx_lssS rfl rfl rfl (fun c1 => ?_) (fun c1 => ?_)
  · refine lx_nil <| wi_true rfl <| wi_skip <| wi_seq <| wi_block <| wi_seq <| wi_reg rfl <| lx_move (vp) rfl rfl <| lx_move (.int .i64 ((lo : Nat) : Int)) rfl rfl <| lx_move (.int .i64 ((x : Nat) : Int)) rfl rfl <| lx_call [vp, .int .i64 ((lo : Nat) : Int), .int .i64 ((x : Nat) : Int)] rfl rfl Try.call91 rfl (meet_spec hh1 vp hs p lo x (hr_vp.extS hx0_1) (ht_vp.extS hx0_1) (by omega) (by first | with_reducible assumption | omega) (by omega) (by omega)) (fun _ _ _ => trivial) ?_
    rintro _ h1 ⟨rfl, hx1⟩
    have hx0_2 := hx0_1.trans2 hx1 hx0_1.size
    have hM := mN_at hp3 hp4 hlo (show x < p.length by omega)
    rw [hM.1]
    refine lx_assign (.int .i64 ((mN p.length (pb p) lo x : Nat) : Int)) rfl rfl <| lx_nil <| wi_reg rfl <| lx_move (vp) rfl rfl <| lx_move (.int .i64 ((hi : Nat) : Int)) rfl rfl <| lx_move (.int .i64 ((x : Nat) : Int)) rfl rfl <| lx_call [vp, .int .i64 ((hi : Nat) : Int), .int .i64 ((x : Nat) : Int)] rfl rfl Try.call88 rfl (join_spec h1 vp hs p hi x (hr_vp.extS hx0_2) (ht_vp.extS hx0_2) (by omega) (by first | with_reducible assumption | omega) (by omega) (by omega)) (fun _ _ _ => trivial) ?_
    rintro _ h2 ⟨rfl, rfl⟩
    have hJ := jN_at hp3 hp4 hhi (show x < p.length by omega)
    rw [hJ.1]
    refine lx_assign (.int .i64 ((jN p.length (pb p) hi x : Nat) : Int)) rfl rfl <| lx_nil <| wi_inBlock <| wi_reg rfl <| lx_move (.int .i64 ((x : Nat) : Int)) rfl rfl <| lx_add (((x + 1 : Nat) : Int)) rfl rfl rfl (by omega) (by omega) (by omega) <| lx_assign (.int .i64 ((x + 1 : Nat) : Int)) rfl rfl <| lx_nil <| ?_
    -- L0.1
    refine IH1 _ _ (x + 1, mN p.length (pb p) lo x, jN p.length (pb p) hi x) (agree_ups rfl agree_self) ⟨rfl, rfl, rfl, trivial⟩ ⟨hx0_2, ?_, ?_, ?_, ?_, ?_⟩ ?_
    · try dsimp only
      omega
    · try dsimp only
      exact hM.2.1
    · try dsimp only
      intro q hq
      by_cases e : q = x
      · subst e; exact hM.2.2.2.1
      · exact hp3.trans hM.2.1 hlo (by omega) hM.2.2.1 (hl q (by omega))
    · try dsimp only
      exact hJ.2.1
    · try dsimp only
      intro q hq
      by_cases e : q = x
      · subst e; exact hJ.2.2.2.1
      · exact hp3.trans (by omega) hhi hJ.2.1 (hh9 q (by omega)) hJ.2.2.1
    · first | omega | (dsimp only; omega)
  · refine lx_nil <| wi_false rfl <| wi_exit rfl <| wi_seq <| wi_reg rfl <| ?_
    have hloN : lo = loN p.length (pb p) := lo_uniq hp3 ⟨hlo, fun q hq => hl q (by omega)⟩ (lo_at hp3 hp4 hp5).2
    have hhiA := hi_at hp3 hp4 hp5
    have hhiN : hi = hiN p.length (pb p) := hp3.anti hhi hhiA.2.1 (hhiA.2.2 hi hhi) (hh9 _ (by have := hhiA.2.1; omega))
    refine lx_move (.int .i64 ((lo : Nat) : Int)) rfl rfl <| lx_move (.int .i64 ((hi : Nat) : Int)) rfl rfl <| lx_assign (.int .i64 ((lo : Nat) : Int)) rfl rfl <| lx_assign (.int .i64 ((hi : Nat) : Int)) rfl rfl <| lx_nil <| ?_
    -- R1
    refine wi_ret ⟨.tuple #[.int .i64 ((lo : Nat) : Int), .int .i64 ((hi : Nat) : Int)], (res_two rfl rfl rfl), ⟨?_, hx0_1⟩⟩
    · rw [hloN, hhiN]

end Go.Proofs.Ytdokijbdnajhgaa
