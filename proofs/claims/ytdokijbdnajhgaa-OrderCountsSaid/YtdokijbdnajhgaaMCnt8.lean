/-
  Texts in one: PH, XSubs, PV, PI, PK, PL, PN, PS, PT, PU, PO, PP, OO, XOBits, XOLen, OL, OP, PW, PX.
-/
import Derived.Test.YtdokijbdnajhgaaMCnt7
import Derived.Shelf.Small.Bits
import Derived.Test.YtdokijbdnajhgaaProg
set_option linter.unusedSimpArgs false
set_option linter.unusedVariables false
namespace Go.Proofs.Ytdokijbdnajhgaa
open Go Go.X

def UpL (n : Nat) (ls : List (Int × Int)) : Prop := ∀ d, d ∈ ls → ∃ a b : Nat, d = ((a : Int), (b : Int)) ∧ a < b ∧ b < n
theorem upL_nil (n : Nat) : UpL n [] := fun d hd => by cases hd
theorem UpL.snoc {n : Nat} {ls : List (Int × Int)} (h : UpL n ls) {x y : Int} (a b : Nat) (hx : x = a) (hy : y = b) (h1 : a < b) (h2 : b < n) : UpL n (ls ++ [(x, y)]) := fun d hd => by
  rcases List.mem_append.1 hd with hd | hd
  · exact h d hd
  · rw [List.mem_singleton] at hd
    exact ⟨a, b, by rw [hd, hx, hy], h1, h2⟩
def knB (size : Nat) (ls : List (Int × Int)) : Bool := decide (1 ≤ size ∧ size ≤ 12 ∧ ls.length ≤ 1000) && ls.all (Go.X.inR size) && ordB size (closW size ls)
theorem kn_up {size : Nat} {ls : List (Int × Int)} (h1 : 1 ≤ size) (h2 : size ≤ 12) (h3 : ls.length ≤ 1000) (h : UpL size ls) : knB size ls = true := by
  unfold knB
  rw [decide_eq_true ⟨h1, h2, h3⟩, ordB_iff.2 (up_order h), Bool.and_true, Bool.true_and, List.all_eq_true]
  intro d hd
  obtain ⟨a, b, rfl, h4, h5⟩ := h d hd
  exact Go.X.inR_iff.2 ⟨by show (0 : Int) ≤ (a : Int); omega, by show (0 : Int) ≤ (b : Int); omega, by show (a : Int) < _; omega, by show (b : Int) < _; omega⟩
theorem kn_of {size : Nat} {ls : List (Int × Int)} (h : knB size ls = true) : (1 ≤ size ∧ size ≤ 12 ∧ ls.length ≤ 1000) ∧ (∀ j, j < ls.length → Go.X.inR size (gt ls j) = true) ∧ ordB size (closW size ls) = true := by
  unfold knB at h
  rw [Bool.and_eq_true, Bool.and_eq_true, decide_eq_true_iff, List.all_eq_true] at h
  exact ⟨h.1.1, fun j hj => h.1.2 _ (gt_mem hj), h.2⟩
theorem or8 : ∀ x, x < 8 → ∀ b, b < 8 → x &&& b = 0 → 0 < b → x < x ||| b ∧ x ||| b < 8 := by decide
theorem kn2 : knB 5 [((0 : Int), (1 : Int)), ((1 : Int), (2 : Int)), ((2 : Int), (4 : Int)), ((0 : Int), (3 : Int)), ((3 : Int), (4 : Int))] = true := by decide +kernel
theorem kn3 : knB 5 [((0 : Int), (1 : Int)), ((0 : Int), (2 : Int)), ((0 : Int), (3 : Int)), ((1 : Int), (4 : Int)), ((2 : Int), (4 : Int)), ((3 : Int), (4 : Int))] = true := by decide +kernel
theorem kn4 : knB 6 [((0 : Int), (1 : Int)), ((0 : Int), (2 : Int)), ((1 : Int), (3 : Int)), ((1 : Int), (4 : Int)), ((2 : Int), (4 : Int)), ((3 : Int), (5 : Int)), ((4 : Int), (5 : Int))] = true := by decide +kernel
theorem kn5 : knB 7 [((6 : Int), (0 : Int)), ((6 : Int), (1 : Int)), ((6 : Int), (2 : Int)), ((0 : Int), (3 : Int)), ((1 : Int), (3 : Int)), ((1 : Int), (4 : Int)), ((2 : Int), (4 : Int)), ((3 : Int), (5 : Int)), ((4 : Int), (5 : Int))] = true := by decide +kernel

set_option maxRecDepth 10000 in
theorem known_spec (h : Heap) (most : Nat) (n : Nat) (hp1 : n < 18446744073709551616) (hp2 : 1 ≤ most) (hp3 : most ≤ 12) : Fx Try.prog 75 [.int .u64 ((n : Nat) : Int), .int .i64 ((most : Nat) : Int)] h (fun v h' => ∃ (s : Value) (hs : List Hdr) (p : List (List Bool)), v = s ∧ OwE encHd h' h.size 70 s hs ∧ OT encB h' h.size 4 hs p ∧ (p = [] ∨ (isT p = true ∧ 1 ≤ p.length ∧ p.length ≤ most)) ∧ Ext h.size h h') := by
  refine fx_intro (n := 146) [(0, .int .u64 ((n : Nat) : Int)), (1, .int .i64 ((most : Nat) : Int))] Try.func75 rfl rfl (by simp) ⟨rfl, rfl, trivial⟩ fun g0 => ?_
  refine wi_seq <| wi_reg rfl <| lx_assign (.slice none 0 0) rfl rfl <| lx_nil <| wi_seq <| wi_reg rfl <| lx_assign (.slice none 0 0) rfl rfl <| lx_nil <| wi_seq <| wi_reg rfl <| lx_assign (.int .i64 5) rfl rfl <| lx_nil <| wi_seq <| wi_seq <| wi_reg rfl <| lx_move (.int .u64 ((n : Nat) : Int)) rfl rfl <| lx_rem (m := n) (n := 7) rfl rfl rfl (by omega) <| lx_nil <| wi_block <| wi_seq <| wi_reg rfl <| lx_eql rfl rfl rfl <| lx_assign (.bool (decide (((n % 7 : Nat) : Int) = (0 : Int)))) rfl rfl <| lx_nil <| ?_
  refine wi_cutE (σ := Value × (List (Int × Int)) × Nat) (rngB 56 136 [5, 6, 7, 8, 9, 10, 11, 16, 17, 18, 19, 20, 21, 22, 23, 24, 25, 26, 27, 28, 29, 30, 31, 32, 33, 34, 35, 36, 37, 38, 39, 40, 41, 42, 43, 44, 45, 46, 47, 48, 49, 50, 51, 52, 53]) (fun (ss : Value × (List (Int × Int)) × Nat) => [(5, ss.1), (6, .int .i64 ((ss.2.2 : Nat) : Int))]) (fun (ss : Value × (List (Int × Int)) × Nat) (hh : Heap) => OwE encP hh h.size 85 ss.1 ss.2.1 ∧ Ext h.size h hh ∧ (knB ss.2.2 ss.2.1 = true)) (fun J1 => ?_) ?_
  · refine wi_condS (t := decide (((n % 7 : Nat) : Int) = (0 : Int))) rfl (fun c1 => ?_) (fun c1 => ?_)
    · refine wi_seq <| wi_reg rfl <| ?_
      have hmd := Nat.mod_lt (n / 7) (show 0 < most by omega)
      refine lx_move (.int .u64 ((n : Nat) : Int)) rfl rfl <| lx_quo (m := n) (n := 7) rfl rfl rfl (by omega) (wrap_quo_u64 (by omega)) <| lx_move (.int .i64 ((most : Nat) : Int)) rfl rfl <| lx_conv ((most : Nat) : Int) rfl Try.underlying3 Try.underlying45 rfl (wrap_u64 (by omega) (by omega)) <| lx_rem (m := n / 7) (n := most) rfl rfl rfl (by omega) <| lx_conv (((n / 7) % most : Nat) : Int) rfl Try.underlying45 Try.underlying3 rfl (wrap_i64 (by omega) (by omega)) <| lx_add (((1 + ((n / 7) % most) : Nat) : Int)) rfl rfl rfl (by omega) (by omega) (by omega) <| lx_assign (.int .i64 ((1 + ((n / 7) % most) : Nat) : Int)) rfl rfl <| lx_nil <| wi_seq <| wi_reg rfl <| lx_assign (.int .i64 1) rfl rfl <| lx_nil <| wi_block <| ?_
      refine wi_loop (σ := Nat × Value × (List (Int × Int))) (rngB 63 75 [5, 7]) (fun (ss : Nat × Value × (List (Int × Int))) => [(7, .int .i64 ((ss.1 : Nat) : Int)), (5, ss.2.1)]) (fun (ss : Nat × Value × (List (Int × Int))) (hh : Heap) => OwE encP hh h.size 85 ss.2.1 ss.2.2 ∧ Ext h.size h hh ∧ (UpL (1 + n / 7 % most) ss.2.2) ∧ (ss.2.2.length ≤ ss.1) ∧ (1 ≤ ss.1 ∧ ss.1 ≤ 1 + n / 7 % most)) (fun (ss : Nat × Value × (List (Int × Int))) => 1 + n / 7 % most - ss.1) (1, .slice none 0 0, []) ⟨rfl, rfl, trivial⟩ ⟨?_, (Ext.refl _ _), ?_, ?_, ?_⟩ ?_
      · first | exact (owE_nil encP _ h.size 85) | (simpa using (owE_nil encP _ h.size 85))
      · try dsimp only
        exact upL_nil _
      · try dsimp only
        exact Nat.zero_le _
      · try dsimp only
        omega
      rintro g1 ⟨i, v, ls⟩ hh1 ⟨ho1, hx0_1, hu, hll, hi⟩ IH1
      dsimp only at *
      refine wi_seq <| wi_seq <| wi_reg rfl <| lx_move (.int .i64 ((i : Nat) : Int)) rfl rfl <| lx_move (.int .i64 ((1 + ((n / 7) % most) : Nat) : Int)) rfl rfl <| lx_lssS rfl rfl rfl (fun c2 => ?_) (fun c2 => ?_)
      · refine lx_nil <| wi_true rfl <| wi_skip <| wi_seq <| wi_block <| wi_reg rfl <| lx_move (v) rfl rfl <| lx_move (.int .i64 ((i : Nat) : Int)) rfl rfl <| lx_sub ((((i : Nat) : Int)) - ((1 : Int))) rfl rfl rfl (by omega) (by omega) (by omega) <| lx_move (.int .i64 ((i : Nat) : Int)) rfl rfl <| lx_build (.agg #[.int .i64 ((((i : Nat) : Int)) - ((1 : Int))), .int .i64 ((i : Nat) : Int)]) [(0, .int .i64 ((((i : Nat) : Int)) - ((1 : Int)))), (1, .int .i64 ((i : Nat) : Int))] rfl rfl (fun w => bld85_2 _ _ w) <| lx_appendL (E := encP) (B := h.size) [((((i : Nat) : Int)) - ((1 : Int)), ((i : Nat) : Int))] [.agg #[.int .i64 ((((i : Nat) : Int)) - ((1 : Int))), .int .i64 ((i : Nat) : Int)]] rfl rfl (fun _ => rfl) rfl eT22 rfl rfl rfl rfl ho1 (fun _ => rfl) (by show ls.length + 1 ≤ _; omega) (by show (ls.length + 1) * 16 ≤ _; omega) hx0_1.size (fun _ _ => trivial) fun u1 v1 h1 ho2 hc1 hg1 => ?_
        have hx0_2 := hx0_1.trans (ho1.ext hc1 hx0_1.size)
        refine lx_assign (v1) rfl rfl <| lx_nil <| wi_inBlock <| wi_reg rfl <| lx_move (.int .i64 ((i : Nat) : Int)) rfl rfl <| lx_add (((i + 1 : Nat) : Int)) rfl rfl rfl (by omega) (by omega) (by omega) <| lx_assign (.int .i64 ((i + 1 : Nat) : Int)) rfl rfl <| lx_nil <| ?_
        -- L5.1
        refine IH1 _ _ (i + 1, v1, ls ++ [((((i : Nat) : Int)) - ((1 : Int)), ((i : Nat) : Int))]) (agree_ups rfl agree_self) ⟨rfl, rfl, trivial⟩ ⟨?_, hx0_2, ?_, ?_, ?_⟩ ?_
        · first | exact ho2 | (simpa using ho2)
        · try dsimp only
          exact hu.snoc (i - 1) i (by omega) rfl (by omega) (by omega)
        · try dsimp only
          first | omega | (simp only [List.length_append, List.length_cons, List.length_nil]; omega)
        · try dsimp only
          omega
        · first | omega | (dsimp only; omega)
      · refine lx_nil <| wi_false rfl <| wi_exit rfl <| ?_
        -- Jt54.1
        refine J1 _ _ (v, ls, 1 + ((n / 7) % most)) (agree_ups rfl (agree_mix (rngB_sub (by decide) (by decide) rfl) (agree_ups rfl agree_upsJ))) ⟨rfl, rfl, trivial⟩ ⟨?_, hx0_1, ?_⟩
        · first | exact ho1 | (simpa using ho1)
        · try dsimp only
          exact kn_up (by omega) (by omega) (by omega) hu
    · refine wi_seq <| wi_reg rfl <| lx_eqlS rfl rfl rfl (fun c3 => ?_) (fun c3 => ?_)
      · refine lx_assign (.bool true) rfl rfl <| lx_nil <| wi_true rfl <| wi_seq <| wi_reg rfl <| lx_assign (.int .i64 8) rfl rfl <| lx_nil <| wi_seq <| wi_reg rfl <| lx_assign (.int .i64 0) rfl rfl <| lx_nil <| wi_block <| ?_
        refine wi_loop (σ := Nat × Value × (List (Int × Int))) (rngB 77 97 [5, 8, 9]) (fun (ss : Nat × Value × (List (Int × Int))) => [(8, .int .i64 ((ss.1 : Nat) : Int)), (5, ss.2.1)]) (fun (ss : Nat × Value × (List (Int × Int))) (hh : Heap) => OwE encP hh h.size 85 ss.2.1 ss.2.2 ∧ Ext h.size h hh ∧ (UpL 8 ss.2.2) ∧ (ss.2.2.length ≤ 16 * ss.1) ∧ (ss.1 ≤ 8)) (fun (ss : Nat × Value × (List (Int × Int))) => 8 - ss.1) (0, .slice none 0 0, []) ⟨rfl, rfl, trivial⟩ ⟨?_, (Ext.refl _ _), ?_, ?_, ?_⟩ ?_
        · first | exact (owE_nil encP _ h.size 85) | (simpa using (owE_nil encP _ h.size 85))
        · try dsimp only
          exact upL_nil _
        · try dsimp only
          exact Nat.zero_le _
        · try dsimp only
          omega
        rintro g2 ⟨x, v, ls⟩ hh2 ⟨ho3, hx0_3, hu, hll, hx⟩ IH2
        dsimp only at *
        refine wi_seq <| wi_seq <| wi_reg rfl <| lx_move (.int .i64 ((x : Nat) : Int)) rfl rfl <| lx_lssS rfl rfl rfl (fun c4 => ?_) (fun c4 => ?_)
        · refine lx_nil <| wi_true rfl <| wi_skip <| wi_seq <| wi_block <| wi_seq <| wi_reg rfl <| lx_assign (.int .i64 1) rfl rfl <| lx_nil <| wi_block <| ?_
          refine wi_loop (σ := Nat × Value × (List (Int × Int))) (rngB 81 97 [5, 9]) (fun (ss : Nat × Value × (List (Int × Int))) => [(9, .int .i64 ((ss.1 : Nat) : Int)), (5, ss.2.1)]) (fun (ss : Nat × Value × (List (Int × Int))) (hh : Heap) => OwE encP hh h.size 85 ss.2.1 ss.2.2 ∧ Ext h.size h hh ∧ (UpL 8 ss.2.2) ∧ (ss.2.2.length ≤ 16 * x + ss.1) ∧ (1 ≤ ss.1 ∧ ss.1 ≤ 15)) (fun (ss : Nat × Value × (List (Int × Int))) => 16 - ss.1) (1, v, ls) ⟨rfl, rfl, trivial⟩ ⟨?_, hx0_3, ?_, ?_, ?_⟩ ?_
          · first | exact ho3 | (simpa using ho3)
          · try dsimp only
            exact hu
          · try dsimp only
            first | omega | (simp only [List.length_append, List.length_cons, List.length_nil]; omega)
          · try dsimp only
            omega
          rintro g3 ⟨b, v, ls⟩ hh3 ⟨ho4, hx0_4, hu, hll, hb⟩ IH3
          dsimp only at *
          refine wi_seq <| wi_seq <| wi_reg rfl <| lx_move (.int .i64 ((b : Nat) : Int)) rfl rfl <| lx_lssS rfl rfl rfl (fun c5 => ?_) (fun c5 => ?_)
          · refine lx_nil <| wi_true rfl <| wi_skip <| wi_seq <| wi_block <| wi_seq <| wi_reg rfl <| ?_
            have hxb : x &&& b ≤ x := Nat.and_le_left
            refine lx_move (.int .i64 ((x : Nat) : Int)) rfl rfl <| lx_move (.int .i64 ((b : Nat) : Int)) rfl rfl <| lx_and (m := x) (n := b) rfl rfl rfl (by show _ < 2 ^ 64; omega) (by show _ < 2 ^ 64; omega) (wrap_i64 (by omega) (by omega)) <| lx_eqlS rfl rfl rfl (fun c6 => ?_) (fun c6 => ?_)
            · refine lx_nil <| wi_true rfl <| wi_reg rfl <| ?_
              obtain ⟨ho1, ho2⟩ := or8 x (by omega) b (by omega) (by omega) (by omega)
              refine lx_move (v) rfl rfl <| lx_move (.int .i64 ((x : Nat) : Int)) rfl rfl <| lx_move (.int .i64 ((x : Nat) : Int)) rfl rfl <| lx_move (.int .i64 ((b : Nat) : Int)) rfl rfl <| lx_or (m := x) (n := b) rfl rfl rfl (by show _ < 2 ^ 64; omega) (by show _ < 2 ^ 64; omega) (wrap_i64 (by omega) (by omega)) <| lx_build (.agg #[.int .i64 ((x : Nat) : Int), .int .i64 ((x ||| b : Nat) : Int)]) [(0, .int .i64 ((x : Nat) : Int)), (1, .int .i64 ((x ||| b : Nat) : Int))] rfl rfl (fun w => bld85_2 _ _ w) <| lx_appendL (E := encP) (B := h.size) [(((x : Nat) : Int), ((x ||| b : Nat) : Int))] [.agg #[.int .i64 ((x : Nat) : Int), .int .i64 ((x ||| b : Nat) : Int)]] rfl rfl (fun _ => rfl) rfl eT22 rfl rfl rfl rfl ho4 (fun _ => rfl) (by show ls.length + 1 ≤ _; omega) (by show (ls.length + 1) * 16 ≤ _; omega) hx0_4.size (fun _ _ => trivial) fun u2 v2 h2 ho5 hc2 hg2 => ?_
              have hx0_5 := hx0_4.trans (ho4.ext hc2 hx0_4.size)
              refine lx_assign (v2) rfl rfl <| lx_nil <| wi_inBlock <| wi_reg rfl <| lx_move (.int .i64 ((b : Nat) : Int)) rfl rfl <| lx_mul (((2 * b : Nat) : Int)) rfl rfl rfl (by omega) (by omega) (by omega) <| lx_assign (.int .i64 ((2 * b : Nat) : Int)) rfl rfl <| lx_nil <| ?_
              -- L9.1
              refine IH3 _ _ (2 * b, v2, ls ++ [(((x : Nat) : Int), ((x ||| b : Nat) : Int))]) (agree_ups rfl agree_self) ⟨rfl, rfl, trivial⟩ ⟨?_, hx0_5, ?_, ?_, ?_⟩ ?_
              · first | exact ho5 | (simpa using ho5)
              · try dsimp only
                exact hu.snoc x (x ||| b) rfl rfl ho1 ho2
              · try dsimp only
                first | omega | (simp only [List.length_append, List.length_cons, List.length_nil]; omega)
              · try dsimp only
                omega
              · first | omega | (dsimp only; omega)
            · refine lx_nil <| wi_false rfl <| wi_skip <| wi_inBlock <| wi_reg rfl <| lx_move (.int .i64 ((b : Nat) : Int)) rfl rfl <| lx_mul (((2 * b : Nat) : Int)) rfl rfl rfl (by omega) (by omega) (by omega) <| lx_assign (.int .i64 ((2 * b : Nat) : Int)) rfl rfl <| lx_nil <| ?_
              -- L9.2
              refine IH3 _ _ (2 * b, v, ls) (agree_ups rfl agree_self) ⟨rfl, rfl, trivial⟩ ⟨?_, hx0_4, ?_, ?_, ?_⟩ ?_
              · first | exact ho4 | (simpa using ho4)
              · try dsimp only
                exact hu
              · try dsimp only
                first | omega | (simp only [List.length_append, List.length_cons, List.length_nil]; omega)
              · try dsimp only
                omega
              · first | omega | (dsimp only; omega)
          · refine lx_nil <| wi_false rfl <| wi_exit rfl <| wi_inBlock <| wi_reg rfl <| lx_move (.int .i64 ((x : Nat) : Int)) rfl rfl <| lx_add (((x + 1 : Nat) : Int)) rfl rfl rfl (by omega) (by omega) (by omega) <| lx_assign (.int .i64 ((x + 1 : Nat) : Int)) rfl rfl <| lx_nil <| ?_
            -- L7.1
            refine IH2 _ _ (x + 1, v, ls) (agree_ups rfl (agree_mix (rngB_sub (by decide) (by decide) rfl) (agree_ups rfl agree_self))) ⟨rfl, rfl, trivial⟩ ⟨?_, hx0_4, ?_, ?_, ?_⟩ ?_
            · first | exact ho4 | (simpa using ho4)
            · try dsimp only
              exact hu
            · try dsimp only
              omega
            · try dsimp only
              omega
            · first | omega | (dsimp only; omega)
        · refine lx_nil <| wi_false rfl <| wi_exit rfl <| ?_
          -- Jt54.2
          refine J1 _ _ (v, ls, 8) (agree_ups rfl (agree_mix (rngB_sub (by decide) (by decide) rfl) (agree_ups rfl agree_upsJ))) ⟨rfl, rfl, trivial⟩ ⟨?_, hx0_3, ?_⟩
          · first | exact ho3 | (simpa using ho3)
          · try dsimp only
            exact kn_up (by omega) (by omega) (by omega) hu
      · refine lx_assign (.bool false) rfl rfl <| lx_nil <| wi_false rfl <| wi_seq <| wi_reg rfl <| lx_eqlS rfl rfl rfl (fun c7 => ?_) (fun c7 => ?_)
        · refine lx_assign (.bool true) rfl rfl <| lx_nil <| wi_true rfl <| wi_reg rfl <| lx_build (.agg #[.int .i64 0, .int .i64 1]) [(0, .int .i64 0), (1, .int .i64 1)] rfl rfl (fun w => bld85_2 _ _ w) <| lx_build (.agg #[.int .i64 1, .int .i64 2]) [(0, .int .i64 1), (1, .int .i64 2)] rfl rfl (fun w => bld85_2 _ _ w) <| lx_build (.agg #[.int .i64 2, .int .i64 4]) [(0, .int .i64 2), (1, .int .i64 4)] rfl rfl (fun w => bld85_2 _ _ w) <| lx_build (.agg #[.int .i64 0, .int .i64 3]) [(0, .int .i64 0), (1, .int .i64 3)] rfl rfl (fun w => bld85_2 _ _ w) <| lx_build (.agg #[.int .i64 3, .int .i64 4]) [(0, .int .i64 3), (1, .int .i64 4)] rfl rfl (fun w => bld85_2 _ _ w) <| lx_buildSlice (E := encP) h.size [((0 : Int), (1 : Int)), ((1 : Int), (2 : Int)), ((2 : Int), (4 : Int)), ((0 : Int), (3 : Int)), ((3 : Int), (4 : Int))] [.agg #[.int .i64 0, .int .i64 1], .agg #[.int .i64 1, .int .i64 2], .agg #[.int .i64 2, .int .i64 4], .agg #[.int .i64 0, .int .i64 3], .agg #[.int .i64 3, .int .i64 4]] rfl rfl eT22 rfl rfl rfl rfl (Nat.le_refl _) (fun _ _ _ => trivial) fun v3 h3 ho6 hx1 hvb1 hsz1 => ?_
          have ho7 := ho6.base (Nat.le_refl h.size)
          refine lx_assign (v3) rfl rfl <| lx_nil <| ?_
          -- Jt54.3
          refine J1 _ _ (v3, [((0 : Int), (1 : Int)), ((1 : Int), (2 : Int)), ((2 : Int), (4 : Int)), ((0 : Int), (3 : Int)), ((3 : Int), (4 : Int))], 5) (agree_ups rfl agree_upsJ) ⟨rfl, rfl, trivial⟩ ⟨?_, hx1, ?_⟩
          · first | exact ho7 | (simpa using ho7)
          · try dsimp only
            exact kn2
        · refine lx_assign (.bool false) rfl rfl <| lx_nil <| wi_false rfl <| wi_seq <| wi_reg rfl <| lx_eqlS rfl rfl rfl (fun c8 => ?_) (fun c8 => ?_)
          · refine lx_assign (.bool true) rfl rfl <| lx_nil <| wi_true rfl <| wi_reg rfl <| lx_build (.agg #[.int .i64 0, .int .i64 1]) [(0, .int .i64 0), (1, .int .i64 1)] rfl rfl (fun w => bld85_2 _ _ w) <| lx_build (.agg #[.int .i64 0, .int .i64 2]) [(0, .int .i64 0), (1, .int .i64 2)] rfl rfl (fun w => bld85_2 _ _ w) <| lx_build (.agg #[.int .i64 0, .int .i64 3]) [(0, .int .i64 0), (1, .int .i64 3)] rfl rfl (fun w => bld85_2 _ _ w) <| lx_build (.agg #[.int .i64 1, .int .i64 4]) [(0, .int .i64 1), (1, .int .i64 4)] rfl rfl (fun w => bld85_2 _ _ w) <| lx_build (.agg #[.int .i64 2, .int .i64 4]) [(0, .int .i64 2), (1, .int .i64 4)] rfl rfl (fun w => bld85_2 _ _ w) <| lx_build (.agg #[.int .i64 3, .int .i64 4]) [(0, .int .i64 3), (1, .int .i64 4)] rfl rfl (fun w => bld85_2 _ _ w) <| lx_buildSlice (E := encP) h.size [((0 : Int), (1 : Int)), ((0 : Int), (2 : Int)), ((0 : Int), (3 : Int)), ((1 : Int), (4 : Int)), ((2 : Int), (4 : Int)), ((3 : Int), (4 : Int))] [.agg #[.int .i64 0, .int .i64 1], .agg #[.int .i64 0, .int .i64 2], .agg #[.int .i64 0, .int .i64 3], .agg #[.int .i64 1, .int .i64 4], .agg #[.int .i64 2, .int .i64 4], .agg #[.int .i64 3, .int .i64 4]] rfl rfl eT22 rfl rfl rfl rfl (Nat.le_refl _) (fun _ _ _ => trivial) fun v4 h4 ho8 hx2 hvb2 hsz2 => ?_
            have ho9 := ho8.base (Nat.le_refl h.size)
            refine lx_assign (v4) rfl rfl <| lx_nil <| ?_
            -- Jt54.4
            refine J1 _ _ (v4, [((0 : Int), (1 : Int)), ((0 : Int), (2 : Int)), ((0 : Int), (3 : Int)), ((1 : Int), (4 : Int)), ((2 : Int), (4 : Int)), ((3 : Int), (4 : Int))], 5) (agree_ups rfl agree_upsJ) ⟨rfl, rfl, trivial⟩ ⟨?_, hx2, ?_⟩
            · first | exact ho9 | (simpa using ho9)
            · try dsimp only
              exact kn3
          · refine lx_assign (.bool false) rfl rfl <| lx_nil <| wi_false rfl <| wi_seq <| wi_reg rfl <| lx_eqlS rfl rfl rfl (fun c9 => ?_) (fun c9 => ?_)
            · refine lx_assign (.bool true) rfl rfl <| lx_nil <| wi_true rfl <| wi_seq <| wi_reg rfl <| lx_assign (.int .i64 6) rfl rfl <| lx_nil <| wi_reg rfl <| lx_build (.agg #[.int .i64 0, .int .i64 1]) [(0, .int .i64 0), (1, .int .i64 1)] rfl rfl (fun w => bld85_2 _ _ w) <| lx_build (.agg #[.int .i64 0, .int .i64 2]) [(0, .int .i64 0), (1, .int .i64 2)] rfl rfl (fun w => bld85_2 _ _ w) <| lx_build (.agg #[.int .i64 1, .int .i64 3]) [(0, .int .i64 1), (1, .int .i64 3)] rfl rfl (fun w => bld85_2 _ _ w) <| lx_build (.agg #[.int .i64 1, .int .i64 4]) [(0, .int .i64 1), (1, .int .i64 4)] rfl rfl (fun w => bld85_2 _ _ w) <| lx_build (.agg #[.int .i64 2, .int .i64 4]) [(0, .int .i64 2), (1, .int .i64 4)] rfl rfl (fun w => bld85_2 _ _ w) <| lx_build (.agg #[.int .i64 3, .int .i64 5]) [(0, .int .i64 3), (1, .int .i64 5)] rfl rfl (fun w => bld85_2 _ _ w) <| lx_build (.agg #[.int .i64 4, .int .i64 5]) [(0, .int .i64 4), (1, .int .i64 5)] rfl rfl (fun w => bld85_2 _ _ w) <| lx_buildSlice (E := encP) h.size [((0 : Int), (1 : Int)), ((0 : Int), (2 : Int)), ((1 : Int), (3 : Int)), ((1 : Int), (4 : Int)), ((2 : Int), (4 : Int)), ((3 : Int), (5 : Int)), ((4 : Int), (5 : Int))] [.agg #[.int .i64 0, .int .i64 1], .agg #[.int .i64 0, .int .i64 2], .agg #[.int .i64 1, .int .i64 3], .agg #[.int .i64 1, .int .i64 4], .agg #[.int .i64 2, .int .i64 4], .agg #[.int .i64 3, .int .i64 5], .agg #[.int .i64 4, .int .i64 5]] rfl rfl eT22 rfl rfl rfl rfl (Nat.le_refl _) (fun _ _ _ => trivial) fun v5 h5 ho10 hx3 hvb3 hsz3 => ?_
              have ho11 := ho10.base (Nat.le_refl h.size)
              refine lx_assign (v5) rfl rfl <| lx_nil <| ?_
              -- Jt54.5
              refine J1 _ _ (v5, [((0 : Int), (1 : Int)), ((0 : Int), (2 : Int)), ((1 : Int), (3 : Int)), ((1 : Int), (4 : Int)), ((2 : Int), (4 : Int)), ((3 : Int), (5 : Int)), ((4 : Int), (5 : Int))], 6) (agree_ups rfl agree_upsJ) ⟨rfl, rfl, trivial⟩ ⟨?_, hx3, ?_⟩
              · first | exact ho11 | (simpa using ho11)
              · try dsimp only
                exact kn4
            · refine lx_assign (.bool false) rfl rfl <| lx_nil <| wi_false rfl <| wi_seq <| wi_reg rfl <| lx_eqlS rfl rfl rfl (fun c10 => ?_) (fun c10 => ?_)
              · refine lx_assign (.bool true) rfl rfl <| lx_nil <| wi_true rfl <| wi_seq <| wi_reg rfl <| lx_assign (.int .i64 7) rfl rfl <| lx_nil <| wi_reg rfl <| lx_build (.agg #[.int .i64 6, .int .i64 0]) [(0, .int .i64 6), (1, .int .i64 0)] rfl rfl (fun w => bld85_2 _ _ w) <| lx_build (.agg #[.int .i64 6, .int .i64 1]) [(0, .int .i64 6), (1, .int .i64 1)] rfl rfl (fun w => bld85_2 _ _ w) <| lx_build (.agg #[.int .i64 6, .int .i64 2]) [(0, .int .i64 6), (1, .int .i64 2)] rfl rfl (fun w => bld85_2 _ _ w) <| lx_build (.agg #[.int .i64 0, .int .i64 3]) [(0, .int .i64 0), (1, .int .i64 3)] rfl rfl (fun w => bld85_2 _ _ w) <| lx_build (.agg #[.int .i64 1, .int .i64 3]) [(0, .int .i64 1), (1, .int .i64 3)] rfl rfl (fun w => bld85_2 _ _ w) <| lx_build (.agg #[.int .i64 1, .int .i64 4]) [(0, .int .i64 1), (1, .int .i64 4)] rfl rfl (fun w => bld85_2 _ _ w) <| lx_build (.agg #[.int .i64 2, .int .i64 4]) [(0, .int .i64 2), (1, .int .i64 4)] rfl rfl (fun w => bld85_2 _ _ w) <| lx_build (.agg #[.int .i64 3, .int .i64 5]) [(0, .int .i64 3), (1, .int .i64 5)] rfl rfl (fun w => bld85_2 _ _ w) <| lx_build (.agg #[.int .i64 4, .int .i64 5]) [(0, .int .i64 4), (1, .int .i64 5)] rfl rfl (fun w => bld85_2 _ _ w) <| lx_buildSlice (E := encP) h.size [((6 : Int), (0 : Int)), ((6 : Int), (1 : Int)), ((6 : Int), (2 : Int)), ((0 : Int), (3 : Int)), ((1 : Int), (3 : Int)), ((1 : Int), (4 : Int)), ((2 : Int), (4 : Int)), ((3 : Int), (5 : Int)), ((4 : Int), (5 : Int))] [.agg #[.int .i64 6, .int .i64 0], .agg #[.int .i64 6, .int .i64 1], .agg #[.int .i64 6, .int .i64 2], .agg #[.int .i64 0, .int .i64 3], .agg #[.int .i64 1, .int .i64 3], .agg #[.int .i64 1, .int .i64 4], .agg #[.int .i64 2, .int .i64 4], .agg #[.int .i64 3, .int .i64 5], .agg #[.int .i64 4, .int .i64 5]] rfl rfl eT22 rfl rfl rfl rfl (Nat.le_refl _) (fun _ _ _ => trivial) fun v6 h6 ho12 hx4 hvb4 hsz4 => ?_
                have ho13 := ho12.base (Nat.le_refl h.size)
                refine lx_assign (v6) rfl rfl <| lx_nil <| ?_
                -- Jt54.6
                refine J1 _ _ (v6, [((6 : Int), (0 : Int)), ((6 : Int), (1 : Int)), ((6 : Int), (2 : Int)), ((0 : Int), (3 : Int)), ((1 : Int), (3 : Int)), ((1 : Int), (4 : Int)), ((2 : Int), (4 : Int)), ((3 : Int), (5 : Int)), ((4 : Int), (5 : Int))], 7) (agree_ups rfl agree_upsJ) ⟨rfl, rfl, trivial⟩ ⟨?_, hx4, ?_⟩
                · first | exact ho13 | (simpa using ho13)
                · try dsimp only
                  exact kn5
              · refine lx_assign (.bool false) rfl rfl <| lx_nil <| wi_false rfl <| wi_seq <| wi_reg rfl <| lx_assign (.int .i64 12) rfl rfl <| lx_nil <| wi_seq <| wi_reg rfl <| lx_assign (.int .i64 0) rfl rfl <| lx_nil <| wi_block <| ?_
                refine wi_loop (σ := Nat × Value × (List (Int × Int))) (rngB 56 56 [5, 10, 11, 16, 17, 18, 19, 20, 21, 22, 23, 24, 25, 26, 27, 28, 29, 30, 31, 32, 33, 34, 35, 36, 37, 38, 39, 40, 41, 42, 43, 44, 45, 46, 47, 48, 49, 50, 51, 52, 53]) (fun (ss : Nat × Value × (List (Int × Int))) => [(10, .int .i64 ((ss.1 : Nat) : Int)), (5, ss.2.1)]) (fun (ss : Nat × Value × (List (Int × Int))) (hh : Heap) => OwE encP hh h.size 85 ss.2.1 ss.2.2 ∧ Ext h.size h hh ∧ (UpL 12 ss.2.2) ∧ (ss.2.2.length ≤ 10 * ss.1) ∧ (ss.1 ≤ 4)) (fun (ss : Nat × Value × (List (Int × Int))) => 4 - ss.1) (0, .slice none 0 0, []) ⟨rfl, rfl, trivial⟩ ⟨?_, (Ext.refl _ _), ?_, ?_, ?_⟩ ?_
                · first | exact (owE_nil encP _ h.size 85) | (simpa using (owE_nil encP _ h.size 85))
                · try dsimp only
                  exact upL_nil _
                · try dsimp only
                  exact Nat.zero_le _
                · try dsimp only
                  omega
                rintro g4 ⟨x, v, ls⟩ hh4 ⟨ho14, hx0_6, hu, hll, hx⟩ IH4
                dsimp only at *
                refine wi_seq <| wi_seq <| wi_reg rfl <| lx_move (.int .i64 ((x : Nat) : Int)) rfl rfl <| lx_lssS rfl rfl rfl (fun c11 => ?_) (fun c11 => ?_)
                · refine lx_nil <| wi_true rfl <| wi_skip <| wi_seq <| wi_block <| wi_seq <| wi_reg rfl <| lx_assign (.int .i64 0) rfl rfl <| lx_nil <| wi_block <| ?_
                  refine wi_loop (σ := Nat × Value × (List (Int × Int))) (rngB 56 56 [5, 11, 20, 21, 22, 23, 24, 25, 26, 27, 28, 29, 30, 31, 32, 33, 34, 35, 36, 37, 38, 39, 40, 41, 42, 43, 44, 45, 46, 47, 48, 49, 50, 51, 52, 53]) (fun (ss : Nat × Value × (List (Int × Int))) => [(11, .int .i64 ((ss.1 : Nat) : Int)), (5, ss.2.1)]) (fun (ss : Nat × Value × (List (Int × Int))) (hh : Heap) => OwE encP hh h.size 85 ss.2.1 ss.2.2 ∧ Ext h.size h hh ∧ (UpL 12 ss.2.2) ∧ (ss.2.2.length ≤ 10 * x + 2 * ss.1) ∧ (ss.1 ≤ 3)) (fun (ss : Nat × Value × (List (Int × Int))) => 3 - ss.1) (0, v, ls) ⟨rfl, rfl, trivial⟩ ⟨?_, hx0_6, ?_, ?_, ?_⟩ ?_
                  · first | exact ho14 | (simpa using ho14)
                  · try dsimp only
                    exact hu
                  · try dsimp only
                    first | omega | (simp only [List.length_append, List.length_cons, List.length_nil]; omega)
                  · try dsimp only
                    omega
                  rintro g5 ⟨y, v, ls⟩ hh5 ⟨ho15, hx0_7, hu, hll, hy⟩ IH5
                  dsimp only at *
                  refine wi_seq <| wi_seq <| wi_reg rfl <| lx_move (.int .i64 ((y : Nat) : Int)) rfl rfl <| lx_lssS rfl rfl rfl (fun c12 => ?_) (fun c12 => ?_)
                  · refine lx_nil <| wi_true rfl <| wi_skip <| wi_seq <| wi_block <| wi_seq <| wi_seq <| wi_reg rfl <| lx_move (.int .i64 ((x : Nat) : Int)) rfl rfl <| lx_lssS rfl rfl rfl (fun c13 => ?_) (fun c13 => ?_)
                    · refine lx_nil <| wi_true rfl <| wi_reg rfl <| lx_move (v) rfl rfl <| lx_move (.int .i64 ((x : Nat) : Int)) rfl rfl <| lx_mul (((3 * x : Nat) : Int)) rfl rfl rfl (by omega) (by omega) (by omega) <| lx_move (.int .i64 ((y : Nat) : Int)) rfl rfl <| lx_add (((3 * x + y : Nat) : Int)) rfl rfl rfl (by omega) (by omega) (by omega) <| lx_move (.int .i64 ((x : Nat) : Int)) rfl rfl <| lx_mul (((3 * x : Nat) : Int)) rfl rfl rfl (by omega) (by omega) (by omega) <| lx_move (.int .i64 ((y : Nat) : Int)) rfl rfl <| lx_add (((3 * x + y : Nat) : Int)) rfl rfl rfl (by omega) (by omega) (by omega) <| lx_add (((3 * x + y + 3 : Nat) : Int)) rfl rfl rfl (by omega) (by omega) (by omega) <| lx_build (.agg #[.int .i64 ((3 * x + y : Nat) : Int), .int .i64 ((3 * x + y + 3 : Nat) : Int)]) [(0, .int .i64 ((3 * x + y : Nat) : Int)), (1, .int .i64 ((3 * x + y + 3 : Nat) : Int))] rfl rfl (fun w => bld85_2 _ _ w) <| lx_appendL (E := encP) (B := h.size) [(((3 * x + y : Nat) : Int), ((3 * x + y + 3 : Nat) : Int))] [.agg #[.int .i64 ((3 * x + y : Nat) : Int), .int .i64 ((3 * x + y + 3 : Nat) : Int)]] rfl rfl (fun _ => rfl) rfl eT22 rfl rfl rfl rfl ho15 (fun _ => rfl) (by show ls.length + 1 ≤ _; omega) (by show (ls.length + 1) * 16 ≤ _; omega) hx0_7.size (fun _ _ => trivial) fun u3 v7 h7 ho16 hc3 hg3 => ?_
                      have hx0_8 := hx0_7.trans (ho15.ext hc3 hx0_7.size)
                      refine lx_assign (v7) rfl rfl <| lx_nil <| wi_seq <| wi_reg rfl <| lx_move (.int .i64 ((y : Nat) : Int)) rfl rfl <| lx_lssS rfl rfl rfl (fun c14 => ?_) (fun c14 => ?_)
                      · refine lx_nil <| wi_true rfl <| wi_reg rfl <| lx_move (v7) rfl rfl <| lx_move (.int .i64 ((x : Nat) : Int)) rfl rfl <| lx_mul (((3 * x : Nat) : Int)) rfl rfl rfl (by omega) (by omega) (by omega) <| lx_move (.int .i64 ((y : Nat) : Int)) rfl rfl <| lx_add (((3 * x + y : Nat) : Int)) rfl rfl rfl (by omega) (by omega) (by omega) <| lx_move (.int .i64 ((x : Nat) : Int)) rfl rfl <| lx_mul (((3 * x : Nat) : Int)) rfl rfl rfl (by omega) (by omega) (by omega) <| lx_move (.int .i64 ((y : Nat) : Int)) rfl rfl <| lx_add (((3 * x + y : Nat) : Int)) rfl rfl rfl (by omega) (by omega) (by omega) <| lx_add (((3 * x + y + 1 : Nat) : Int)) rfl rfl rfl (by omega) (by omega) (by omega) <| lx_build (.agg #[.int .i64 ((3 * x + y : Nat) : Int), .int .i64 ((3 * x + y + 1 : Nat) : Int)]) [(0, .int .i64 ((3 * x + y : Nat) : Int)), (1, .int .i64 ((3 * x + y + 1 : Nat) : Int))] rfl rfl (fun w => bld85_2 _ _ w) <| lx_appendL (E := encP) (B := h.size) [(((3 * x + y : Nat) : Int), ((3 * x + y + 1 : Nat) : Int))] [.agg #[.int .i64 ((3 * x + y : Nat) : Int), .int .i64 ((3 * x + y + 1 : Nat) : Int)]] rfl rfl (fun _ => rfl) rfl eT22 rfl rfl rfl rfl ho16 (fun _ => rfl) (by show (ls ++ [(((3 * x + y : Nat) : Int), ((3 * x + y + 3 : Nat) : Int))]).length + 1 ≤ _; simp only [List.length_append, List.length_cons, List.length_nil]; omega) (by show ((ls ++ [(((3 * x + y : Nat) : Int), ((3 * x + y + 3 : Nat) : Int))]).length + 1) * 16 ≤ _; simp only [List.length_append, List.length_cons, List.length_nil]; omega) hx0_8.size (fun _ _ => trivial) fun u4 v8 h8 ho17 hc4 hg4 => ?_
                        have hx0_9 := hx0_8.trans (ho16.ext hc4 hx0_8.size)
                        refine lx_assign (v8) rfl rfl <| lx_nil <| wi_inBlock <| wi_reg rfl <| lx_move (.int .i64 ((y : Nat) : Int)) rfl rfl <| lx_add (((y + 1 : Nat) : Int)) rfl rfl rfl (by omega) (by omega) (by omega) <| lx_assign (.int .i64 ((y + 1 : Nat) : Int)) rfl rfl <| lx_nil <| ?_
                        -- L3.1
                        refine IH5 _ _ (y + 1, v8, (ls ++ [(((3 * x + y : Nat) : Int), ((3 * x + y + 3 : Nat) : Int))]) ++ [(((3 * x + y : Nat) : Int), ((3 * x + y + 1 : Nat) : Int))]) (agree_ups rfl agree_self) ⟨rfl, rfl, trivial⟩ ⟨?_, hx0_9, ?_, ?_, ?_⟩ ?_
                        · first | exact ho17 | (simpa using ho17)
                        · try dsimp only
                          first
                          | exact (hu.snoc (3 * x + y) (3 * x + y + 3) (by omega) (by omega) (by omega) (by omega)).snoc (3 * x + y) (3 * x + y + 1) (by omega) (by omega) (by omega) (by omega)
                          | exact hu.snoc (3 * x + y) (3 * x + y + 3) (by omega) (by omega) (by omega) (by omega)
                          | exact hu.snoc (3 * x + y) (3 * x + y + 1) (by omega) (by omega) (by omega) (by omega)
                          | exact hu
                        · try dsimp only
                          first | omega | (simp only [List.length_append, List.length_cons, List.length_nil]; omega)
                        · try dsimp only
                          omega
                        · first | omega | (dsimp only; omega)
                      · refine lx_nil <| wi_false rfl <| wi_skip <| wi_inBlock <| wi_reg rfl <| lx_move (.int .i64 ((y : Nat) : Int)) rfl rfl <| lx_add (((y + 1 : Nat) : Int)) rfl rfl rfl (by omega) (by omega) (by omega) <| lx_assign (.int .i64 ((y + 1 : Nat) : Int)) rfl rfl <| lx_nil <| ?_
                        -- L3.2
                        refine IH5 _ _ (y + 1, v7, ls ++ [(((3 * x + y : Nat) : Int), ((3 * x + y + 3 : Nat) : Int))]) (agree_ups rfl agree_self) ⟨rfl, rfl, trivial⟩ ⟨?_, hx0_8, ?_, ?_, ?_⟩ ?_
                        · first | exact ho16 | (simpa using ho16)
                        · try dsimp only
                          first
                          | exact (hu.snoc (3 * x + y) (3 * x + y + 3) (by omega) (by omega) (by omega) (by omega)).snoc (3 * x + y) (3 * x + y + 1) (by omega) (by omega) (by omega) (by omega)
                          | exact hu.snoc (3 * x + y) (3 * x + y + 3) (by omega) (by omega) (by omega) (by omega)
                          | exact hu.snoc (3 * x + y) (3 * x + y + 1) (by omega) (by omega) (by omega) (by omega)
                          | exact hu
                        · try dsimp only
                          first | omega | (simp only [List.length_append, List.length_cons, List.length_nil]; omega)
                        · try dsimp only
                          omega
                        · first | omega | (dsimp only; omega)
                    · refine lx_nil <| wi_false rfl <| wi_skip <| wi_seq <| wi_reg rfl <| lx_move (.int .i64 ((y : Nat) : Int)) rfl rfl <| lx_lssS rfl rfl rfl (fun c15 => ?_) (fun c15 => ?_)
                      · refine lx_nil <| wi_true rfl <| wi_reg rfl <| lx_move (v) rfl rfl <| lx_move (.int .i64 ((x : Nat) : Int)) rfl rfl <| lx_mul (((3 * x : Nat) : Int)) rfl rfl rfl (by omega) (by omega) (by omega) <| lx_move (.int .i64 ((y : Nat) : Int)) rfl rfl <| lx_add (((3 * x + y : Nat) : Int)) rfl rfl rfl (by omega) (by omega) (by omega) <| lx_move (.int .i64 ((x : Nat) : Int)) rfl rfl <| lx_mul (((3 * x : Nat) : Int)) rfl rfl rfl (by omega) (by omega) (by omega) <| lx_move (.int .i64 ((y : Nat) : Int)) rfl rfl <| lx_add (((3 * x + y : Nat) : Int)) rfl rfl rfl (by omega) (by omega) (by omega) <| lx_add (((3 * x + y + 1 : Nat) : Int)) rfl rfl rfl (by omega) (by omega) (by omega) <| lx_build (.agg #[.int .i64 ((3 * x + y : Nat) : Int), .int .i64 ((3 * x + y + 1 : Nat) : Int)]) [(0, .int .i64 ((3 * x + y : Nat) : Int)), (1, .int .i64 ((3 * x + y + 1 : Nat) : Int))] rfl rfl (fun w => bld85_2 _ _ w) <| lx_appendL (E := encP) (B := h.size) [(((3 * x + y : Nat) : Int), ((3 * x + y + 1 : Nat) : Int))] [.agg #[.int .i64 ((3 * x + y : Nat) : Int), .int .i64 ((3 * x + y + 1 : Nat) : Int)]] rfl rfl (fun _ => rfl) rfl eT22 rfl rfl rfl rfl ho15 (fun _ => rfl) (by show ls.length + 1 ≤ _; omega) (by show (ls.length + 1) * 16 ≤ _; omega) hx0_7.size (fun _ _ => trivial) fun u5 v9 h9 ho18 hc5 hg5 => ?_
                        have hx0_10 := hx0_7.trans (ho15.ext hc5 hx0_7.size)
                        refine lx_assign (v9) rfl rfl <| lx_nil <| wi_inBlock <| wi_reg rfl <| lx_move (.int .i64 ((y : Nat) : Int)) rfl rfl <| lx_add (((y + 1 : Nat) : Int)) rfl rfl rfl (by omega) (by omega) (by omega) <| lx_assign (.int .i64 ((y + 1 : Nat) : Int)) rfl rfl <| lx_nil <| ?_
                        -- L3.3
                        refine IH5 _ _ (y + 1, v9, ls ++ [(((3 * x + y : Nat) : Int), ((3 * x + y + 1 : Nat) : Int))]) (agree_ups rfl agree_self) ⟨rfl, rfl, trivial⟩ ⟨?_, hx0_10, ?_, ?_, ?_⟩ ?_
                        · first | exact ho18 | (simpa using ho18)
                        · try dsimp only
                          first
                          | exact (hu.snoc (3 * x + y) (3 * x + y + 3) (by omega) (by omega) (by omega) (by omega)).snoc (3 * x + y) (3 * x + y + 1) (by omega) (by omega) (by omega) (by omega)
                          | exact hu.snoc (3 * x + y) (3 * x + y + 3) (by omega) (by omega) (by omega) (by omega)
                          | exact hu.snoc (3 * x + y) (3 * x + y + 1) (by omega) (by omega) (by omega) (by omega)
                          | exact hu
                        · try dsimp only
                          first | omega | (simp only [List.length_append, List.length_cons, List.length_nil]; omega)
                        · try dsimp only
                          omega
                        · first | omega | (dsimp only; omega)
                      · refine lx_nil <| wi_false rfl <| wi_skip <| wi_inBlock <| wi_reg rfl <| lx_move (.int .i64 ((y : Nat) : Int)) rfl rfl <| lx_add (((y + 1 : Nat) : Int)) rfl rfl rfl (by omega) (by omega) (by omega) <| lx_assign (.int .i64 ((y + 1 : Nat) : Int)) rfl rfl <| lx_nil <| ?_
                        -- L3.4
                        refine IH5 _ _ (y + 1, v, ls) (agree_ups rfl agree_self) ⟨rfl, rfl, trivial⟩ ⟨?_, hx0_7, ?_, ?_, ?_⟩ ?_
                        · first | exact ho15 | (simpa using ho15)
                        · try dsimp only
                          first
                          | exact (hu.snoc (3 * x + y) (3 * x + y + 3) (by omega) (by omega) (by omega) (by omega)).snoc (3 * x + y) (3 * x + y + 1) (by omega) (by omega) (by omega) (by omega)
                          | exact hu.snoc (3 * x + y) (3 * x + y + 3) (by omega) (by omega) (by omega) (by omega)
                          | exact hu.snoc (3 * x + y) (3 * x + y + 1) (by omega) (by omega) (by omega) (by omega)
                          | exact hu
                        · try dsimp only
                          first | omega | (simp only [List.length_append, List.length_cons, List.length_nil]; omega)
                        · try dsimp only
                          omega
                        · first | omega | (dsimp only; omega)
                  · refine lx_nil <| wi_false rfl <| wi_exit rfl <| wi_inBlock <| wi_reg rfl <| lx_move (.int .i64 ((x : Nat) : Int)) rfl rfl <| lx_add (((x + 1 : Nat) : Int)) rfl rfl rfl (by omega) (by omega) (by omega) <| lx_assign (.int .i64 ((x + 1 : Nat) : Int)) rfl rfl <| lx_nil <| ?_
                    -- L1.1
                    refine IH4 _ _ (x + 1, v, ls) (agree_ups rfl (agree_mix (rngB_sub (by decide) (by decide) rfl) (agree_ups rfl agree_self))) ⟨rfl, rfl, trivial⟩ ⟨?_, hx0_7, ?_, ?_, ?_⟩ ?_
                    · first | exact ho15 | (simpa using ho15)
                    · try dsimp only
                      exact hu
                    · try dsimp only
                      omega
                    · try dsimp only
                      omega
                    · first | omega | (dsimp only; omega)
                · refine lx_nil <| wi_false rfl <| wi_exit rfl <| ?_
                  -- Jt54.7
                  refine J1 _ _ (v, ls, 12) (agree_ups rfl (agree_mix (rngB_sub (by decide) (by decide) rfl) (agree_ups rfl agree_upsJ))) ⟨rfl, rfl, trivial⟩ ⟨?_, hx0_6, ?_⟩
                  · first | exact ho14 | (simpa using ho14)
                  · try dsimp only
                    exact kn_up (by omega) (by omega) (by omega) hu
  rintro g6 ⟨vo, ls, size⟩ hh6 ⟨ho19, hx0_11, hk⟩
  dsimp only at *
  refine wi_inBlock <| wi_seq <| wi_seq <| wi_reg rfl <| ?_
  have hkn := kn_of hk
  obtain ⟨hk1, hk2, hk3⟩ := hkn.1
  refine lx_move (.int .i64 ((size : Nat) : Int)) rfl rfl <| lx_move (.int .i64 ((most : Nat) : Int)) rfl rfl <| lx_gtrS rfl rfl rfl (fun c16 => ?_) (fun c16 => ?_)
  · refine lx_nil <| wi_true rfl <| wi_seq <| wi_reg rfl <| lx_assign (.slice none 0 0) rfl rfl <| lx_nil <| ?_
    -- R1
    refine wi_ret ⟨.slice none 0 0, (res_one rfl rfl), ⟨.slice none 0 0, [], [], rfl, (owE_nil encHd _ h.size 70), (OT.nil encB _ h.size 4), ?_, hx0_11⟩⟩
    · exact .inl rfl
  · refine lx_nil <| wi_false rfl <| wi_skip <| wi_seq <| wi_reg rfl <| lx_move (.int .i64 ((size : Nat) : Int)) rfl rfl <| lx_move (vo) rfl rfl <| lx_call [.int .i64 ((size : Nat) : Int), vo] rfl rfl Try.call64 rfl (rclosure_spec hh6 size vo ls ho19.rd (by omega) (by omega) hkn.2.1) (fun _ _ _ => trivial) ?_
    rintro _ h10 ⟨vr, hsr, rfl, ho20, hot1, hx5⟩
    have hx0_12 := hx0_11.trans2 hx5 hx0_11.size
    have ho21 := ho19.extS hx5
    have ho22 := ho20.base hx0_11.size
    have hot2 := hot1.base hx0_11.size
    have hl_hot2 := hot2.1
    refine lx_move (.tuple #[vr, .bool (ordB size (closW size ls))]) rfl rfl <| lx_extract (vr) rfl rfl rfl <| lx_extract (.bool (ordB size (closW size ls))) rfl rfl rfl <| lx_assign (vr) rfl rfl <| lx_assign (.bool (ordB size (closW size ls))) rfl rfl <| lx_nil <| wi_seq <| wi_reg rfl <| lx_move (vr) rfl rfl <| lx_assign (vr) rfl rfl <| lx_nil <| ?_
    -- R2
    refine wi_ret ⟨vr, (res_one rfl rfl), ⟨vr, hsr, tabF size (closW size ls), rfl, ho22, hot2, ?_, hx0_12⟩⟩
    · exact .inr ⟨isT_tabF (ordB_iff.1 hkn.2.2), by rw [tabF_length]; omega, by rw [tabF_length]; omega⟩

set_option maxRecDepth 10000 in
theorem tame_spec (h : Heap) (n : Int) (vl : Value) (ls : List (Int × Int)) (most : Nat) (hr_vl : RdE encP h vl ls) (hp1 : ls.length ≤ 9223372036854775807) (hp2 : 1 ≤ most) (hp3 : most ≤ 12) : Fx Try.prog 15 [.int .i64 n, vl, .int .i64 ((most : Nat) : Int)] h (fun v h' => ∃ (s : Value) (hs : List Hdr) (p : List (List Bool)), v = s ∧ OwE encHd h' h.size 70 s hs ∧ OT encB h' h.size 4 hs p ∧ (isT p = true ∧ 1 ≤ p.length ∧ p.length ≤ most) ∧ Ext h.size h h') := by
  refine fx_intro (n := 106) [(0, .int .i64 n), (1, vl), (2, .int .i64 ((most : Nat) : Int))] Try.func15 rfl rfl (by simp) ⟨rfl, rfl, rfl, trivial⟩ fun g0 => ?_
  refine wi_seq <| wi_reg rfl <| lx_assign (.slice none 0 0) rfl rfl <| lx_nil <| wi_seq <| wi_reg rfl <| ?_
  have hmd := Nat.mod_lt (ur n) (show 0 < most by omega)
  refine lx_move (.int .i64 n) rfl rfl <| lx_conv ((ur n : Nat) : Int) rfl Try.underlying3 Try.underlying45 rfl (wrap_ur _) <| lx_move (.int .i64 ((most : Nat) : Int)) rfl rfl <| lx_conv ((most : Nat) : Int) rfl Try.underlying3 Try.underlying45 rfl (wrap_u64 (by omega) (by omega)) <| lx_rem (m := ur n) (n := most) rfl rfl rfl (by omega) <| lx_conv (((ur n) % most : Nat) : Int) rfl Try.underlying45 Try.underlying3 rfl (wrap_i64 (by omega) (by omega)) <| lx_add (((1 + ((ur n) % most) : Nat) : Int)) rfl rfl rfl (by omega) (by omega) (by omega) <| lx_assign (.int .i64 ((1 + ((ur n) % most) : Nat) : Int)) rfl rfl <| lx_nil <| wi_seq <| wi_seq <| wi_reg rfl <| lx_move (vl) rfl rfl <| lx_len rfl Try.underlying22 hr_vl rfl <| lx_gtrS rfl rfl rfl (fun c1 => ?_) (fun c1 => ?_)
  · refine lx_move (.bool true) rfl rfl <| lx_move (vl) rfl rfl <| lx_ix (i := 0) rfl eT22 hr_vl rfl rfl (by omega) <| lx_ixP (i := 0) (c := 0) rfl Try.underlying85 Try.sizeOf3 hr_vl (by omega) rfl rfl (by decide) <| lx_ld (i := 0) (j := 0) (.int .i64 ((gt ls 0).1)) rfl rfl fl3 hr_vl (by omega) rfl rfl <| lx_conv ((ur ((gt ls 0).1) : Nat) : Int) rfl Try.underlying3 Try.underlying45 rfl (wrap_ur _) <| lx_rem (m := ur ((gt ls 0).1)) (n := 3) rfl rfl rfl (by omega) <| lx_eqlS rfl rfl rfl (fun c2 => ?_) (fun c2 => ?_)
    · refine lx_pick true (.bool true) rfl rfl rfl <| lx_nil <| wi_true rfl <| wi_seq <| wi_reg rfl <| lx_move (vl) rfl rfl <| lx_ix (i := 0) rfl eT22 hr_vl rfl rfl (by omega) <| lx_ixP (i := 0) (c := 1) rfl Try.underlying85 Try.sizeOf3 hr_vl (by omega) rfl rfl (by decide) <| lx_ld (i := 0) (j := 1) (.int .i64 ((gt ls 0).2)) rfl rfl fl3 hr_vl (by omega) rfl rfl <| lx_conv ((ur ((gt ls 0).2) : Nat) : Int) rfl Try.underlying3 Try.underlying45 rfl (wrap_ur _) <| lx_move (.int .i64 ((most : Nat) : Int)) rfl rfl <| lx_call [.int .u64 ((ur ((gt ls 0).2) : Nat) : Int), .int .i64 ((most : Nat) : Int)] rfl rfl Try.call75 rfl (known_spec h most (ur ((gt ls 0).2)) (ur_lt _) (by omega) (by omega)) (fun _ _ _ => trivial) ?_
      rintro vk h1 ⟨_, hsk, pk, rfl, ho1, hot1, hkn, hx1⟩
      have ho2 := ho1.base (Nat.le_refl h.size)
      have hot2 := hot1.base (Nat.le_refl h.size)
      have hl_hot2 := hot2.1
      refine lx_assign (vk) rfl rfl <| lx_nil <| wi_seq <| wi_reg rfl <| lx_move (vk) rfl rfl <| lx_len rfl Try.underlying23 ho2.rd rfl <| lx_gtrS rfl rfl rfl (fun c3 => ?_) (fun c3 => ?_)
      · refine lx_nil <| wi_true rfl <| wi_seq <| wi_reg rfl <| lx_move (vk) rfl rfl <| lx_assign (vk) rfl rfl <| lx_nil <| ?_
        -- R1
        refine wi_ret ⟨vk, (res_one rfl rfl), ⟨vk, hsk, pk, rfl, ho2, hot2, ?_, hx1⟩⟩
        · rcases hkn with h9 | h9
          · exfalso; have h8 : pk.length = 0 := by rw [h9]; rfl
            omega
          · exact h9
      · refine lx_nil <| wi_false rfl <| wi_skip <| wi_seq <| wi_reg rfl <| lx_assign (.slice none 0 0) rfl rfl <| lx_nil <| wi_seq <| wi_seq <| wi_reg rfl <| lx_assign (.int .i64 0) rfl rfl <| lx_nil <| wi_block <| ?_
        refine wi_loop (σ := Nat × Value × (List (Int × Int))) (rngB 45 92 [9, 10, 11, 12]) (fun (ss : Nat × Value × (List (Int × Int))) => [(10, .int .i64 ((ss.1 : Nat) : Int)), (9, ss.2.1)]) (fun (ss : Nat × Value × (List (Int × Int))) (hh : Heap) => OwE encP hh h.size 85 ss.2.1 ss.2.2 ∧ Ext h.size h hh ∧ (ss.1 ≤ ls.length ∧ ss.1 ≤ 20) ∧ (ss.2.2.length ≤ ss.1) ∧ (∀ j, j < ss.2.2.length → Go.X.inR (((1 + ur n % most) : Nat) : Int) (gt ss.2.2 j) = true)) (fun (ss : Nat × Value × (List (Int × Int))) => ls.length - ss.1) (0, .slice none 0 0, []) ⟨rfl, rfl, trivial⟩ ⟨?_, hx1, ?_, ?_, ?_⟩ ?_
        · first | exact (owE_nil encP _ h.size 85) | (simpa using (owE_nil encP _ h.size 85))
        · try dsimp only
          omega
        · try dsimp only
          exact Nat.zero_le _
        · try dsimp only
          intro j hj; cases hj
        rintro g1 ⟨i, v, xs⟩ hh1 ⟨ho3, hx0_1, hi, hxl, hr⟩ IH1
        dsimp only at *
        refine wi_seq <| wi_seq <| wi_reg rfl <| lx_move (.int .i64 ((i : Nat) : Int)) rfl rfl <| lx_move (vl) rfl rfl <| lx_len rfl Try.underlying22 hr_vl rfl <| lx_lssS rfl rfl rfl (fun c4 => ?_) (fun c4 => ?_)
        · refine lx_move (.bool true) rfl rfl <| lx_move (.int .i64 ((i : Nat) : Int)) rfl rfl <| lx_lssS rfl rfl rfl (fun c5 => ?_) (fun c5 => ?_)
          · refine lx_pick true (.bool true) rfl rfl rfl <| lx_nil <| wi_true rfl <| wi_skip <| wi_seq <| wi_block <| wi_seq <| wi_draw mo rfl (by decide +kernel) <| ?_
            have hma := Nat.mod_lt (ur (gt ls i).1) (show 0 < 1 + ur n % most by omega)
            have hmb := Nat.mod_lt (ur (gt ls i).2) (show 0 < 1 + ur n % most by omega)
            refine lx_move (vl) rfl rfl <| lx_move (.int .i64 ((i : Nat) : Int)) rfl rfl <| lx_ix (i := i) rfl eT22 hr_vl rfl rfl (by omega) <| lx_ixP (i := i) (c := 0) rfl Try.underlying85 Try.sizeOf3 hr_vl (by omega) rfl rfl (by decide) <| lx_ld (i := i) (j := 0) (.int .i64 ((gt ls i).1)) rfl rfl fl3 (hr_vl.extS hx0_1) (by omega) rfl rfl <| lx_conv ((ur ((gt ls i).1) : Nat) : Int) rfl Try.underlying3 Try.underlying45 rfl (wrap_ur _) <| lx_move (.int .i64 ((1 + ((ur n) % most) : Nat) : Int)) rfl rfl <| lx_conv ((1 + ((ur n) % most) : Nat) : Int) rfl Try.underlying3 Try.underlying45 rfl (wrap_u64 (by omega) (by omega)) <| lx_rem (m := ur ((gt ls i).1)) (n := 1 + ((ur n) % most)) rfl rfl rfl (by omega) <| lx_conv (((ur ((gt ls i).1)) % (1 + ((ur n) % most)) : Nat) : Int) rfl Try.underlying45 Try.underlying3 rfl (wrap_i64 (by omega) (by omega)) <| lx_move (vl) rfl rfl <| lx_move (.int .i64 ((i : Nat) : Int)) rfl rfl <| lx_ix (i := i) rfl eT22 hr_vl rfl rfl (by omega) <| lx_ixP (i := i) (c := 1) rfl Try.underlying85 Try.sizeOf3 hr_vl (by omega) rfl rfl (by decide) <| lx_ld (i := i) (j := 1) (.int .i64 ((gt ls i).2)) rfl rfl fl3 (hr_vl.extS hx0_1) (by omega) rfl rfl <| lx_conv ((ur ((gt ls i).2) : Nat) : Int) rfl Try.underlying3 Try.underlying45 rfl (wrap_ur _) <| lx_move (.int .i64 ((1 + ((ur n) % most) : Nat) : Int)) rfl rfl <| lx_conv ((1 + ((ur n) % most) : Nat) : Int) rfl Try.underlying3 Try.underlying45 rfl (wrap_u64 (by omega) (by omega)) <| lx_rem (m := ur ((gt ls i).2)) (n := 1 + ((ur n) % most)) rfl rfl rfl (by omega) <| lx_conv (((ur ((gt ls i).2)) % (1 + ((ur n) % most)) : Nat) : Int) rfl Try.underlying45 Try.underlying3 rfl (wrap_i64 (by omega) (by omega)) <| lx_assign (.int .i64 (((ur ((gt ls i).1)) % (1 + ((ur n) % most)) : Nat) : Int)) rfl rfl <| lx_assign (.int .i64 (((ur ((gt ls i).2)) % (1 + ((ur n) % most)) : Nat) : Int)) rfl rfl <| lx_nil <| wi_seq <| wi_seq <| wi_reg rfl <| lx_move (.int .i64 (((ur ((gt ls i).1)) % (1 + ((ur n) % most)) : Nat) : Int)) rfl rfl <| lx_mul (((5 * ((ur ((gt ls i).1)) % (1 + ((ur n) % most))) : Nat) : Int)) rfl rfl rfl (by omega) (by omega) (by omega) <| lx_add (((5 * ((ur ((gt ls i).1)) % (1 + ((ur n) % most))) + 1 : Nat) : Int)) rfl rfl rfl (by omega) (by omega) (by omega) <| lx_rem (m := 5 * ((ur ((gt ls i).1)) % (1 + ((ur n) % most))) + 1) (n := 13) rfl rfl rfl (by omega) <| lx_move (.int .i64 (((ur ((gt ls i).2)) % (1 + ((ur n) % most)) : Nat) : Int)) rfl rfl <| lx_mul (((5 * ((ur ((gt ls i).2)) % (1 + ((ur n) % most))) : Nat) : Int)) rfl rfl rfl (by omega) (by omega) (by omega) <| lx_add (((5 * ((ur ((gt ls i).2)) % (1 + ((ur n) % most))) + 1 : Nat) : Int)) rfl rfl rfl (by omega) (by omega) (by omega) <| lx_rem (m := 5 * ((ur ((gt ls i).2)) % (1 + ((ur n) % most))) + 1) (n := 13) rfl rfl rfl (by omega) <| lx_gtrS rfl rfl rfl (fun c6 => ?_) (fun c6 => ?_)
            · refine lx_nil <| wi_true rfl <| wi_reg rfl <| lx_move (.int .i64 (((ur ((gt ls i).2)) % (1 + ((ur n) % most)) : Nat) : Int)) rfl rfl <| lx_move (.int .i64 (((ur ((gt ls i).1)) % (1 + ((ur n) % most)) : Nat) : Int)) rfl rfl <| lx_assign (.int .i64 (((ur ((gt ls i).2)) % (1 + ((ur n) % most)) : Nat) : Int)) rfl rfl <| lx_assign (.int .i64 (((ur ((gt ls i).1)) % (1 + ((ur n) % most)) : Nat) : Int)) rfl rfl <| lx_nil <| wi_reg rfl <| lx_move (v) rfl rfl <| lx_move (.int .i64 (((ur ((gt ls i).2)) % (1 + ((ur n) % most)) : Nat) : Int)) rfl rfl <| lx_move (.int .i64 (((ur ((gt ls i).1)) % (1 + ((ur n) % most)) : Nat) : Int)) rfl rfl <| lx_build (.agg #[.int .i64 (((ur ((gt ls i).2)) % (1 + ((ur n) % most)) : Nat) : Int), .int .i64 (((ur ((gt ls i).1)) % (1 + ((ur n) % most)) : Nat) : Int)]) [(0, .int .i64 (((ur ((gt ls i).2)) % (1 + ((ur n) % most)) : Nat) : Int)), (1, .int .i64 (((ur ((gt ls i).1)) % (1 + ((ur n) % most)) : Nat) : Int))] rfl rfl (fun w => bld85_2 _ _ w) <| lx_appendL (E := encP) (B := h.size) [((((ur ((gt ls i).2)) % (1 + ((ur n) % most)) : Nat) : Int), (((ur ((gt ls i).1)) % (1 + ((ur n) % most)) : Nat) : Int))] [.agg #[.int .i64 (((ur ((gt ls i).2)) % (1 + ((ur n) % most)) : Nat) : Int), .int .i64 (((ur ((gt ls i).1)) % (1 + ((ur n) % most)) : Nat) : Int)]] rfl rfl (fun _ => rfl) rfl eT22 rfl rfl rfl rfl ho3 (fun _ => rfl) (by show xs.length + 1 ≤ _; omega) (by show (xs.length + 1) * 16 ≤ _; omega) hx0_1.size (fun _ _ => trivial) fun u1 v1 h2 ho4 hc1 hg1 => ?_
              have hx0_2 := hx0_1.trans (ho3.ext hc1 hx0_1.size)
              refine lx_assign (v1) rfl rfl <| lx_nil <| wi_inBlock <| wi_reg rfl <| lx_move (.int .i64 ((i : Nat) : Int)) rfl rfl <| lx_add (((i + 1 : Nat) : Int)) rfl rfl rfl (by omega) (by omega) (by omega) <| lx_assign (.int .i64 ((i + 1 : Nat) : Int)) rfl rfl <| lx_nil <| ?_
              -- L0.1
              refine IH1 _ _ (i + 1, v1, xs ++ [((((ur ((gt ls i).2)) % (1 + ((ur n) % most)) : Nat) : Int), (((ur ((gt ls i).1)) % (1 + ((ur n) % most)) : Nat) : Int))]) (agree_ups rfl agree_self) ⟨rfl, rfl, trivial⟩ ⟨?_, hx0_2, ?_, ?_, ?_⟩ ?_
              · first | exact ho4 | (simpa using ho4)
              · try dsimp only
                omega
              · try dsimp only
                first | omega | (simp only [List.length_append, List.length_cons, List.length_nil]; omega)
              · try dsimp only
                intro j hj
                rw [List.length_append, List.length_cons, List.length_nil] at hj
                by_cases e : j < xs.length
                · rw [gt_append_left e]; exact hr j e
                · rw [show j = xs.length from by omega, gt_append_right]
                  exact Go.X.inR_iff.2 ⟨by show (0 : Int) ≤ ((_ : Nat) : Int); omega, by show (0 : Int) ≤ ((_ : Nat) : Int); omega, by show ((_ : Nat) : Int) < _; omega, by show ((_ : Nat) : Int) < _; omega⟩
              · first | omega | (dsimp only; omega)
            · refine lx_nil <| wi_false rfl <| wi_skip <| wi_reg rfl <| lx_move (v) rfl rfl <| lx_move (.int .i64 (((ur ((gt ls i).1)) % (1 + ((ur n) % most)) : Nat) : Int)) rfl rfl <| lx_move (.int .i64 (((ur ((gt ls i).2)) % (1 + ((ur n) % most)) : Nat) : Int)) rfl rfl <| lx_build (.agg #[.int .i64 (((ur ((gt ls i).1)) % (1 + ((ur n) % most)) : Nat) : Int), .int .i64 (((ur ((gt ls i).2)) % (1 + ((ur n) % most)) : Nat) : Int)]) [(0, .int .i64 (((ur ((gt ls i).1)) % (1 + ((ur n) % most)) : Nat) : Int)), (1, .int .i64 (((ur ((gt ls i).2)) % (1 + ((ur n) % most)) : Nat) : Int))] rfl rfl (fun w => bld85_2 _ _ w) <| lx_appendL (E := encP) (B := h.size) [((((ur ((gt ls i).1)) % (1 + ((ur n) % most)) : Nat) : Int), (((ur ((gt ls i).2)) % (1 + ((ur n) % most)) : Nat) : Int))] [.agg #[.int .i64 (((ur ((gt ls i).1)) % (1 + ((ur n) % most)) : Nat) : Int), .int .i64 (((ur ((gt ls i).2)) % (1 + ((ur n) % most)) : Nat) : Int)]] rfl rfl (fun _ => rfl) rfl eT22 rfl rfl rfl rfl ho3 (fun _ => rfl) (by show xs.length + 1 ≤ _; omega) (by show (xs.length + 1) * 16 ≤ _; omega) hx0_1.size (fun _ _ => trivial) fun u2 v2 h3 ho5 hc2 hg2 => ?_
              have hx0_3 := hx0_1.trans (ho3.ext hc2 hx0_1.size)
              refine lx_assign (v2) rfl rfl <| lx_nil <| wi_inBlock <| wi_reg rfl <| lx_move (.int .i64 ((i : Nat) : Int)) rfl rfl <| lx_add (((i + 1 : Nat) : Int)) rfl rfl rfl (by omega) (by omega) (by omega) <| lx_assign (.int .i64 ((i + 1 : Nat) : Int)) rfl rfl <| lx_nil <| ?_
              -- L0.2
              refine IH1 _ _ (i + 1, v2, xs ++ [((((ur ((gt ls i).1)) % (1 + ((ur n) % most)) : Nat) : Int), (((ur ((gt ls i).2)) % (1 + ((ur n) % most)) : Nat) : Int))]) (agree_ups rfl agree_self) ⟨rfl, rfl, trivial⟩ ⟨?_, hx0_3, ?_, ?_, ?_⟩ ?_
              · first | exact ho5 | (simpa using ho5)
              · try dsimp only
                omega
              · try dsimp only
                first | omega | (simp only [List.length_append, List.length_cons, List.length_nil]; omega)
              · try dsimp only
                intro j hj
                rw [List.length_append, List.length_cons, List.length_nil] at hj
                by_cases e : j < xs.length
                · rw [gt_append_left e]; exact hr j e
                · rw [show j = xs.length from by omega, gt_append_right]
                  exact Go.X.inR_iff.2 ⟨by show (0 : Int) ≤ ((_ : Nat) : Int); omega, by show (0 : Int) ≤ ((_ : Nat) : Int); omega, by show ((_ : Nat) : Int) < _; omega, by show ((_ : Nat) : Int) < _; omega⟩
              · first | omega | (dsimp only; omega)
          · refine lx_pick true (.bool false) rfl rfl rfl <| lx_nil <| wi_false rfl <| wi_exit rfl <| wi_seq <| wi_reg rfl <| lx_move (.int .i64 ((1 + ((ur n) % most) : Nat) : Int)) rfl rfl <| lx_move (v) rfl rfl <| lx_call [.int .i64 ((1 + ((ur n) % most) : Nat) : Int), v] rfl rfl Try.call64 rfl (rclosure_spec hh1 (1 + ((ur n) % most)) v xs ho3.rd (by omega) (by omega) hr) (fun _ _ _ => trivial) ?_
            rintro _ h4 ⟨vr, hsr, rfl, ho6, hot3, hx2⟩
            have hx0_4 := hx0_1.trans2 hx2 hx0_1.size
            have ho7 := ho3.extS hx2
            have ho8 := ho6.base hx0_1.size
            have hot4 := hot3.base hx0_1.size
            have hl_hot4 := hot4.1
            refine lx_move (.tuple #[vr, .bool (ordB (1 + ((ur n) % most)) (closW (1 + ((ur n) % most)) xs))]) rfl rfl <| lx_extract (vr) rfl rfl rfl <| lx_extract (.bool (ordB (1 + ((ur n) % most)) (closW (1 + ((ur n) % most)) xs))) rfl rfl rfl <| lx_assign (vr) rfl rfl <| lx_assign (.bool (ordB (1 + ((ur n) % most)) (closW (1 + ((ur n) % most)) xs))) rfl rfl <| lx_nil <| wi_seq <| wi_seq <| wi_reg rfl <| lx_move (.bool (ordB (1 + ((ur n) % most)) (closW (1 + ((ur n) % most)) xs))) rfl rfl <| lx_not rfl rfl <| lx_nil <| wi_condS (t := !(ordB (1 + ((ur n) % most)) (closW (1 + ((ur n) % most)) xs))) rfl (fun c7 => ?_) (fun c7 => ?_)
            · refine wi_reg rfl <| lx_move (.int .i64 ((1 + ((ur n) % most) : Nat) : Int)) rfl rfl <| lx_call [.int .i64 ((1 + ((ur n) % most) : Nat) : Int), .slice none 0 0] rfl rfl Try.call64 rfl (rclosure_spec h4 (1 + ((ur n) % most)) ((.slice none 0 0)) ([]) (owE_nil encP _ 0 0).rd (by omega) (by decide) (fun j hj => by cases hj)) (fun _ _ _ => trivial) ?_
              rintro _ h5 ⟨vz, hsz, rfl, ho9, hot5, hx3⟩
              have hx0_5 := hx0_4.trans2 hx3 hx0_4.size
              have ho10 := ho7.extS hx3
              have ho11 := ho8.extS hx3
              have hot6 := hot4.extS hx3
              have ho12 := ho9.base hx0_4.size
              have hot7 := hot5.base hx0_4.size
              have hl_hot7 := hot7.1
              refine lx_move (.tuple #[vz, .bool (ordB (1 + ((ur n) % most)) (closW (1 + ((ur n) % most)) ([])))]) rfl rfl <| lx_extract (vz) rfl rfl rfl <| lx_extract (.bool (ordB (1 + ((ur n) % most)) (closW (1 + ((ur n) % most)) ([])))) rfl rfl rfl <| lx_assign (vz) rfl rfl <| lx_nil <| wi_seq <| wi_reg rfl <| lx_move (vz) rfl rfl <| lx_assign (vz) rfl rfl <| lx_nil <| ?_
              -- R2
              refine wi_ret ⟨vz, (res_one rfl rfl), ⟨vz, hsz, tabF (1 + ((ur n) % most)) (closW (1 + ((ur n) % most)) ([])), rfl, ho12, hot7, ?_, hx0_5⟩⟩
              · first
                | exact ⟨isT_tabF (ordB_iff.1 (by simpa using ‹(!ordB (1 + ur n % most) (closW (1 + ur n % most) xs)) = false›)), by rw [tabF_length]; omega, by rw [tabF_length]; omega⟩
                | exact ⟨isT_tabF (up_order fun d hd => by cases hd), by rw [tabF_length]; omega, by rw [tabF_length]; omega⟩
            · refine wi_skip <| wi_seq <| wi_reg rfl <| lx_move (vr) rfl rfl <| lx_assign (vr) rfl rfl <| lx_nil <| ?_
              -- R3
              refine wi_ret ⟨vr, (res_one rfl rfl), ⟨vr, hsr, tabF (1 + ((ur n) % most)) (closW (1 + ((ur n) % most)) xs), rfl, ho8, hot4, ?_, hx0_4⟩⟩
              · first
                | exact ⟨isT_tabF (ordB_iff.1 (by simpa using ‹(!ordB (1 + ur n % most) (closW (1 + ur n % most) xs)) = false›)), by rw [tabF_length]; omega, by rw [tabF_length]; omega⟩
                | exact ⟨isT_tabF (up_order fun d hd => by cases hd), by rw [tabF_length]; omega, by rw [tabF_length]; omega⟩
        · refine lx_move (.bool false) rfl rfl <| lx_skip rfl <| lx_skip rfl <| lx_pick false (.bool false) rfl rfl rfl <| lx_nil <| wi_false rfl <| wi_exit rfl <| wi_seq <| wi_reg rfl <| lx_move (.int .i64 ((1 + ((ur n) % most) : Nat) : Int)) rfl rfl <| lx_move (v) rfl rfl <| lx_call [.int .i64 ((1 + ((ur n) % most) : Nat) : Int), v] rfl rfl Try.call64 rfl (rclosure_spec hh1 (1 + ((ur n) % most)) v xs ho3.rd (by omega) (by omega) hr) (fun _ _ _ => trivial) ?_
          rintro _ h6 ⟨vr, hsr, rfl, ho13, hot8, hx4⟩
          have hx0_6 := hx0_1.trans2 hx4 hx0_1.size
          have ho14 := ho3.extS hx4
          have ho15 := ho13.base hx0_1.size
          have hot9 := hot8.base hx0_1.size
          have hl_hot9 := hot9.1
          refine lx_move (.tuple #[vr, .bool (ordB (1 + ((ur n) % most)) (closW (1 + ((ur n) % most)) xs))]) rfl rfl <| lx_extract (vr) rfl rfl rfl <| lx_extract (.bool (ordB (1 + ((ur n) % most)) (closW (1 + ((ur n) % most)) xs))) rfl rfl rfl <| lx_assign (vr) rfl rfl <| lx_assign (.bool (ordB (1 + ((ur n) % most)) (closW (1 + ((ur n) % most)) xs))) rfl rfl <| lx_nil <| wi_seq <| wi_seq <| wi_reg rfl <| lx_move (.bool (ordB (1 + ((ur n) % most)) (closW (1 + ((ur n) % most)) xs))) rfl rfl <| lx_not rfl rfl <| lx_nil <| wi_condS (t := !(ordB (1 + ((ur n) % most)) (closW (1 + ((ur n) % most)) xs))) rfl (fun c8 => ?_) (fun c8 => ?_)
          · refine wi_reg rfl <| lx_move (.int .i64 ((1 + ((ur n) % most) : Nat) : Int)) rfl rfl <| lx_call [.int .i64 ((1 + ((ur n) % most) : Nat) : Int), .slice none 0 0] rfl rfl Try.call64 rfl (rclosure_spec h6 (1 + ((ur n) % most)) ((.slice none 0 0)) ([]) (owE_nil encP _ 0 0).rd (by omega) (by decide) (fun j hj => by cases hj)) (fun _ _ _ => trivial) ?_
            rintro _ h7 ⟨vz, hsz, rfl, ho16, hot10, hx5⟩
            have hx0_7 := hx0_6.trans2 hx5 hx0_6.size
            have ho17 := ho14.extS hx5
            have ho18 := ho15.extS hx5
            have hot11 := hot9.extS hx5
            have ho19 := ho16.base hx0_6.size
            have hot12 := hot10.base hx0_6.size
            have hl_hot12 := hot12.1
            refine lx_move (.tuple #[vz, .bool (ordB (1 + ((ur n) % most)) (closW (1 + ((ur n) % most)) ([])))]) rfl rfl <| lx_extract (vz) rfl rfl rfl <| lx_extract (.bool (ordB (1 + ((ur n) % most)) (closW (1 + ((ur n) % most)) ([])))) rfl rfl rfl <| lx_assign (vz) rfl rfl <| lx_nil <| wi_seq <| wi_reg rfl <| lx_move (vz) rfl rfl <| lx_assign (vz) rfl rfl <| lx_nil <| ?_
            -- R4
            refine wi_ret ⟨vz, (res_one rfl rfl), ⟨vz, hsz, tabF (1 + ((ur n) % most)) (closW (1 + ((ur n) % most)) ([])), rfl, ho19, hot12, ?_, hx0_7⟩⟩
            · first
              | exact ⟨isT_tabF (ordB_iff.1 (by simpa using ‹(!ordB (1 + ur n % most) (closW (1 + ur n % most) xs)) = false›)), by rw [tabF_length]; omega, by rw [tabF_length]; omega⟩
              | exact ⟨isT_tabF (up_order fun d hd => by cases hd), by rw [tabF_length]; omega, by rw [tabF_length]; omega⟩
          · refine wi_skip <| wi_seq <| wi_reg rfl <| lx_move (vr) rfl rfl <| lx_assign (vr) rfl rfl <| lx_nil <| ?_
            -- R5
            refine wi_ret ⟨vr, (res_one rfl rfl), ⟨vr, hsr, tabF (1 + ((ur n) % most)) (closW (1 + ((ur n) % most)) xs), rfl, ho15, hot9, ?_, hx0_6⟩⟩
            · first
              | exact ⟨isT_tabF (ordB_iff.1 (by simpa using ‹(!ordB (1 + ur n % most) (closW (1 + ur n % most) xs)) = false›)), by rw [tabF_length]; omega, by rw [tabF_length]; omega⟩
              | exact ⟨isT_tabF (up_order fun d hd => by cases hd), by rw [tabF_length]; omega, by rw [tabF_length]; omega⟩
    · refine lx_pick true (.bool false) rfl rfl rfl <| lx_nil <| wi_false rfl <| wi_skip <| wi_seq <| wi_reg rfl <| lx_assign (.slice none 0 0) rfl rfl <| lx_nil <| wi_seq <| wi_seq <| wi_reg rfl <| lx_assign (.int .i64 0) rfl rfl <| lx_nil <| wi_block <| ?_
      refine wi_loop (σ := Nat × Value × (List (Int × Int))) (rngB 45 92 [9, 10, 11, 12]) (fun (ss : Nat × Value × (List (Int × Int))) => [(10, .int .i64 ((ss.1 : Nat) : Int)), (9, ss.2.1)]) (fun (ss : Nat × Value × (List (Int × Int))) (hh : Heap) => OwE encP hh h.size 85 ss.2.1 ss.2.2 ∧ Ext h.size h hh ∧ (ss.1 ≤ ls.length ∧ ss.1 ≤ 20) ∧ (ss.2.2.length ≤ ss.1) ∧ (∀ j, j < ss.2.2.length → Go.X.inR (((1 + ur n % most) : Nat) : Int) (gt ss.2.2 j) = true)) (fun (ss : Nat × Value × (List (Int × Int))) => ls.length - ss.1) (0, .slice none 0 0, []) ⟨rfl, rfl, trivial⟩ ⟨?_, (Ext.refl _ _), ?_, ?_, ?_⟩ ?_
      · first | exact (owE_nil encP _ h.size 85) | (simpa using (owE_nil encP _ h.size 85))
      · try dsimp only
        omega
      · try dsimp only
        exact Nat.zero_le _
      · try dsimp only
        intro j hj; cases hj
      rintro g2 ⟨i, v, xs⟩ hh2 ⟨ho20, hx0_8, hi, hxl, hr⟩ IH2
      dsimp only at *
      refine wi_seq <| wi_seq <| wi_reg rfl <| lx_move (.int .i64 ((i : Nat) : Int)) rfl rfl <| lx_move (vl) rfl rfl <| lx_len rfl Try.underlying22 hr_vl rfl <| lx_lssS rfl rfl rfl (fun c9 => ?_) (fun c9 => ?_)
      · refine lx_move (.bool true) rfl rfl <| lx_move (.int .i64 ((i : Nat) : Int)) rfl rfl <| lx_lssS rfl rfl rfl (fun c10 => ?_) (fun c10 => ?_)
        · refine lx_pick true (.bool true) rfl rfl rfl <| lx_nil <| wi_true rfl <| wi_skip <| wi_seq <| wi_block <| wi_seq <| wi_draw mo rfl (by decide +kernel) <| ?_
          have hma := Nat.mod_lt (ur (gt ls i).1) (show 0 < 1 + ur n % most by omega)
          have hmb := Nat.mod_lt (ur (gt ls i).2) (show 0 < 1 + ur n % most by omega)
          refine lx_move (vl) rfl rfl <| lx_move (.int .i64 ((i : Nat) : Int)) rfl rfl <| lx_ix (i := i) rfl eT22 hr_vl rfl rfl (by omega) <| lx_ixP (i := i) (c := 0) rfl Try.underlying85 Try.sizeOf3 hr_vl (by omega) rfl rfl (by decide) <| lx_ld (i := i) (j := 0) (.int .i64 ((gt ls i).1)) rfl rfl fl3 (hr_vl.extS hx0_8) (by omega) rfl rfl <| lx_conv ((ur ((gt ls i).1) : Nat) : Int) rfl Try.underlying3 Try.underlying45 rfl (wrap_ur _) <| lx_move (.int .i64 ((1 + ((ur n) % most) : Nat) : Int)) rfl rfl <| lx_conv ((1 + ((ur n) % most) : Nat) : Int) rfl Try.underlying3 Try.underlying45 rfl (wrap_u64 (by omega) (by omega)) <| lx_rem (m := ur ((gt ls i).1)) (n := 1 + ((ur n) % most)) rfl rfl rfl (by omega) <| lx_conv (((ur ((gt ls i).1)) % (1 + ((ur n) % most)) : Nat) : Int) rfl Try.underlying45 Try.underlying3 rfl (wrap_i64 (by omega) (by omega)) <| lx_move (vl) rfl rfl <| lx_move (.int .i64 ((i : Nat) : Int)) rfl rfl <| lx_ix (i := i) rfl eT22 hr_vl rfl rfl (by omega) <| lx_ixP (i := i) (c := 1) rfl Try.underlying85 Try.sizeOf3 hr_vl (by omega) rfl rfl (by decide) <| lx_ld (i := i) (j := 1) (.int .i64 ((gt ls i).2)) rfl rfl fl3 (hr_vl.extS hx0_8) (by omega) rfl rfl <| lx_conv ((ur ((gt ls i).2) : Nat) : Int) rfl Try.underlying3 Try.underlying45 rfl (wrap_ur _) <| lx_move (.int .i64 ((1 + ((ur n) % most) : Nat) : Int)) rfl rfl <| lx_conv ((1 + ((ur n) % most) : Nat) : Int) rfl Try.underlying3 Try.underlying45 rfl (wrap_u64 (by omega) (by omega)) <| lx_rem (m := ur ((gt ls i).2)) (n := 1 + ((ur n) % most)) rfl rfl rfl (by omega) <| lx_conv (((ur ((gt ls i).2)) % (1 + ((ur n) % most)) : Nat) : Int) rfl Try.underlying45 Try.underlying3 rfl (wrap_i64 (by omega) (by omega)) <| lx_assign (.int .i64 (((ur ((gt ls i).1)) % (1 + ((ur n) % most)) : Nat) : Int)) rfl rfl <| lx_assign (.int .i64 (((ur ((gt ls i).2)) % (1 + ((ur n) % most)) : Nat) : Int)) rfl rfl <| lx_nil <| wi_seq <| wi_seq <| wi_reg rfl <| lx_move (.int .i64 (((ur ((gt ls i).1)) % (1 + ((ur n) % most)) : Nat) : Int)) rfl rfl <| lx_mul (((5 * ((ur ((gt ls i).1)) % (1 + ((ur n) % most))) : Nat) : Int)) rfl rfl rfl (by omega) (by omega) (by omega) <| lx_add (((5 * ((ur ((gt ls i).1)) % (1 + ((ur n) % most))) + 1 : Nat) : Int)) rfl rfl rfl (by omega) (by omega) (by omega) <| lx_rem (m := 5 * ((ur ((gt ls i).1)) % (1 + ((ur n) % most))) + 1) (n := 13) rfl rfl rfl (by omega) <| lx_move (.int .i64 (((ur ((gt ls i).2)) % (1 + ((ur n) % most)) : Nat) : Int)) rfl rfl <| lx_mul (((5 * ((ur ((gt ls i).2)) % (1 + ((ur n) % most))) : Nat) : Int)) rfl rfl rfl (by omega) (by omega) (by omega) <| lx_add (((5 * ((ur ((gt ls i).2)) % (1 + ((ur n) % most))) + 1 : Nat) : Int)) rfl rfl rfl (by omega) (by omega) (by omega) <| lx_rem (m := 5 * ((ur ((gt ls i).2)) % (1 + ((ur n) % most))) + 1) (n := 13) rfl rfl rfl (by omega) <| lx_gtrS rfl rfl rfl (fun c11 => ?_) (fun c11 => ?_)
          · refine lx_nil <| wi_true rfl <| wi_reg rfl <| lx_move (.int .i64 (((ur ((gt ls i).2)) % (1 + ((ur n) % most)) : Nat) : Int)) rfl rfl <| lx_move (.int .i64 (((ur ((gt ls i).1)) % (1 + ((ur n) % most)) : Nat) : Int)) rfl rfl <| lx_assign (.int .i64 (((ur ((gt ls i).2)) % (1 + ((ur n) % most)) : Nat) : Int)) rfl rfl <| lx_assign (.int .i64 (((ur ((gt ls i).1)) % (1 + ((ur n) % most)) : Nat) : Int)) rfl rfl <| lx_nil <| wi_reg rfl <| lx_move (v) rfl rfl <| lx_move (.int .i64 (((ur ((gt ls i).2)) % (1 + ((ur n) % most)) : Nat) : Int)) rfl rfl <| lx_move (.int .i64 (((ur ((gt ls i).1)) % (1 + ((ur n) % most)) : Nat) : Int)) rfl rfl <| lx_build (.agg #[.int .i64 (((ur ((gt ls i).2)) % (1 + ((ur n) % most)) : Nat) : Int), .int .i64 (((ur ((gt ls i).1)) % (1 + ((ur n) % most)) : Nat) : Int)]) [(0, .int .i64 (((ur ((gt ls i).2)) % (1 + ((ur n) % most)) : Nat) : Int)), (1, .int .i64 (((ur ((gt ls i).1)) % (1 + ((ur n) % most)) : Nat) : Int))] rfl rfl (fun w => bld85_2 _ _ w) <| lx_appendL (E := encP) (B := h.size) [((((ur ((gt ls i).2)) % (1 + ((ur n) % most)) : Nat) : Int), (((ur ((gt ls i).1)) % (1 + ((ur n) % most)) : Nat) : Int))] [.agg #[.int .i64 (((ur ((gt ls i).2)) % (1 + ((ur n) % most)) : Nat) : Int), .int .i64 (((ur ((gt ls i).1)) % (1 + ((ur n) % most)) : Nat) : Int)]] rfl rfl (fun _ => rfl) rfl eT22 rfl rfl rfl rfl ho20 (fun _ => rfl) (by show xs.length + 1 ≤ _; omega) (by show (xs.length + 1) * 16 ≤ _; omega) hx0_8.size (fun _ _ => trivial) fun u3 v3 h8 ho21 hc3 hg3 => ?_
            have hx0_9 := hx0_8.trans (ho20.ext hc3 hx0_8.size)
            refine lx_assign (v3) rfl rfl <| lx_nil <| wi_inBlock <| wi_reg rfl <| lx_move (.int .i64 ((i : Nat) : Int)) rfl rfl <| lx_add (((i + 1 : Nat) : Int)) rfl rfl rfl (by omega) (by omega) (by omega) <| lx_assign (.int .i64 ((i + 1 : Nat) : Int)) rfl rfl <| lx_nil <| ?_
            -- L0.1
            refine IH2 _ _ (i + 1, v3, xs ++ [((((ur ((gt ls i).2)) % (1 + ((ur n) % most)) : Nat) : Int), (((ur ((gt ls i).1)) % (1 + ((ur n) % most)) : Nat) : Int))]) (agree_ups rfl agree_self) ⟨rfl, rfl, trivial⟩ ⟨?_, hx0_9, ?_, ?_, ?_⟩ ?_
            · first | exact ho21 | (simpa using ho21)
            · try dsimp only
              omega
            · try dsimp only
              first | omega | (simp only [List.length_append, List.length_cons, List.length_nil]; omega)
            · try dsimp only
              intro j hj
              rw [List.length_append, List.length_cons, List.length_nil] at hj
              by_cases e : j < xs.length
              · rw [gt_append_left e]; exact hr j e
              · rw [show j = xs.length from by omega, gt_append_right]
                exact Go.X.inR_iff.2 ⟨by show (0 : Int) ≤ ((_ : Nat) : Int); omega, by show (0 : Int) ≤ ((_ : Nat) : Int); omega, by show ((_ : Nat) : Int) < _; omega, by show ((_ : Nat) : Int) < _; omega⟩
            · first | omega | (dsimp only; omega)
          · refine lx_nil <| wi_false rfl <| wi_skip <| wi_reg rfl <| lx_move (v) rfl rfl <| lx_move (.int .i64 (((ur ((gt ls i).1)) % (1 + ((ur n) % most)) : Nat) : Int)) rfl rfl <| lx_move (.int .i64 (((ur ((gt ls i).2)) % (1 + ((ur n) % most)) : Nat) : Int)) rfl rfl <| lx_build (.agg #[.int .i64 (((ur ((gt ls i).1)) % (1 + ((ur n) % most)) : Nat) : Int), .int .i64 (((ur ((gt ls i).2)) % (1 + ((ur n) % most)) : Nat) : Int)]) [(0, .int .i64 (((ur ((gt ls i).1)) % (1 + ((ur n) % most)) : Nat) : Int)), (1, .int .i64 (((ur ((gt ls i).2)) % (1 + ((ur n) % most)) : Nat) : Int))] rfl rfl (fun w => bld85_2 _ _ w) <| lx_appendL (E := encP) (B := h.size) [((((ur ((gt ls i).1)) % (1 + ((ur n) % most)) : Nat) : Int), (((ur ((gt ls i).2)) % (1 + ((ur n) % most)) : Nat) : Int))] [.agg #[.int .i64 (((ur ((gt ls i).1)) % (1 + ((ur n) % most)) : Nat) : Int), .int .i64 (((ur ((gt ls i).2)) % (1 + ((ur n) % most)) : Nat) : Int)]] rfl rfl (fun _ => rfl) rfl eT22 rfl rfl rfl rfl ho20 (fun _ => rfl) (by show xs.length + 1 ≤ _; omega) (by show (xs.length + 1) * 16 ≤ _; omega) hx0_8.size (fun _ _ => trivial) fun u4 v4 h9 ho22 hc4 hg4 => ?_
            have hx0_10 := hx0_8.trans (ho20.ext hc4 hx0_8.size)
            refine lx_assign (v4) rfl rfl <| lx_nil <| wi_inBlock <| wi_reg rfl <| lx_move (.int .i64 ((i : Nat) : Int)) rfl rfl <| lx_add (((i + 1 : Nat) : Int)) rfl rfl rfl (by omega) (by omega) (by omega) <| lx_assign (.int .i64 ((i + 1 : Nat) : Int)) rfl rfl <| lx_nil <| ?_
            -- L0.2
            refine IH2 _ _ (i + 1, v4, xs ++ [((((ur ((gt ls i).1)) % (1 + ((ur n) % most)) : Nat) : Int), (((ur ((gt ls i).2)) % (1 + ((ur n) % most)) : Nat) : Int))]) (agree_ups rfl agree_self) ⟨rfl, rfl, trivial⟩ ⟨?_, hx0_10, ?_, ?_, ?_⟩ ?_
            · first | exact ho22 | (simpa using ho22)
            · try dsimp only
              omega
            · try dsimp only
              first | omega | (simp only [List.length_append, List.length_cons, List.length_nil]; omega)
            · try dsimp only
              intro j hj
              rw [List.length_append, List.length_cons, List.length_nil] at hj
              by_cases e : j < xs.length
              · rw [gt_append_left e]; exact hr j e
              · rw [show j = xs.length from by omega, gt_append_right]
                exact Go.X.inR_iff.2 ⟨by show (0 : Int) ≤ ((_ : Nat) : Int); omega, by show (0 : Int) ≤ ((_ : Nat) : Int); omega, by show ((_ : Nat) : Int) < _; omega, by show ((_ : Nat) : Int) < _; omega⟩
            · first | omega | (dsimp only; omega)
        · refine lx_pick true (.bool false) rfl rfl rfl <| lx_nil <| wi_false rfl <| wi_exit rfl <| wi_seq <| wi_reg rfl <| lx_move (.int .i64 ((1 + ((ur n) % most) : Nat) : Int)) rfl rfl <| lx_move (v) rfl rfl <| lx_call [.int .i64 ((1 + ((ur n) % most) : Nat) : Int), v] rfl rfl Try.call64 rfl (rclosure_spec hh2 (1 + ((ur n) % most)) v xs ho20.rd (by omega) (by omega) hr) (fun _ _ _ => trivial) ?_
          rintro _ h10 ⟨vr, hsr, rfl, ho23, hot13, hx6⟩
          have hx0_11 := hx0_8.trans2 hx6 hx0_8.size
          have ho24 := ho20.extS hx6
          have ho25 := ho23.base hx0_8.size
          have hot14 := hot13.base hx0_8.size
          have hl_hot14 := hot14.1
          refine lx_move (.tuple #[vr, .bool (ordB (1 + ((ur n) % most)) (closW (1 + ((ur n) % most)) xs))]) rfl rfl <| lx_extract (vr) rfl rfl rfl <| lx_extract (.bool (ordB (1 + ((ur n) % most)) (closW (1 + ((ur n) % most)) xs))) rfl rfl rfl <| lx_assign (vr) rfl rfl <| lx_assign (.bool (ordB (1 + ((ur n) % most)) (closW (1 + ((ur n) % most)) xs))) rfl rfl <| lx_nil <| wi_seq <| wi_seq <| wi_reg rfl <| lx_move (.bool (ordB (1 + ((ur n) % most)) (closW (1 + ((ur n) % most)) xs))) rfl rfl <| lx_not rfl rfl <| lx_nil <| wi_condS (t := !(ordB (1 + ((ur n) % most)) (closW (1 + ((ur n) % most)) xs))) rfl (fun c12 => ?_) (fun c12 => ?_)
          · refine wi_reg rfl <| lx_move (.int .i64 ((1 + ((ur n) % most) : Nat) : Int)) rfl rfl <| lx_call [.int .i64 ((1 + ((ur n) % most) : Nat) : Int), .slice none 0 0] rfl rfl Try.call64 rfl (rclosure_spec h10 (1 + ((ur n) % most)) ((.slice none 0 0)) ([]) (owE_nil encP _ 0 0).rd (by omega) (by decide) (fun j hj => by cases hj)) (fun _ _ _ => trivial) ?_
            rintro _ h11 ⟨vz, hsz, rfl, ho26, hot15, hx7⟩
            have hx0_12 := hx0_11.trans2 hx7 hx0_11.size
            have ho27 := ho24.extS hx7
            have ho28 := ho25.extS hx7
            have hot16 := hot14.extS hx7
            have ho29 := ho26.base hx0_11.size
            have hot17 := hot15.base hx0_11.size
            have hl_hot17 := hot17.1
            refine lx_move (.tuple #[vz, .bool (ordB (1 + ((ur n) % most)) (closW (1 + ((ur n) % most)) ([])))]) rfl rfl <| lx_extract (vz) rfl rfl rfl <| lx_extract (.bool (ordB (1 + ((ur n) % most)) (closW (1 + ((ur n) % most)) ([])))) rfl rfl rfl <| lx_assign (vz) rfl rfl <| lx_nil <| wi_seq <| wi_reg rfl <| lx_move (vz) rfl rfl <| lx_assign (vz) rfl rfl <| lx_nil <| ?_
            -- R6
            refine wi_ret ⟨vz, (res_one rfl rfl), ⟨vz, hsz, tabF (1 + ((ur n) % most)) (closW (1 + ((ur n) % most)) ([])), rfl, ho29, hot17, ?_, hx0_12⟩⟩
            · first
              | exact ⟨isT_tabF (ordB_iff.1 (by simpa using ‹(!ordB (1 + ur n % most) (closW (1 + ur n % most) xs)) = false›)), by rw [tabF_length]; omega, by rw [tabF_length]; omega⟩
              | exact ⟨isT_tabF (up_order fun d hd => by cases hd), by rw [tabF_length]; omega, by rw [tabF_length]; omega⟩
          · refine wi_skip <| wi_seq <| wi_reg rfl <| lx_move (vr) rfl rfl <| lx_assign (vr) rfl rfl <| lx_nil <| ?_
            -- R7
            refine wi_ret ⟨vr, (res_one rfl rfl), ⟨vr, hsr, tabF (1 + ((ur n) % most)) (closW (1 + ((ur n) % most)) xs), rfl, ho25, hot14, ?_, hx0_11⟩⟩
            · first
              | exact ⟨isT_tabF (ordB_iff.1 (by simpa using ‹(!ordB (1 + ur n % most) (closW (1 + ur n % most) xs)) = false›)), by rw [tabF_length]; omega, by rw [tabF_length]; omega⟩
              | exact ⟨isT_tabF (up_order fun d hd => by cases hd), by rw [tabF_length]; omega, by rw [tabF_length]; omega⟩
      · refine lx_move (.bool false) rfl rfl <| lx_skip rfl <| lx_skip rfl <| lx_pick false (.bool false) rfl rfl rfl <| lx_nil <| wi_false rfl <| wi_exit rfl <| wi_seq <| wi_reg rfl <| lx_move (.int .i64 ((1 + ((ur n) % most) : Nat) : Int)) rfl rfl <| lx_move (v) rfl rfl <| lx_call [.int .i64 ((1 + ((ur n) % most) : Nat) : Int), v] rfl rfl Try.call64 rfl (rclosure_spec hh2 (1 + ((ur n) % most)) v xs ho20.rd (by omega) (by omega) hr) (fun _ _ _ => trivial) ?_
        rintro _ h12 ⟨vr, hsr, rfl, ho30, hot18, hx8⟩
        have hx0_13 := hx0_8.trans2 hx8 hx0_8.size
        have ho31 := ho20.extS hx8
        have ho32 := ho30.base hx0_8.size
        have hot19 := hot18.base hx0_8.size
        have hl_hot19 := hot19.1
        refine lx_move (.tuple #[vr, .bool (ordB (1 + ((ur n) % most)) (closW (1 + ((ur n) % most)) xs))]) rfl rfl <| lx_extract (vr) rfl rfl rfl <| lx_extract (.bool (ordB (1 + ((ur n) % most)) (closW (1 + ((ur n) % most)) xs))) rfl rfl rfl <| lx_assign (vr) rfl rfl <| lx_assign (.bool (ordB (1 + ((ur n) % most)) (closW (1 + ((ur n) % most)) xs))) rfl rfl <| lx_nil <| wi_seq <| wi_seq <| wi_reg rfl <| lx_move (.bool (ordB (1 + ((ur n) % most)) (closW (1 + ((ur n) % most)) xs))) rfl rfl <| lx_not rfl rfl <| lx_nil <| wi_condS (t := !(ordB (1 + ((ur n) % most)) (closW (1 + ((ur n) % most)) xs))) rfl (fun c13 => ?_) (fun c13 => ?_)
        · refine wi_reg rfl <| lx_move (.int .i64 ((1 + ((ur n) % most) : Nat) : Int)) rfl rfl <| lx_call [.int .i64 ((1 + ((ur n) % most) : Nat) : Int), .slice none 0 0] rfl rfl Try.call64 rfl (rclosure_spec h12 (1 + ((ur n) % most)) ((.slice none 0 0)) ([]) (owE_nil encP _ 0 0).rd (by omega) (by decide) (fun j hj => by cases hj)) (fun _ _ _ => trivial) ?_
          rintro _ h13 ⟨vz, hsz, rfl, ho33, hot20, hx9⟩
          have hx0_14 := hx0_13.trans2 hx9 hx0_13.size
          have ho34 := ho31.extS hx9
          have ho35 := ho32.extS hx9
          have hot21 := hot19.extS hx9
          have ho36 := ho33.base hx0_13.size
          have hot22 := hot20.base hx0_13.size
          have hl_hot22 := hot22.1
          refine lx_move (.tuple #[vz, .bool (ordB (1 + ((ur n) % most)) (closW (1 + ((ur n) % most)) ([])))]) rfl rfl <| lx_extract (vz) rfl rfl rfl <| lx_extract (.bool (ordB (1 + ((ur n) % most)) (closW (1 + ((ur n) % most)) ([])))) rfl rfl rfl <| lx_assign (vz) rfl rfl <| lx_nil <| wi_seq <| wi_reg rfl <| lx_move (vz) rfl rfl <| lx_assign (vz) rfl rfl <| lx_nil <| ?_
          -- R8
          refine wi_ret ⟨vz, (res_one rfl rfl), ⟨vz, hsz, tabF (1 + ((ur n) % most)) (closW (1 + ((ur n) % most)) ([])), rfl, ho36, hot22, ?_, hx0_14⟩⟩
          · first
            | exact ⟨isT_tabF (ordB_iff.1 (by simpa using ‹(!ordB (1 + ur n % most) (closW (1 + ur n % most) xs)) = false›)), by rw [tabF_length]; omega, by rw [tabF_length]; omega⟩
            | exact ⟨isT_tabF (up_order fun d hd => by cases hd), by rw [tabF_length]; omega, by rw [tabF_length]; omega⟩
        · refine wi_skip <| wi_seq <| wi_reg rfl <| lx_move (vr) rfl rfl <| lx_assign (vr) rfl rfl <| lx_nil <| ?_
          -- R9
          refine wi_ret ⟨vr, (res_one rfl rfl), ⟨vr, hsr, tabF (1 + ((ur n) % most)) (closW (1 + ((ur n) % most)) xs), rfl, ho32, hot19, ?_, hx0_13⟩⟩
          · first
            | exact ⟨isT_tabF (ordB_iff.1 (by simpa using ‹(!ordB (1 + ur n % most) (closW (1 + ur n % most) xs)) = false›)), by rw [tabF_length]; omega, by rw [tabF_length]; omega⟩
            | exact ⟨isT_tabF (up_order fun d hd => by cases hd), by rw [tabF_length]; omega, by rw [tabF_length]; omega⟩
  · refine lx_move (.bool false) rfl rfl <| lx_skip rfl <| lx_skip rfl <| lx_skip rfl <| lx_skip rfl <| lx_skip rfl <| lx_skip rfl <| lx_skip rfl <| lx_pick false (.bool false) rfl rfl rfl <| lx_nil <| wi_false rfl <| wi_skip <| wi_seq <| wi_reg rfl <| lx_assign (.slice none 0 0) rfl rfl <| lx_nil <| wi_seq <| wi_seq <| wi_reg rfl <| lx_assign (.int .i64 0) rfl rfl <| lx_nil <| wi_block <| ?_
    refine wi_loop (σ := Nat × Value × (List (Int × Int))) (rngB 45 92 [9, 10, 11, 12]) (fun (ss : Nat × Value × (List (Int × Int))) => [(10, .int .i64 ((ss.1 : Nat) : Int)), (9, ss.2.1)]) (fun (ss : Nat × Value × (List (Int × Int))) (hh : Heap) => OwE encP hh h.size 85 ss.2.1 ss.2.2 ∧ Ext h.size h hh ∧ (ss.1 ≤ ls.length ∧ ss.1 ≤ 20) ∧ (ss.2.2.length ≤ ss.1) ∧ (∀ j, j < ss.2.2.length → Go.X.inR (((1 + ur n % most) : Nat) : Int) (gt ss.2.2 j) = true)) (fun (ss : Nat × Value × (List (Int × Int))) => ls.length - ss.1) (0, .slice none 0 0, []) ⟨rfl, rfl, trivial⟩ ⟨?_, (Ext.refl _ _), ?_, ?_, ?_⟩ ?_
    · first | exact (owE_nil encP _ h.size 85) | (simpa using (owE_nil encP _ h.size 85))
    · try dsimp only
      omega
    · try dsimp only
      exact Nat.zero_le _
    · try dsimp only
      intro j hj; cases hj
    rintro g3 ⟨i, v, xs⟩ hh3 ⟨ho37, hx0_15, hi, hxl, hr⟩ IH3
    dsimp only at *
    refine wi_seq <| wi_seq <| wi_reg rfl <| lx_move (.int .i64 ((i : Nat) : Int)) rfl rfl <| lx_move (vl) rfl rfl <| lx_len rfl Try.underlying22 hr_vl rfl <| lx_lssS rfl rfl rfl (fun c14 => ?_) (fun c14 => ?_)
    · refine lx_move (.bool true) rfl rfl <| lx_move (.int .i64 ((i : Nat) : Int)) rfl rfl <| lx_lssS rfl rfl rfl (fun c15 => ?_) (fun c15 => ?_)
      · refine lx_pick true (.bool true) rfl rfl rfl <| lx_nil <| wi_true rfl <| wi_skip <| wi_seq <| wi_block <| wi_seq <| wi_draw mo rfl (by decide +kernel) <| ?_
        have hma := Nat.mod_lt (ur (gt ls i).1) (show 0 < 1 + ur n % most by omega)
        have hmb := Nat.mod_lt (ur (gt ls i).2) (show 0 < 1 + ur n % most by omega)
        refine lx_move (vl) rfl rfl <| lx_move (.int .i64 ((i : Nat) : Int)) rfl rfl <| lx_ix (i := i) rfl eT22 hr_vl rfl rfl (by omega) <| lx_ixP (i := i) (c := 0) rfl Try.underlying85 Try.sizeOf3 hr_vl (by omega) rfl rfl (by decide) <| lx_ld (i := i) (j := 0) (.int .i64 ((gt ls i).1)) rfl rfl fl3 (hr_vl.extS hx0_15) (by omega) rfl rfl <| lx_conv ((ur ((gt ls i).1) : Nat) : Int) rfl Try.underlying3 Try.underlying45 rfl (wrap_ur _) <| lx_move (.int .i64 ((1 + ((ur n) % most) : Nat) : Int)) rfl rfl <| lx_conv ((1 + ((ur n) % most) : Nat) : Int) rfl Try.underlying3 Try.underlying45 rfl (wrap_u64 (by omega) (by omega)) <| lx_rem (m := ur ((gt ls i).1)) (n := 1 + ((ur n) % most)) rfl rfl rfl (by omega) <| lx_conv (((ur ((gt ls i).1)) % (1 + ((ur n) % most)) : Nat) : Int) rfl Try.underlying45 Try.underlying3 rfl (wrap_i64 (by omega) (by omega)) <| lx_move (vl) rfl rfl <| lx_move (.int .i64 ((i : Nat) : Int)) rfl rfl <| lx_ix (i := i) rfl eT22 hr_vl rfl rfl (by omega) <| lx_ixP (i := i) (c := 1) rfl Try.underlying85 Try.sizeOf3 hr_vl (by omega) rfl rfl (by decide) <| lx_ld (i := i) (j := 1) (.int .i64 ((gt ls i).2)) rfl rfl fl3 (hr_vl.extS hx0_15) (by omega) rfl rfl <| lx_conv ((ur ((gt ls i).2) : Nat) : Int) rfl Try.underlying3 Try.underlying45 rfl (wrap_ur _) <| lx_move (.int .i64 ((1 + ((ur n) % most) : Nat) : Int)) rfl rfl <| lx_conv ((1 + ((ur n) % most) : Nat) : Int) rfl Try.underlying3 Try.underlying45 rfl (wrap_u64 (by omega) (by omega)) <| lx_rem (m := ur ((gt ls i).2)) (n := 1 + ((ur n) % most)) rfl rfl rfl (by omega) <| lx_conv (((ur ((gt ls i).2)) % (1 + ((ur n) % most)) : Nat) : Int) rfl Try.underlying45 Try.underlying3 rfl (wrap_i64 (by omega) (by omega)) <| lx_assign (.int .i64 (((ur ((gt ls i).1)) % (1 + ((ur n) % most)) : Nat) : Int)) rfl rfl <| lx_assign (.int .i64 (((ur ((gt ls i).2)) % (1 + ((ur n) % most)) : Nat) : Int)) rfl rfl <| lx_nil <| wi_seq <| wi_seq <| wi_reg rfl <| lx_move (.int .i64 (((ur ((gt ls i).1)) % (1 + ((ur n) % most)) : Nat) : Int)) rfl rfl <| lx_mul (((5 * ((ur ((gt ls i).1)) % (1 + ((ur n) % most))) : Nat) : Int)) rfl rfl rfl (by omega) (by omega) (by omega) <| lx_add (((5 * ((ur ((gt ls i).1)) % (1 + ((ur n) % most))) + 1 : Nat) : Int)) rfl rfl rfl (by omega) (by omega) (by omega) <| lx_rem (m := 5 * ((ur ((gt ls i).1)) % (1 + ((ur n) % most))) + 1) (n := 13) rfl rfl rfl (by omega) <| lx_move (.int .i64 (((ur ((gt ls i).2)) % (1 + ((ur n) % most)) : Nat) : Int)) rfl rfl <| lx_mul (((5 * ((ur ((gt ls i).2)) % (1 + ((ur n) % most))) : Nat) : Int)) rfl rfl rfl (by omega) (by omega) (by omega) <| lx_add (((5 * ((ur ((gt ls i).2)) % (1 + ((ur n) % most))) + 1 : Nat) : Int)) rfl rfl rfl (by omega) (by omega) (by omega) <| lx_rem (m := 5 * ((ur ((gt ls i).2)) % (1 + ((ur n) % most))) + 1) (n := 13) rfl rfl rfl (by omega) <| lx_gtrS rfl rfl rfl (fun c16 => ?_) (fun c16 => ?_)
        · refine lx_nil <| wi_true rfl <| wi_reg rfl <| lx_move (.int .i64 (((ur ((gt ls i).2)) % (1 + ((ur n) % most)) : Nat) : Int)) rfl rfl <| lx_move (.int .i64 (((ur ((gt ls i).1)) % (1 + ((ur n) % most)) : Nat) : Int)) rfl rfl <| lx_assign (.int .i64 (((ur ((gt ls i).2)) % (1 + ((ur n) % most)) : Nat) : Int)) rfl rfl <| lx_assign (.int .i64 (((ur ((gt ls i).1)) % (1 + ((ur n) % most)) : Nat) : Int)) rfl rfl <| lx_nil <| wi_reg rfl <| lx_move (v) rfl rfl <| lx_move (.int .i64 (((ur ((gt ls i).2)) % (1 + ((ur n) % most)) : Nat) : Int)) rfl rfl <| lx_move (.int .i64 (((ur ((gt ls i).1)) % (1 + ((ur n) % most)) : Nat) : Int)) rfl rfl <| lx_build (.agg #[.int .i64 (((ur ((gt ls i).2)) % (1 + ((ur n) % most)) : Nat) : Int), .int .i64 (((ur ((gt ls i).1)) % (1 + ((ur n) % most)) : Nat) : Int)]) [(0, .int .i64 (((ur ((gt ls i).2)) % (1 + ((ur n) % most)) : Nat) : Int)), (1, .int .i64 (((ur ((gt ls i).1)) % (1 + ((ur n) % most)) : Nat) : Int))] rfl rfl (fun w => bld85_2 _ _ w) <| lx_appendL (E := encP) (B := h.size) [((((ur ((gt ls i).2)) % (1 + ((ur n) % most)) : Nat) : Int), (((ur ((gt ls i).1)) % (1 + ((ur n) % most)) : Nat) : Int))] [.agg #[.int .i64 (((ur ((gt ls i).2)) % (1 + ((ur n) % most)) : Nat) : Int), .int .i64 (((ur ((gt ls i).1)) % (1 + ((ur n) % most)) : Nat) : Int)]] rfl rfl (fun _ => rfl) rfl eT22 rfl rfl rfl rfl ho37 (fun _ => rfl) (by show xs.length + 1 ≤ _; omega) (by show (xs.length + 1) * 16 ≤ _; omega) hx0_15.size (fun _ _ => trivial) fun u5 v5 h14 ho38 hc5 hg5 => ?_
          have hx0_16 := hx0_15.trans (ho37.ext hc5 hx0_15.size)
          refine lx_assign (v5) rfl rfl <| lx_nil <| wi_inBlock <| wi_reg rfl <| lx_move (.int .i64 ((i : Nat) : Int)) rfl rfl <| lx_add (((i + 1 : Nat) : Int)) rfl rfl rfl (by omega) (by omega) (by omega) <| lx_assign (.int .i64 ((i + 1 : Nat) : Int)) rfl rfl <| lx_nil <| ?_
          -- L0.1
          refine IH3 _ _ (i + 1, v5, xs ++ [((((ur ((gt ls i).2)) % (1 + ((ur n) % most)) : Nat) : Int), (((ur ((gt ls i).1)) % (1 + ((ur n) % most)) : Nat) : Int))]) (agree_ups rfl agree_self) ⟨rfl, rfl, trivial⟩ ⟨?_, hx0_16, ?_, ?_, ?_⟩ ?_
          · first | exact ho38 | (simpa using ho38)
          · try dsimp only
            omega
          · try dsimp only
            first | omega | (simp only [List.length_append, List.length_cons, List.length_nil]; omega)
          · try dsimp only
            intro j hj
            rw [List.length_append, List.length_cons, List.length_nil] at hj
            by_cases e : j < xs.length
            · rw [gt_append_left e]; exact hr j e
            · rw [show j = xs.length from by omega, gt_append_right]
              exact Go.X.inR_iff.2 ⟨by show (0 : Int) ≤ ((_ : Nat) : Int); omega, by show (0 : Int) ≤ ((_ : Nat) : Int); omega, by show ((_ : Nat) : Int) < _; omega, by show ((_ : Nat) : Int) < _; omega⟩
          · first | omega | (dsimp only; omega)
        · refine lx_nil <| wi_false rfl <| wi_skip <| wi_reg rfl <| lx_move (v) rfl rfl <| lx_move (.int .i64 (((ur ((gt ls i).1)) % (1 + ((ur n) % most)) : Nat) : Int)) rfl rfl <| lx_move (.int .i64 (((ur ((gt ls i).2)) % (1 + ((ur n) % most)) : Nat) : Int)) rfl rfl <| lx_build (.agg #[.int .i64 (((ur ((gt ls i).1)) % (1 + ((ur n) % most)) : Nat) : Int), .int .i64 (((ur ((gt ls i).2)) % (1 + ((ur n) % most)) : Nat) : Int)]) [(0, .int .i64 (((ur ((gt ls i).1)) % (1 + ((ur n) % most)) : Nat) : Int)), (1, .int .i64 (((ur ((gt ls i).2)) % (1 + ((ur n) % most)) : Nat) : Int))] rfl rfl (fun w => bld85_2 _ _ w) <| lx_appendL (E := encP) (B := h.size) [((((ur ((gt ls i).1)) % (1 + ((ur n) % most)) : Nat) : Int), (((ur ((gt ls i).2)) % (1 + ((ur n) % most)) : Nat) : Int))] [.agg #[.int .i64 (((ur ((gt ls i).1)) % (1 + ((ur n) % most)) : Nat) : Int), .int .i64 (((ur ((gt ls i).2)) % (1 + ((ur n) % most)) : Nat) : Int)]] rfl rfl (fun _ => rfl) rfl eT22 rfl rfl rfl rfl ho37 (fun _ => rfl) (by show xs.length + 1 ≤ _; omega) (by show (xs.length + 1) * 16 ≤ _; omega) hx0_15.size (fun _ _ => trivial) fun u6 v6 h15 ho39 hc6 hg6 => ?_
          have hx0_17 := hx0_15.trans (ho37.ext hc6 hx0_15.size)
          refine lx_assign (v6) rfl rfl <| lx_nil <| wi_inBlock <| wi_reg rfl <| lx_move (.int .i64 ((i : Nat) : Int)) rfl rfl <| lx_add (((i + 1 : Nat) : Int)) rfl rfl rfl (by omega) (by omega) (by omega) <| lx_assign (.int .i64 ((i + 1 : Nat) : Int)) rfl rfl <| lx_nil <| ?_
          -- L0.2
          refine IH3 _ _ (i + 1, v6, xs ++ [((((ur ((gt ls i).1)) % (1 + ((ur n) % most)) : Nat) : Int), (((ur ((gt ls i).2)) % (1 + ((ur n) % most)) : Nat) : Int))]) (agree_ups rfl agree_self) ⟨rfl, rfl, trivial⟩ ⟨?_, hx0_17, ?_, ?_, ?_⟩ ?_
          · first | exact ho39 | (simpa using ho39)
          · try dsimp only
            omega
          · try dsimp only
            first | omega | (simp only [List.length_append, List.length_cons, List.length_nil]; omega)
          · try dsimp only
            intro j hj
            rw [List.length_append, List.length_cons, List.length_nil] at hj
            by_cases e : j < xs.length
            · rw [gt_append_left e]; exact hr j e
            · rw [show j = xs.length from by omega, gt_append_right]
              exact Go.X.inR_iff.2 ⟨by show (0 : Int) ≤ ((_ : Nat) : Int); omega, by show (0 : Int) ≤ ((_ : Nat) : Int); omega, by show ((_ : Nat) : Int) < _; omega, by show ((_ : Nat) : Int) < _; omega⟩
          · first | omega | (dsimp only; omega)
      · refine lx_pick true (.bool false) rfl rfl rfl <| lx_nil <| wi_false rfl <| wi_exit rfl <| wi_seq <| wi_reg rfl <| lx_move (.int .i64 ((1 + ((ur n) % most) : Nat) : Int)) rfl rfl <| lx_move (v) rfl rfl <| lx_call [.int .i64 ((1 + ((ur n) % most) : Nat) : Int), v] rfl rfl Try.call64 rfl (rclosure_spec hh3 (1 + ((ur n) % most)) v xs ho37.rd (by omega) (by omega) hr) (fun _ _ _ => trivial) ?_
        rintro _ h16 ⟨vr, hsr, rfl, ho40, hot23, hx10⟩
        have hx0_18 := hx0_15.trans2 hx10 hx0_15.size
        have ho41 := ho37.extS hx10
        have ho42 := ho40.base hx0_15.size
        have hot24 := hot23.base hx0_15.size
        have hl_hot24 := hot24.1
        refine lx_move (.tuple #[vr, .bool (ordB (1 + ((ur n) % most)) (closW (1 + ((ur n) % most)) xs))]) rfl rfl <| lx_extract (vr) rfl rfl rfl <| lx_extract (.bool (ordB (1 + ((ur n) % most)) (closW (1 + ((ur n) % most)) xs))) rfl rfl rfl <| lx_assign (vr) rfl rfl <| lx_assign (.bool (ordB (1 + ((ur n) % most)) (closW (1 + ((ur n) % most)) xs))) rfl rfl <| lx_nil <| wi_seq <| wi_seq <| wi_reg rfl <| lx_move (.bool (ordB (1 + ((ur n) % most)) (closW (1 + ((ur n) % most)) xs))) rfl rfl <| lx_not rfl rfl <| lx_nil <| wi_condS (t := !(ordB (1 + ((ur n) % most)) (closW (1 + ((ur n) % most)) xs))) rfl (fun c17 => ?_) (fun c17 => ?_)
        · refine wi_reg rfl <| lx_move (.int .i64 ((1 + ((ur n) % most) : Nat) : Int)) rfl rfl <| lx_call [.int .i64 ((1 + ((ur n) % most) : Nat) : Int), .slice none 0 0] rfl rfl Try.call64 rfl (rclosure_spec h16 (1 + ((ur n) % most)) ((.slice none 0 0)) ([]) (owE_nil encP _ 0 0).rd (by omega) (by decide) (fun j hj => by cases hj)) (fun _ _ _ => trivial) ?_
          rintro _ h17 ⟨vz, hsz, rfl, ho43, hot25, hx11⟩
          have hx0_19 := hx0_18.trans2 hx11 hx0_18.size
          have ho44 := ho41.extS hx11
          have ho45 := ho42.extS hx11
          have hot26 := hot24.extS hx11
          have ho46 := ho43.base hx0_18.size
          have hot27 := hot25.base hx0_18.size
          have hl_hot27 := hot27.1
          refine lx_move (.tuple #[vz, .bool (ordB (1 + ((ur n) % most)) (closW (1 + ((ur n) % most)) ([])))]) rfl rfl <| lx_extract (vz) rfl rfl rfl <| lx_extract (.bool (ordB (1 + ((ur n) % most)) (closW (1 + ((ur n) % most)) ([])))) rfl rfl rfl <| lx_assign (vz) rfl rfl <| lx_nil <| wi_seq <| wi_reg rfl <| lx_move (vz) rfl rfl <| lx_assign (vz) rfl rfl <| lx_nil <| ?_
          -- R10
          refine wi_ret ⟨vz, (res_one rfl rfl), ⟨vz, hsz, tabF (1 + ((ur n) % most)) (closW (1 + ((ur n) % most)) ([])), rfl, ho46, hot27, ?_, hx0_19⟩⟩
          · first
            | exact ⟨isT_tabF (ordB_iff.1 (by simpa using ‹(!ordB (1 + ur n % most) (closW (1 + ur n % most) xs)) = false›)), by rw [tabF_length]; omega, by rw [tabF_length]; omega⟩
            | exact ⟨isT_tabF (up_order fun d hd => by cases hd), by rw [tabF_length]; omega, by rw [tabF_length]; omega⟩
        · refine wi_skip <| wi_seq <| wi_reg rfl <| lx_move (vr) rfl rfl <| lx_assign (vr) rfl rfl <| lx_nil <| ?_
          -- R11
          refine wi_ret ⟨vr, (res_one rfl rfl), ⟨vr, hsr, tabF (1 + ((ur n) % most)) (closW (1 + ((ur n) % most)) xs), rfl, ho42, hot24, ?_, hx0_18⟩⟩
          · first
            | exact ⟨isT_tabF (ordB_iff.1 (by simpa using ‹(!ordB (1 + ur n % most) (closW (1 + ur n % most) xs)) = false›)), by rw [tabF_length]; omega, by rw [tabF_length]; omega⟩
            | exact ⟨isT_tabF (up_order fun d hd => by cases hd), by rw [tabF_length]; omega, by rw [tabF_length]; omega⟩
    · refine lx_move (.bool false) rfl rfl <| lx_skip rfl <| lx_skip rfl <| lx_pick false (.bool false) rfl rfl rfl <| lx_nil <| wi_false rfl <| wi_exit rfl <| wi_seq <| wi_reg rfl <| lx_move (.int .i64 ((1 + ((ur n) % most) : Nat) : Int)) rfl rfl <| lx_move (v) rfl rfl <| lx_call [.int .i64 ((1 + ((ur n) % most) : Nat) : Int), v] rfl rfl Try.call64 rfl (rclosure_spec hh3 (1 + ((ur n) % most)) v xs ho37.rd (by omega) (by omega) hr) (fun _ _ _ => trivial) ?_
      rintro _ h18 ⟨vr, hsr, rfl, ho47, hot28, hx12⟩
      have hx0_20 := hx0_15.trans2 hx12 hx0_15.size
      have ho48 := ho37.extS hx12
      have ho49 := ho47.base hx0_15.size
      have hot29 := hot28.base hx0_15.size
      have hl_hot29 := hot29.1
      refine lx_move (.tuple #[vr, .bool (ordB (1 + ((ur n) % most)) (closW (1 + ((ur n) % most)) xs))]) rfl rfl <| lx_extract (vr) rfl rfl rfl <| lx_extract (.bool (ordB (1 + ((ur n) % most)) (closW (1 + ((ur n) % most)) xs))) rfl rfl rfl <| lx_assign (vr) rfl rfl <| lx_assign (.bool (ordB (1 + ((ur n) % most)) (closW (1 + ((ur n) % most)) xs))) rfl rfl <| lx_nil <| wi_seq <| wi_seq <| wi_reg rfl <| lx_move (.bool (ordB (1 + ((ur n) % most)) (closW (1 + ((ur n) % most)) xs))) rfl rfl <| lx_not rfl rfl <| lx_nil <| wi_condS (t := !(ordB (1 + ((ur n) % most)) (closW (1 + ((ur n) % most)) xs))) rfl (fun c18 => ?_) (fun c18 => ?_)
      · refine wi_reg rfl <| lx_move (.int .i64 ((1 + ((ur n) % most) : Nat) : Int)) rfl rfl <| lx_call [.int .i64 ((1 + ((ur n) % most) : Nat) : Int), .slice none 0 0] rfl rfl Try.call64 rfl (rclosure_spec h18 (1 + ((ur n) % most)) ((.slice none 0 0)) ([]) (owE_nil encP _ 0 0).rd (by omega) (by decide) (fun j hj => by cases hj)) (fun _ _ _ => trivial) ?_
        rintro _ h19 ⟨vz, hsz, rfl, ho50, hot30, hx13⟩
        have hx0_21 := hx0_20.trans2 hx13 hx0_20.size
        have ho51 := ho48.extS hx13
        have ho52 := ho49.extS hx13
        have hot31 := hot29.extS hx13
        have ho53 := ho50.base hx0_20.size
        have hot32 := hot30.base hx0_20.size
        have hl_hot32 := hot32.1
        refine lx_move (.tuple #[vz, .bool (ordB (1 + ((ur n) % most)) (closW (1 + ((ur n) % most)) ([])))]) rfl rfl <| lx_extract (vz) rfl rfl rfl <| lx_extract (.bool (ordB (1 + ((ur n) % most)) (closW (1 + ((ur n) % most)) ([])))) rfl rfl rfl <| lx_assign (vz) rfl rfl <| lx_nil <| wi_seq <| wi_reg rfl <| lx_move (vz) rfl rfl <| lx_assign (vz) rfl rfl <| lx_nil <| ?_
        -- R12
        refine wi_ret ⟨vz, (res_one rfl rfl), ⟨vz, hsz, tabF (1 + ((ur n) % most)) (closW (1 + ((ur n) % most)) ([])), rfl, ho53, hot32, ?_, hx0_21⟩⟩
        · first
          | exact ⟨isT_tabF (ordB_iff.1 (by simpa using ‹(!ordB (1 + ur n % most) (closW (1 + ur n % most) xs)) = false›)), by rw [tabF_length]; omega, by rw [tabF_length]; omega⟩
          | exact ⟨isT_tabF (up_order fun d hd => by cases hd), by rw [tabF_length]; omega, by rw [tabF_length]; omega⟩
      · refine wi_skip <| wi_seq <| wi_reg rfl <| lx_move (vr) rfl rfl <| lx_assign (vr) rfl rfl <| lx_nil <| ?_
        -- R13
        refine wi_ret ⟨vr, (res_one rfl rfl), ⟨vr, hsr, tabF (1 + ((ur n) % most)) (closW (1 + ((ur n) % most)) xs), rfl, ho49, hot29, ?_, hx0_20⟩⟩
        · first
          | exact ⟨isT_tabF (ordB_iff.1 (by simpa using ‹(!ordB (1 + ur n % most) (closW (1 + ur n % most) xs)) = false›)), by rw [tabF_length]; omega, by rw [tabF_length]; omega⟩
          | exact ⟨isT_tabF (up_order fun d hd => by cases hd), by rw [tabF_length]; omega, by rw [tabF_length]; omega⟩

end Go.Proofs.Ytdokijbdnajhgaa
namespace Go.X

end Go.X
namespace Go.Proofs.Ytdokijbdnajhgaa
open Go Go.X

end Go.Proofs.Ytdokijbdnajhgaa
namespace Go.Proofs.Ytdokijbdnajhgaa
open Go Go.X

theorem chkT_zero {p : List (List Bool)} (h1 : 1 ≤ p.length) (h2 : p.length ≤ 12) (h3 : isT p = true) : chkT p = 0 := by
  rw [sq_self (isT_sq h3), chkT_tabF h1 h2, if_pos (ordB_iff.2 (isT_o h3))]

end Go.Proofs.Ytdokijbdnajhgaa
namespace Go.Proofs.Ytdokijbdnajhgaa
open Go Go.X

end Go.Proofs.Ytdokijbdnajhgaa
namespace Go.Proofs.Ytdokijbdnajhgaa
open Go Go.X

end Go.Proofs.Ytdokijbdnajhgaa
namespace Go.Proofs.Ytdokijbdnajhgaa
open Go Go.X

set_option maxRecDepth 10000 in
theorem rbelow_spec (h : Heap) (vp : Value) (hs : List Hdr) (p : List (List Bool)) (x : Nat) (y : Nat) (hr_vp : RdE encHd h vp hs) (ht_vp : RT encB h hs p) (hp1 : p.length ≤ 12) (hp2 : Sq p p.length) (hp3 : x < p.length) (hp4 : y < p.length) : Fx Try.prog 102 [vp, .int .i64 ((x : Nat) : Int), .int .i64 ((y : Nat) : Int)] h (fun v h' => v = .bool (decide (x ≠ y) && pb p x y) ∧ h = h') := by
  have hl_vp := ht_vp.1
  refine fx_intro (n := 19) [(0, vp), (1, .int .i64 ((x : Nat) : Int)), (2, .int .i64 ((y : Nat) : Int))] Try.func102 rfl rfl (by simp) ⟨rfl, rfl, rfl, trivial⟩ fun g0 => ?_
  refine wi_seq <| wi_reg rfl <| lx_assign (.bool false) rfl rfl <| lx_nil <| wi_seq <| wi_reg rfl <| lx_move (.int .i64 ((x : Nat) : Int)) rfl rfl <| lx_move (.int .i64 ((y : Nat) : Int)) rfl rfl <| lx_neqS rfl rfl rfl (fun c1 => ?_) (fun c1 => ?_)
  · refine lx_move (.bool true) rfl rfl <| lx_move (vp) rfl rfl <| lx_move (.int .i64 ((x : Nat) : Int)) rfl rfl <| lx_ix (i := x) rfl eT23 hr_vp rfl rfl (by omega) <| lx_ld (i := x) (j := 0) ((gt hs x).v) rfl rfl fl70 hr_vp (by omega) rfl rfl <| lx_move (.int .i64 ((y : Nat) : Int)) rfl rfl <| lx_ix (i := y) rfl eT70 (ht_vp.2 x (by omega)) rfl rfl (by rw [hp2.2 x (by omega)]; omega) <| lx_ld (i := y) (j := 0) (.bool (gt (gt p x) y)) rfl rfl fl4 (ht_vp.2 x (by omega)) (by rw [hp2.2 x (by omega)]; omega) rfl rfl <| lx_pick true (.bool (gt (gt p x) y)) rfl rfl rfl <| lx_assign (.bool (gt (gt p x) y)) rfl rfl <| lx_nil <| ?_
    -- R1
    refine wi_ret ⟨.bool (gt (gt p x) y), (res_one rfl rfl), ⟨?_, rfl⟩⟩
    · congr 1
      first
      | (rw [decide_eq_true (show x ≠ y by omega), Bool.true_and]; done)
      | (rw [decide_eq_false (show ¬ x ≠ y by omega)]; rfl)
  · refine lx_move (.bool false) rfl rfl <| lx_skip rfl <| lx_skip rfl <| lx_skip rfl <| lx_skip rfl <| lx_skip rfl <| lx_skip rfl <| lx_skip rfl <| lx_pick false (.bool false) rfl rfl rfl <| lx_assign (.bool false) rfl rfl <| lx_nil <| ?_
    -- R2
    refine wi_ret ⟨.bool false, (res_one rfl rfl), ⟨?_, rfl⟩⟩
    · congr 1
      first
      | (rw [decide_eq_true (show x ≠ y by omega), Bool.true_and]; done)
      | (rw [decide_eq_false (show ¬ x ≠ y by omega)]; rfl)

set_option maxRecDepth 10000 in
theorem rright_spec (h : Heap) (vp : Value) (hs : List Hdr) (p : List (List Bool)) (x : Nat) (y : Nat) (hr_vp : RdE encHd h vp hs) (ht_vp : RT encB h hs p) (hp1 : p.length ≤ 12) (hp2 : Sq p p.length) (hp3 : x < p.length) (hp4 : y < p.length) : Fx Try.prog 103 [vp, .int .i64 ((x : Nat) : Int), .int .i64 ((y : Nat) : Int)] h (fun v h' => v = .bool (rbF p.length (pb p) x y) ∧ h = h') := by
  have hl_vp := ht_vp.1
  refine fx_intro (n := 28) [(0, vp), (1, .int .i64 ((x : Nat) : Int)), (2, .int .i64 ((y : Nat) : Int))] Try.func103 rfl rfl (by simp) ⟨rfl, rfl, rfl, trivial⟩ fun g0 => ?_
  refine wi_seq <| wi_reg rfl <| lx_assign (.bool false) rfl rfl <| lx_nil <| wi_seq <| wi_seq <| wi_reg rfl <| lx_assign (.int .i64 0) rfl rfl <| lx_nil <| wi_block <| ?_
  refine wi_loop (σ := Nat) (rngB 6 24 []) (fun (z : Nat) => [(7, .int .i64 ((z : Nat) : Int))]) (fun (z : Nat) (hh : Heap) => h = hh ∧ (z ≤ p.length) ∧ (∀ w, w < z → ((decide (x ≠ w) && pb p x w) && (decide (w ≠ y) && pb p w y)) = false)) (fun (z : Nat) => p.length - z) 0 ⟨rfl, trivial⟩ ⟨rfl, ?_, ?_⟩ ?_
  · try dsimp only
    omega
  · try dsimp only
    intro w hw; omega
  rintro g1 z hh1 ⟨rfl, hz, ha⟩ IH1
  refine wi_seq <| wi_seq <| wi_reg rfl <| lx_move (.int .i64 ((z : Nat) : Int)) rfl rfl <| lx_move (vp) rfl rfl <| lx_len rfl Try.underlying23 hr_vp rfl <| lx_lssS rfl rfl rfl (fun c1 => ?_) (fun c1 => ?_)
  · refine lx_nil <| wi_true rfl <| wi_skip <| wi_seq <| wi_block <| wi_seq <| wi_reg rfl <| lx_move (vp) rfl rfl <| lx_move (.int .i64 ((x : Nat) : Int)) rfl rfl <| lx_move (.int .i64 ((z : Nat) : Int)) rfl rfl <| lx_call [vp, .int .i64 ((x : Nat) : Int), .int .i64 ((z : Nat) : Int)] rfl rfl Try.call102 rfl (rbelow_spec h vp hs p x z hr_vp ht_vp (by omega) (by first | with_reducible assumption | omega) (by omega) (by omega)) (fun _ _ _ => trivial) ?_
    rintro _ h1 ⟨rfl, rfl⟩
    refine lx_move (.bool (decide (x ≠ z) && pb p x z)) rfl rfl <| ?_
    cases c2 : (decide (x ≠ z) && pb p x z)
    · refine lx_skip rfl <| lx_skip rfl <| lx_skip rfl <| lx_skip rfl <| lx_pick false (.bool false) rfl rfl rfl <| lx_nil <| wi_false rfl <| wi_skip <| wi_inBlock <| wi_reg rfl <| lx_move (.int .i64 ((z : Nat) : Int)) rfl rfl <| lx_add (((z + 1 : Nat) : Int)) rfl rfl rfl (by omega) (by omega) (by omega) <| lx_assign (.int .i64 ((z + 1 : Nat) : Int)) rfl rfl <| lx_nil <| ?_
      -- L0.1
      refine IH1 _ _ (z + 1) (agree_ups rfl agree_self) ⟨rfl, trivial⟩ ⟨rfl, ?_, ?_⟩ ?_
      · try dsimp only
        omega
      · try dsimp only
        intro w hw
        by_cases e : w = z
        · subst e; first | (rw [show (decide (x ≠ w) && pb p x w) = false from by assumption]; rfl) | (rw [show (decide (w ≠ y) && pb p w y) = false from by assumption, Bool.and_false])
        · exact ha w (by omega)
      · first | omega | (dsimp only; omega)
    · refine lx_move (vp) rfl rfl <| lx_move (.int .i64 ((z : Nat) : Int)) rfl rfl <| lx_move (.int .i64 ((y : Nat) : Int)) rfl rfl <| lx_call [vp, .int .i64 ((z : Nat) : Int), .int .i64 ((y : Nat) : Int)] rfl rfl Try.call102 rfl (rbelow_spec h vp hs p z y hr_vp ht_vp (by omega) (by first | with_reducible assumption | omega) (by omega) (by omega)) (fun _ _ _ => trivial) ?_
      rintro _ h2 ⟨rfl, rfl⟩
      refine lx_pick true (.bool (decide (z ≠ y) && pb p z y)) rfl rfl rfl <| lx_nil <| wi_condS (t := decide (z ≠ y) && pb p z y) rfl (fun c3 => ?_) (fun c3 => ?_)
      · refine wi_seq <| wi_reg rfl <| lx_assign (.bool false) rfl rfl <| lx_nil <| ?_
        -- R1
        refine wi_ret ⟨.bool false, (res_one rfl rfl), ⟨?_, rfl⟩⟩
        · congr 1
          first
          | exact (rb_no (z := z) (by omega) (by assumption) (by assumption)).symm
          | exact (rb_yes (fun w hw => ha w (by omega))).symm
      · refine wi_skip <| wi_inBlock <| wi_reg rfl <| lx_move (.int .i64 ((z : Nat) : Int)) rfl rfl <| lx_add (((z + 1 : Nat) : Int)) rfl rfl rfl (by omega) (by omega) (by omega) <| lx_assign (.int .i64 ((z + 1 : Nat) : Int)) rfl rfl <| lx_nil <| ?_
        -- L0.2
        refine IH1 _ _ (z + 1) (agree_ups rfl agree_self) ⟨rfl, trivial⟩ ⟨rfl, ?_, ?_⟩ ?_
        · try dsimp only
          omega
        · try dsimp only
          intro w hw
          by_cases e : w = z
          · subst e; first | (rw [show (decide (x ≠ w) && pb p x w) = false from by assumption]; rfl) | (rw [show (decide (w ≠ y) && pb p w y) = false from by assumption, Bool.and_false])
          · exact ha w (by omega)
        · first | omega | (dsimp only; omega)
  · refine lx_nil <| wi_false rfl <| wi_exit rfl <| wi_seq <| wi_reg rfl <| lx_move (vp) rfl rfl <| lx_move (.int .i64 ((x : Nat) : Int)) rfl rfl <| lx_move (.int .i64 ((y : Nat) : Int)) rfl rfl <| lx_call [vp, .int .i64 ((x : Nat) : Int), .int .i64 ((y : Nat) : Int)] rfl rfl Try.call102 rfl (rbelow_spec h vp hs p x y hr_vp ht_vp (by omega) (by first | with_reducible assumption | omega) (by omega) (by omega)) (fun _ _ _ => trivial) ?_
    rintro _ h3 ⟨rfl, rfl⟩
    refine lx_assign (.bool (decide (x ≠ y) && pb p x y)) rfl rfl <| lx_nil <| ?_
    -- R2
    refine wi_ret ⟨.bool (decide (x ≠ y) && pb p x y), (res_one rfl rfl), ⟨?_, rfl⟩⟩
    · congr 1
      first
      | exact (rb_no (z := z) (by omega) (by assumption) (by assumption)).symm
      | exact (rb_yes (fun w hw => ha w (by omega))).symm

set_option maxRecDepth 10000 in
theorem rows9_spec (h : Heap) (va : Value) (ha : List Hdr) (p : List (List Int)) (vb : Value) (hb : List Hdr) (q : List (List Int)) (hr_va : RdE encHd h va ha) (ht_va : RT encI h ha p) (hr_vb : RdE encHd h vb hb) (ht_vb : RT encI h hb q) (hp1 : p.length ≤ 4096) (hp2 : q.length ≤ 4096) (hp3 : ∀ i, i < p.length → (gt p i).length ≤ 4096) (hp4 : ∀ i, i < q.length → (gt q i).length ≤ 4096) : Fx Try.prog 39 [va, vb] h (fun v h' => v = .bool (decide (p = q)) ∧ h = h') := by
  have hl_va := ht_va.1
  have hl_vb := ht_vb.1
  refine fx_intro (n := 27) [(0, va), (1, vb)] Try.func39 rfl rfl (by simp) ⟨rfl, rfl, trivial⟩ fun g0 => ?_
  refine wi_seq <| wi_reg rfl <| lx_assign (.bool false) rfl rfl <| lx_nil <| wi_seq <| wi_seq <| wi_reg rfl <| lx_move (va) rfl rfl <| lx_len rfl Try.underlying49 hr_va rfl <| lx_move (vb) rfl rfl <| lx_len rfl Try.underlying49 hr_vb rfl <| lx_neqS rfl rfl rfl (fun c1 => ?_) (fun c1 => ?_)
  · refine lx_nil <| wi_true rfl <| wi_seq <| wi_reg rfl <| lx_assign (.bool false) rfl rfl <| lx_nil <| ?_
    -- R1
    refine wi_ret ⟨.bool false, (res_one rfl rfl), ⟨?_, rfl⟩⟩
    · congr 1; exact (decide_eq_false fun e => c1 (by rw [hl_va, hl_vb, e])).symm
  · refine lx_nil <| wi_false rfl <| wi_skip <| wi_seq <| wi_seq <| wi_reg rfl <| lx_assign (.int .i64 0) rfl rfl <| lx_nil <| wi_block <| ?_
    refine wi_loop (σ := Nat) (rngB 11 27 [4, 5]) (fun (i : Nat) => [(5, .int .i64 ((i : Nat) : Int))]) (fun (i : Nat) (hh : Heap) => h = hh ∧ (i ≤ p.length) ∧ (∀ j, j < i → gt p j = gt q j)) (fun (i : Nat) => p.length - i) 0 ⟨rfl, trivial⟩ ⟨rfl, ?_, ?_⟩ ?_
    · try dsimp only
      omega
    · try dsimp only
      intro j hj; omega
    rintro g1 i hh1 ⟨rfl, hi, he⟩ IH1
    refine wi_seq <| wi_seq <| wi_reg rfl <| lx_move (.int .i64 ((i : Nat) : Int)) rfl rfl <| lx_move (va) rfl rfl <| lx_len rfl Try.underlying49 hr_va rfl <| lx_lssS rfl rfl rfl (fun c2 => ?_) (fun c2 => ?_)
    · refine lx_nil <| wi_true rfl <| wi_skip <| wi_seq <| wi_block <| wi_seq <| wi_drawS (fun h9 => h = h9) (fun o => match o.dst with | some 20 | some 24 => .free | _ => kindOf o) mo rfl (by decide +kernel) rfl <| ?_
      have hq3 := hp3 i (by omega)
      have hq4 := hp4 i (by omega)
      refine lx_move (va) rfl rfl <| lx_move (.int .i64 ((i : Nat) : Int)) rfl rfl <| lx_ix (i := i) rfl eT49 hr_va rfl rfl (by omega) <| lx_ldF (i := i) (j := 0) ((gt ha i).v) rfl fl25 (fun _ e9 => e9 ▸ hr_va) (by omega) rfl rfl <| lx_move (vb) rfl rfl <| lx_move (.int .i64 ((i : Nat) : Int)) rfl rfl <| lx_ix (i := i) rfl eT49 hr_vb rfl rfl (by omega) <| lx_ldF (i := i) (j := 0) ((gt hb i).v) rfl fl25 (fun _ e9 => e9 ▸ hr_vb) (by omega) rfl rfl <| lx_call [(gt ha i).v, (gt hb i).v] rfl rfl Try.call19 rfl (ints_spec h ((gt ha i).v) (gt p i) ((gt hb i).v) (gt q i) (ht_va.2 i (by omega)) (ht_vb.2 i (by omega)) (by omega) (by omega)) (by rintro _ _ ⟨_, e⟩; exact e) ?_
      rintro _ h1 ⟨rfl, rfl⟩
      refine lx_not rfl rfl <| lx_nil <| wi_condS (t := !(decide ((gt p i) = (gt q i)))) rfl (fun c3 => ?_) (fun c3 => ?_)
      · refine wi_seq <| wi_reg rfl <| lx_assign (.bool false) rfl rfl <| lx_nil <| ?_
        -- R2
        refine wi_ret ⟨.bool false, (res_one rfl rfl), ⟨?_, rfl⟩⟩
        · congr 1; exact (decide_eq_false fun e => by rw [e] at c3; simp at c3).symm
      · refine wi_skip <| wi_inBlock <| wi_reg rfl <| lx_move (.int .i64 ((i : Nat) : Int)) rfl rfl <| lx_add (((i + 1 : Nat) : Int)) rfl rfl rfl (by omega) (by omega) (by omega) <| lx_assign (.int .i64 ((i + 1 : Nat) : Int)) rfl rfl <| lx_nil <| ?_
        -- L0.1
        refine IH1 _ _ (i + 1) (agree_ups rfl agree_self) ⟨rfl, trivial⟩ ⟨rfl, ?_, ?_⟩ ?_
        · try dsimp only
          omega
        · try dsimp only
          intro j hj
          by_cases e : j = i
          · subst e; simpa using c3
          · exact he j (by omega)
        · first | omega | (dsimp only; omega)
    · refine lx_nil <| wi_false rfl <| wi_exit rfl <| wi_seq <| wi_reg rfl <| lx_assign (.bool true) rfl rfl <| lx_nil <| ?_
      -- R3
      refine wi_ret ⟨.bool true, (res_one rfl rfl), ⟨?_, rfl⟩⟩
      · congr 1; exact (decide_eq_true (gt_ext (by omega) fun j hj => he j (by omega))).symm

end Go.Proofs.Ytdokijbdnajhgaa
namespace Go.Proofs.Ytdokijbdnajhgaa
open Go Go.X

/-- The pairs of which one is right below the other. -/
def covK (n : Nat) (f : Nat → Nat → Bool) (x k : Nat) : List (Int × Int) := ((List.range k).filter fun y => rbF n f x y).map fun (y : Nat) => ((x : Int), (y : Int))
def covF (n : Nat) (f : Nat → Nat → Bool) (k : Nat) : List (Int × Int) := (List.range k).flatMap fun x => covK n f x n
theorem covK_yes {n x k : Nat} {f : Nat → Nat → Bool} (h : rbF n f x k = true) : covK n f x k ++ [((x : Int), (k : Int))] = covK n f x (k + 1) := by unfold covK; rw [List.range_succ, List.filter_append, List.map_append]; simp [h]
theorem covK_no {n x k : Nat} {f : Nat → Nat → Bool} (h : rbF n f x k = false) : covK n f x k = covK n f x (k + 1) := by unfold covK; rw [List.range_succ, List.filter_append, List.map_append]; simp [h]
theorem covF_succ (n : Nat) (f : Nat → Nat → Bool) (k : Nat) : covF n f (k + 1) = covF n f k ++ covK n f k n := by unfold covF; rw [List.range_succ, List.flatMap_append]; simp
theorem covK_len (n : Nat) (f : Nat → Nat → Bool) (x k : Nat) : (covK n f x k).length ≤ k := by
  unfold covK
  rw [List.length_map]
  have := List.length_filter_le (fun y => rbF n f x y) (List.range k)
  rwa [List.length_range] at this
theorem covF_len {n : Nat} (f : Nat → Nat → Bool) : ∀ k, (covF n f k).length ≤ k * n
  | 0 => by simp [covF]
  | k + 1 => by
    rw [covF_succ, List.length_append, Nat.add_mul, Nat.one_mul]
    have := covF_len f (n := n) k
    have := covK_len n f k n
    omega
/-- What is wrong with a list of numbers. -/
def numB (xs : List Int) : Bool := (List.range xs.length).all fun i => decide (-1000000000 ≤ gt xs i ∧ gt xs i ≤ 1000000000)
theorem numB_iff {xs : List Int} : numB xs = true ↔ ∀ i, i < xs.length → -1000000000 ≤ gt xs i ∧ gt xs i ≤ 1000000000 := by
  unfold numB
  rw [rall_iff]
  exact ⟨fun h i hi => of_decide_eq_true (h i hi), fun h i hi => decide_eq_true (h i hi)⟩
def lstE (n : Nat) (xs : List Int) : Int := if xs.length = n then (if numB xs then 0 else 1) else 7
def lisE (p : List (List Bool)) (xs : List Int) : Int := if chkT p = 0 then lstE p.length xs else chkT p

set_option maxRecDepth 10000 in
theorem lst1_spec (h : Heap) (x : Int) : Fx Try.prog 141 [.int .i64 x] h (fun v h' => v = .bool (decide (¬ (-1000000000 ≤ x ∧ x ≤ 1000000000))) ∧ h = h') := by
  refine fx_intro (n := 9) [(0, .int .i64 x)] Try.func141 rfl rfl (by simp) ⟨rfl, trivial⟩ fun g0 => ?_
  refine wi_seq <| wi_reg rfl <| lx_assign (.bool false) rfl rfl <| lx_nil <| wi_seq <| wi_reg rfl <| lx_move (.int .i64 x) rfl rfl <| lx_lssS rfl rfl rfl (fun c1 => ?_) (fun c1 => ?_)
  · refine lx_move (.bool true) rfl rfl <| lx_skip rfl <| lx_skip rfl <| lx_pick true (.bool true) rfl rfl rfl <| lx_assign (.bool true) rfl rfl <| lx_nil <| ?_
    -- R1
    refine wi_ret ⟨.bool true, (res_one rfl rfl), ⟨?_, rfl⟩⟩
    · congr 1
      first
      | exact (decide_eq_true (by omega)).symm
      | exact (decide_eq_false (by omega)).symm
  · refine lx_move (.bool false) rfl rfl <| lx_move (.int .i64 x) rfl rfl <| lx_gtrS rfl rfl rfl (fun c2 => ?_) (fun c2 => ?_)
    · refine lx_pick false (.bool true) rfl rfl rfl <| lx_assign (.bool true) rfl rfl <| lx_nil <| ?_
      -- R2
      refine wi_ret ⟨.bool true, (res_one rfl rfl), ⟨?_, rfl⟩⟩
      · congr 1
        first
        | exact (decide_eq_true (by omega)).symm
        | exact (decide_eq_false (by omega)).symm
    · refine lx_pick false (.bool false) rfl rfl rfl <| lx_assign (.bool false) rfl rfl <| lx_nil <| ?_
      -- R3
      refine wi_ret ⟨.bool false, (res_one rfl rfl), ⟨?_, rfl⟩⟩
      · congr 1
        first
        | exact (decide_eq_true (by omega)).symm
        | exact (decide_eq_false (by omega)).symm

set_option maxRecDepth 10000 in
theorem lindex_spec (h : Heap) (vl : Value) (xs : List Int) (hr_vl : RdE encI h vl xs) (hp1 : xs.length ≤ 1000000) : Fx Try.prog 171 [vl, .func (.func 141) #[] #[]] h (fun v h' => ∃ (r : Int), v = .int .i64 r ∧ ((r = -1 ∧ ∀ i, i < xs.length → -1000000000 ≤ gt xs i ∧ gt xs i ≤ 1000000000) ∨ (0 ≤ r ∧ ∃ i, i < xs.length ∧ ¬ (-1000000000 ≤ gt xs i ∧ gt xs i ≤ 1000000000))) ∧ h = h') := by
  refine fx_intro (n := 19) [(0, vl), (1, .func (.func 141) #[] #[])] Try.func171 rfl rfl (by simp) ⟨rfl, rfl, trivial⟩ fun g0 => ?_
  refine wi_seq <| wi_reg rfl <| lx_assign (.int .i64 0) rfl rfl <| lx_nil <| wi_seq <| wi_seq <| wi_reg rfl <| lx_move (vl) rfl rfl <| lx_len rfl Try.underlying58 hr_vl rfl <| lx_move (.int .i64 0) rfl rfl <| lx_nil <| wi_block <| ?_
  refine wi_loop (σ := Nat) (rngB 8 19 [4, 5]) (fun (i : Nat) => [(8, .int .i64 ((i : Nat) : Int))]) (fun (i : Nat) (hh : Heap) => h = hh ∧ (i ≤ xs.length) ∧ (∀ j, j < i → -1000000000 ≤ gt xs j ∧ gt xs j ≤ 1000000000)) (fun (i : Nat) => xs.length - i) 0 ⟨rfl, trivial⟩ ⟨rfl, ?_, ?_⟩ ?_
  · try dsimp only
    omega
  · try dsimp only
    intro j hj; omega
  rintro g1 i hh1 ⟨rfl, hi, he⟩ IH1
  refine wi_seq <| wi_reg rfl <| lx_lssS rfl rfl rfl (fun c1 => ?_) (fun c1 => ?_)
  · refine lx_nil <| wi_seq <| wi_true rfl <| wi_skip <| wi_seq <| wi_block <| wi_seq <| wi_reg rfl <| lx_move (.int .i64 ((i : Nat) : Int)) rfl rfl <| lx_assign (.int .i64 ((i : Nat) : Int)) rfl rfl <| lx_nil <| wi_seq <| wi_reg rfl <| lx_move (.func (.func 141) #[] #[]) rfl rfl <| lx_move (vl) rfl rfl <| lx_move (.int .i64 ((i : Nat) : Int)) rfl rfl <| lx_ix (i := i) rfl eT58 hr_vl rfl rfl (by omega) <| lx_ld (i := i) (j := 0) (.int .i64 (gt xs i)) rfl rfl fl2 hr_vl (by omega) rfl rfl <| lx_callV [] [] [.int .i64 (gt xs i)] rfl rfl Try.call141 rfl rfl (lst1_spec h (gt xs i) ) (fun _ _ _ => trivial) ?_
    rintro _ h1 ⟨rfl, rfl⟩
    refine lx_nil <| wi_condS (t := decide (¬ (-1000000000 ≤ (gt xs i) ∧ (gt xs i) ≤ 1000000000))) rfl (fun c2 => ?_) (fun c2 => ?_)
    · refine wi_seq <| wi_reg rfl <| lx_move (.int .i64 ((i : Nat) : Int)) rfl rfl <| lx_assign (.int .i64 ((i : Nat) : Int)) rfl rfl <| lx_nil <| ?_
      -- R1
      refine wi_ret ⟨.int .i64 ((i : Nat) : Int), (res_one rfl rfl), ⟨((i : Nat) : Int), ?_, ?_, rfl⟩⟩
      · first | rfl | (simp; done) | (simp; omega)
      · refine .inr ⟨by omega, i, by omega, ?_⟩
        exact of_decide_eq_true c2
    · refine wi_skip <| wi_inBlock <| wi_reg rfl <| lx_add (((i + 1 : Nat) : Int)) rfl rfl rfl (by omega) (by omega) (by omega) <| lx_move (.int .i64 ((i + 1 : Nat) : Int)) rfl rfl <| lx_nil <| ?_
      -- L0.1
      refine IH1 _ _ (i + 1) (agree_ups rfl agree_self) ⟨rfl, trivial⟩ ⟨rfl, ?_, ?_⟩ ?_
      · try dsimp only
        omega
      · try dsimp only
        intro j hj; by_cases e : j = i
        · subst e; have h9 := of_decide_eq_false c2; omega
        · exact he j (by omega)
      · first | omega | (dsimp only; omega)
  · refine lx_nil <| wi_seq <| wi_false rfl <| wi_exit rfl <| wi_seq <| wi_reg rfl <| lx_assign (.int .i64 (-1)) rfl rfl <| lx_nil <| ?_
    -- R2
    refine wi_ret ⟨.int .i64 (-1), (res_one rfl rfl), ⟨(-1), ?_, ?_, rfl⟩⟩
    · first | rfl | (simp; done) | (simp; omega)
    · exact .inl ⟨rfl, fun j hj => he j (by omega)⟩

set_option maxRecDepth 10000 in
theorem lcontains_spec (h : Heap) (vl : Value) (xs : List Int) (hr_vl : RdE encI h vl xs) (hp1 : xs.length ≤ 1000000) : Fx Try.prog 140 [vl, .func (.func 141) #[] #[]] h (fun v h' => v = .bool (!numB xs) ∧ h = h') := by
  refine fx_intro (n := 9) [(0, vl), (1, .func (.func 141) #[] #[])] Try.func140 rfl rfl (by simp) ⟨rfl, rfl, trivial⟩ fun g0 => ?_
  refine wi_seq <| wi_reg rfl <| lx_assign (.bool false) rfl rfl <| lx_nil <| wi_seq <| wi_reg rfl <| lx_move (vl) rfl rfl <| lx_move (.func (.func 141) #[] #[]) rfl rfl <| lx_call [vl, .func (.func 141) #[] #[]] rfl rfl Try.call171 rfl (lindex_spec h vl xs hr_vl (by omega)) (fun _ _ _ => trivial) ?_
  rintro _ h1 ⟨r_1, rfl, hr_1, rfl⟩
  refine lx_geq rfl rfl rfl <| lx_assign (.bool (decide ((0 : Int) ≤ r_1))) rfl rfl <| lx_nil <| ?_
  -- R1
  refine wi_ret ⟨.bool (decide ((0 : Int) ≤ r_1)), (res_one rfl rfl), ⟨?_, rfl⟩⟩
  · congr 1
    rcases hr_1 with ⟨h1, h2⟩ | ⟨h1, j, h2, h3⟩
    · rw [decide_eq_false (by omega), numB_iff.2 h2]; rfl
    · rw [decide_eq_true (by omega)]
      symm
      rw [Bool.not_eq_true', Bool.eq_false_iff]
      exact fun h => h3 (numB_iff.1 h j h2)

set_option maxRecDepth 10000 in
theorem checkList_spec (h : Heap) (vp : Value) (hs : List Hdr) (p : List (List Bool)) (vl : Value) (xs : List Int) (hr_vp : RdE encHd h vp hs) (ht_vp : RT encB h hs p) (hr_vl : RdE encI h vl xs) (hp1 : p.length ≤ 1000000) (hp2 : ∀ i, i < p.length → (gt p i).length ≤ 1000000) (hp3 : xs.length ≤ 1000000) : Fx Try.prog 107 [vp, vl] h (fun v h' => v = .int .i64 (lisE p xs) ∧ Ext h.size h h') := by
  have hl_vp := ht_vp.1
  refine fx_intro (n := 18) [(0, vp), (1, vl)] Try.func107 rfl rfl (by simp) ⟨rfl, rfl, trivial⟩ fun g0 => ?_
  refine wi_seq <| wi_reg rfl <| lx_assign (.int .i64 0) rfl rfl <| lx_nil <| wi_seq <| wi_seq <| wi_reg rfl <| lx_move (vp) rfl rfl <| lx_call [vp] rfl rfl Try.call62 rfl (ocheck_spec h vp hs p hr_vp ht_vp (by omega) (by first | with_reducible assumption | omega)) (fun _ _ _ => trivial) ?_
  rintro _ h1 ⟨rfl, hx1⟩
  refine lx_assign (.int .i64 (chkT p)) rfl rfl <| lx_nil <| wi_seq <| wi_reg rfl <| lx_move (.int .i64 (chkT p)) rfl rfl <| lx_neqS rfl rfl rfl (fun c1 => ?_) (fun c1 => ?_)
  · refine lx_nil <| wi_true rfl <| wi_seq <| wi_reg rfl <| lx_move (.int .i64 (chkT p)) rfl rfl <| lx_assign (.int .i64 (chkT p)) rfl rfl <| lx_nil <| ?_
    -- R1
    refine wi_ret ⟨.int .i64 (chkT p), (res_one rfl rfl), ⟨?_, hx1⟩⟩
    · rw [show lisE p xs = chkT p from if_neg (by omega)]
  · refine lx_nil <| wi_false rfl <| wi_skip <| wi_seq <| wi_seq <| wi_reg rfl <| lx_move (vl) rfl rfl <| lx_len rfl Try.underlying58 hr_vl rfl <| lx_move (vp) rfl rfl <| lx_len rfl Try.underlying29 hr_vp rfl <| lx_neqS rfl rfl rfl (fun c2 => ?_) (fun c2 => ?_)
    · refine lx_nil <| wi_true rfl <| wi_seq <| wi_reg rfl <| lx_assign (.int .i64 7) rfl rfl <| lx_nil <| ?_
      -- R2
      refine wi_ret ⟨.int .i64 7, (res_one rfl rfl), ⟨?_, hx1⟩⟩
      · congr 1; unfold lisE lstE; rw [if_pos (by omega), if_neg (by omega)]
    · refine lx_nil <| wi_false rfl <| wi_skip <| wi_seq <| wi_seq <| wi_reg rfl <| lx_move (vl) rfl rfl <| lx_call [vl, .func (.func 141) #[] #[]] rfl rfl Try.call140 rfl (lcontains_spec h1 vl xs (hr_vl.extS hx1) (by omega)) (fun _ _ _ => trivial) ?_
      rintro _ h2 ⟨rfl, rfl⟩
      refine lx_nil <| wi_condS (t := !numB xs) rfl (fun c3 => ?_) (fun c3 => ?_)
      · refine wi_seq <| wi_reg rfl <| lx_assign (.int .i64 1) rfl rfl <| lx_nil <| ?_
        -- R3
        refine wi_ret ⟨.int .i64 1, (res_one rfl rfl), ⟨?_, hx1⟩⟩
        · congr 1; unfold lisE lstE; rw [if_pos (by omega), if_pos (by omega), if_neg (by simpa using ‹(!numB xs) = true›)]
      · refine wi_skip <| wi_seq <| wi_reg rfl <| lx_assign (.int .i64 0) rfl rfl <| lx_nil <| ?_
        -- R4
        refine wi_ret ⟨.int .i64 0, (res_one rfl rfl), ⟨?_, hx1⟩⟩
        · congr 1; unfold lisE lstE; rw [if_pos (by omega), if_pos (by omega), if_pos (by simpa using ‹(!numB xs) = false›)]

set_option maxRecDepth 10000 in
theorem ocovers_spec (h : Heap) (vp : Value) (hs : List Hdr) (p : List (List Bool)) (hr_vp : RdE encHd h vp hs) (ht_vp : RT encB h hs p) (hp1 : p.length ≤ 1000000) (hp2 : ∀ i, i < p.length → (gt p i).length ≤ 1000000) : Fx Try.prog 52 [vp] h (fun v h' => ∃ (s : Value) (cs : List (Int × Int)), v = .tuple #[s, .int .i64 (chkT p)] ∧ OwE encP h' h.size 85 s cs ∧ (cs = if chkT p = 0 then covF p.length (pb p) p.length else []) ∧ Ext h.size h h') := by
  have hl_vp := ht_vp.1
  refine fx_intro (n := 36) [(0, vp)] Try.func52 rfl rfl (by simp) ⟨rfl, trivial⟩ fun g0 => ?_
  refine wi_seq <| wi_reg rfl <| lx_assign (.slice none 0 0) rfl rfl <| lx_assign (.int .i64 0) rfl rfl <| lx_nil <| wi_seq <| wi_seq <| wi_reg rfl <| lx_move (vp) rfl rfl <| lx_call [vp] rfl rfl Try.call62 rfl (ocheck_spec h vp hs p hr_vp ht_vp (by omega) (by first | with_reducible assumption | omega)) (fun _ _ _ => trivial) ?_
  rintro _ h1 ⟨rfl, hx1⟩
  refine lx_assign (.int .i64 (chkT p)) rfl rfl <| lx_nil <| wi_seq <| wi_reg rfl <| lx_move (.int .i64 (chkT p)) rfl rfl <| lx_neqS rfl rfl rfl (fun c1 => ?_) (fun c1 => ?_)
  · refine lx_nil <| wi_true rfl <| wi_seq <| wi_reg rfl <| lx_move (.int .i64 (chkT p)) rfl rfl <| lx_assign (.slice none 0 0) rfl rfl <| lx_assign (.int .i64 (chkT p)) rfl rfl <| lx_nil <| ?_
    -- R1
    refine wi_ret ⟨.tuple #[.slice none 0 0, .int .i64 (chkT p)], (res_two rfl rfl rfl), ⟨.slice none 0 0, [], rfl, (owE_nil encP _ h.size 85), ?_, hx1⟩⟩
    · rw [if_neg (by omega)]
  · refine lx_nil <| wi_false rfl <| wi_skip <| wi_seq <| wi_reg rfl <| ?_
    have hok := chkT_ok (p := p) (by omega)
    have hp12 : p.length ≤ 12 := hok.2.1
    have hpq : Sq p p.length := isT_sq hok.2.2
    refine lx_assign (.slice none 0 0) rfl rfl <| lx_nil <| wi_seq <| wi_seq <| wi_reg rfl <| lx_move (vp) rfl rfl <| lx_len rfl Try.underlying29 hr_vp rfl <| lx_move (.int .i64 0) rfl rfl <| lx_nil <| wi_block <| ?_
    refine wi_loop (σ := Nat × Value × (List (Int × Int))) (rngB 15 35 [5, 6, 7]) (fun (ss : Nat × Value × (List (Int × Int))) => [(15, .int .i64 ((ss.1 : Nat) : Int)), (5, ss.2.1)]) (fun (ss : Nat × Value × (List (Int × Int))) (hh : Heap) => OwE encP hh h.size 85 ss.2.1 ss.2.2 ∧ Ext h.size h hh ∧ (ss.1 ≤ p.length) ∧ (ss.2.2 = covF p.length (pb p) ss.1)) (fun (ss : Nat × Value × (List (Int × Int))) => p.length - ss.1) (0, .slice none 0 0, []) ⟨rfl, rfl, trivial⟩ ⟨?_, hx1, ?_, ?_⟩ ?_
    · first | exact (owE_nil encP _ h.size 85) | (simpa using (owE_nil encP _ h.size 85))
    · try dsimp only
      omega
    · try dsimp only
      first | done | rfl
    rintro g1 ⟨x, v, cs⟩ hh1 ⟨ho1, hx0_1, hx, hcs⟩ IH1
    dsimp only at *
    have hcl : cs.length ≤ x * p.length := by rw [hcs]; exact covF_len _ _
    have hcm : x * p.length ≤ 12 * 12 := Nat.mul_le_mul (by omega) hp12
    refine wi_seq <| wi_reg rfl <| lx_lssS rfl rfl rfl (fun c2 => ?_) (fun c2 => ?_)
    · refine lx_nil <| wi_seq <| wi_true rfl <| wi_skip <| wi_seq <| wi_block <| wi_seq <| wi_reg rfl <| lx_move (.int .i64 ((x : Nat) : Int)) rfl rfl <| lx_assign (.int .i64 ((x : Nat) : Int)) rfl rfl <| lx_nil <| wi_seq <| wi_reg rfl <| lx_move (vp) rfl rfl <| lx_len rfl Try.underlying29 hr_vp rfl <| lx_move (.int .i64 0) rfl rfl <| lx_nil <| wi_block <| ?_
      refine wi_loop (σ := Nat × Value × (List (Int × Int))) (rngB 20 34 [5, 7]) (fun (ss : Nat × Value × (List (Int × Int))) => [(20, .int .i64 ((ss.1 : Nat) : Int)), (5, ss.2.1)]) (fun (ss : Nat × Value × (List (Int × Int))) (hh : Heap) => OwE encP hh h.size 85 ss.2.1 ss.2.2 ∧ Ext h.size h hh ∧ (ss.1 ≤ p.length) ∧ (ss.2.2 = covF p.length (pb p) x ++ covK p.length (pb p) x ss.1)) (fun (ss : Nat × Value × (List (Int × Int))) => p.length - ss.1) (0, v, cs) ⟨rfl, rfl, trivial⟩ ⟨?_, hx0_1, ?_, ?_⟩ ?_
      · first | exact ho1 | (simpa using ho1)
      · try dsimp only
        omega
      · try dsimp only
        rw [hcs]; simp [covK]
      rintro g2 ⟨y, v, cs⟩ hh2 ⟨ho2, hx0_2, hy, hcs2⟩ IH2
      dsimp only at *
      have hcl2 : cs.length ≤ x * p.length + y := by
        rw [hcs2, List.length_append]
        have h1 := covF_len (n := p.length) (pb p) x
        have h2 := covK_len p.length (pb p) x y
        omega
      refine wi_seq <| wi_reg rfl <| lx_lssS rfl rfl rfl (fun c3 => ?_) (fun c3 => ?_)
      · refine lx_nil <| wi_seq <| wi_true rfl <| wi_skip <| wi_seq <| wi_block <| wi_seq <| wi_reg rfl <| lx_move (.int .i64 ((y : Nat) : Int)) rfl rfl <| lx_assign (.int .i64 ((y : Nat) : Int)) rfl rfl <| lx_nil <| wi_seq <| wi_reg rfl <| lx_move (vp) rfl rfl <| lx_move (.int .i64 ((x : Nat) : Int)) rfl rfl <| lx_move (.int .i64 ((y : Nat) : Int)) rfl rfl <| lx_call [vp, .int .i64 ((x : Nat) : Int), .int .i64 ((y : Nat) : Int)] rfl rfl Try.call96 rfl (rightBelow_spec hh2 vp hs p x y (hr_vp.extS hx0_2) (ht_vp.extS hx0_2) (by omega) hpq (by omega) (by omega)) (fun _ _ _ => trivial) ?_
        rintro _ h2 ⟨rfl, rfl⟩
        refine lx_nil <| wi_condS (t := rbF p.length (pb p) x y) rfl (fun c4 => ?_) (fun c4 => ?_)
        · refine wi_reg rfl <| lx_move (v) rfl rfl <| lx_move (.int .i64 ((x : Nat) : Int)) rfl rfl <| lx_move (.int .i64 ((y : Nat) : Int)) rfl rfl <| lx_build (.agg #[.int .i64 ((x : Nat) : Int), .int .i64 ((y : Nat) : Int)]) [(0, .int .i64 ((x : Nat) : Int)), (1, .int .i64 ((y : Nat) : Int))] rfl rfl (fun w => bld85_2 _ _ w) <| lx_appendL (E := encP) (B := h.size) [(((x : Nat) : Int), ((y : Nat) : Int))] [.agg #[.int .i64 ((x : Nat) : Int), .int .i64 ((y : Nat) : Int)]] rfl rfl (fun _ => rfl) rfl eT22 rfl rfl rfl rfl ho2 (fun _ => rfl) (by show cs.length + 1 ≤ _; omega) (by show (cs.length + 1) * 16 ≤ _; omega) hx0_2.size (fun _ _ => trivial) fun u1 v1 h3 ho3 hc1 hg1 => ?_
          have hx0_3 := hx0_2.trans (ho2.ext hc1 hx0_2.size)
          refine lx_assign (v1) rfl rfl <| lx_nil <| wi_inBlock <| wi_reg rfl <| lx_add (((y + 1 : Nat) : Int)) rfl rfl rfl (by omega) (by omega) (by omega) <| lx_move (.int .i64 ((y + 1 : Nat) : Int)) rfl rfl <| lx_nil <| ?_
          -- L2.1
          refine IH2 _ _ (y + 1, v1, cs ++ [(((x : Nat) : Int), ((y : Nat) : Int))]) (agree_ups rfl agree_self) ⟨rfl, rfl, trivial⟩ ⟨?_, hx0_3, ?_, ?_⟩ ?_
          · first | exact ho3 | (simpa using ho3)
          · try dsimp only
            omega
          · try dsimp only
            rw [hcs2, List.append_assoc, covK_yes (by assumption)]
          · first | omega | (dsimp only; omega)
        · refine wi_skip <| wi_inBlock <| wi_reg rfl <| lx_add (((y + 1 : Nat) : Int)) rfl rfl rfl (by omega) (by omega) (by omega) <| lx_move (.int .i64 ((y + 1 : Nat) : Int)) rfl rfl <| lx_nil <| ?_
          -- L2.2
          refine IH2 _ _ (y + 1, v, cs) (agree_ups rfl agree_self) ⟨rfl, rfl, trivial⟩ ⟨?_, hx0_2, ?_, ?_⟩ ?_
          · first | exact ho2 | (simpa using ho2)
          · try dsimp only
            omega
          · try dsimp only
            rw [hcs2, covK_no (by assumption)]
          · first | omega | (dsimp only; omega)
      · refine lx_nil <| wi_seq <| wi_false rfl <| wi_exit rfl <| wi_inBlock <| wi_reg rfl <| lx_add (((x + 1 : Nat) : Int)) rfl rfl rfl (by omega) (by omega) (by omega) <| lx_move (.int .i64 ((x + 1 : Nat) : Int)) rfl rfl <| lx_nil <| ?_
        -- L0.1
        refine IH1 _ _ (x + 1, v, cs) (agree_ups rfl (agree_mix (rngB_sub (by decide) (by decide) rfl) (agree_ups rfl agree_self))) ⟨rfl, rfl, trivial⟩ ⟨?_, hx0_2, ?_, ?_⟩ ?_
        · first | exact ho2 | (simpa using ho2)
        · try dsimp only
          omega
        · try dsimp only
          rw [covF_succ, hcs2, show y = p.length from by omega]
        · first | omega | (dsimp only; omega)
    · refine lx_nil <| wi_seq <| wi_false rfl <| wi_exit rfl <| wi_seq <| wi_reg rfl <| lx_move (v) rfl rfl <| lx_assign (v) rfl rfl <| lx_assign (.int .i64 0) rfl rfl <| lx_nil <| ?_
      -- R2
      refine wi_ret ⟨.tuple #[v, .int .i64 0], (res_two rfl rfl rfl), ⟨v, cs, ?_, ho1, ?_, hx0_1⟩⟩
      · rw [show chkT p = 0 from by omega]
      · rw [if_pos (by omega), hcs, show x = p.length from by omega]

end Go.Proofs.Ytdokijbdnajhgaa
namespace Go.Proofs.Ytdokijbdnajhgaa
open Go Go.X

end Go.Proofs.Ytdokijbdnajhgaa
namespace Go.Proofs.Ytdokijbdnajhgaa
open Go Go.X

end Go.Proofs.Ytdokijbdnajhgaa
namespace Go.Proofs.Ytdokijbdnajhgaa
open Go Go.X

end Go.Proofs.Ytdokijbdnajhgaa
namespace Go.Proofs.Ytdokijbdnajhgaa
open Go Go.X

end Go.Proofs.Ytdokijbdnajhgaa
namespace Go.Proofs.Ytdokijbdnajhgaa
open Go Go.X

end Go.Proofs.Ytdokijbdnajhgaa
namespace Go.Proofs.Ytdokijbdnajhgaa
open Go.Shelf
end Go.Proofs.Ytdokijbdnajhgaa
namespace Go.Proofs.Ytdokijbdnajhgaa
open Go Go.X
end Go.Proofs.Ytdokijbdnajhgaa
namespace Go.Proofs.Ytdokijbdnajhgaa
open Go Go.X

end Go.Proofs.Ytdokijbdnajhgaa
namespace Go.Proofs.Ytdokijbdnajhgaa
open Go Go.X

end Go.Proofs.Ytdokijbdnajhgaa
namespace Go.Proofs.Ytdokijbdnajhgaa
open Go Go.X

end Go.Proofs.Ytdokijbdnajhgaa
namespace Go.Proofs.Ytdokijbdnajhgaa
open Go Go.X

def eulC (p : List (List Bool)) : Int := if chkT p = 0 then eulN p.length (pb p) else 0
set_option maxRecDepth 10000 in
theorem oeul_spec (h : Heap) (vp : Value) (hs : List Hdr) (p : List (List Bool)) (hr_vp : RdE encHd h vp hs) (ht_vp : RT encB h hs p) (hp1 : p.length ≤ 1000000) (hp2 : ∀ i, i < p.length → (gt p i).length ≤ 1000000) : Fx Try.prog 46 [vp] h (fun v h' => v = .tuple #[.int .i64 (eulC p), .int .i64 (chkT p)] ∧ Ext h.size h h') := by
  have hl_vp := ht_vp.1
  refine fx_intro (n := 50) [(0, vp)] Try.func46 rfl rfl (by simp) ⟨rfl, trivial⟩ fun g0 => ?_
  refine wi_seq <| wi_reg rfl <| lx_box #[vp] rfl rfl (sl_cells hr_vp) (fun _ _ _ => trivial) fun bn1 h1 hbn1 hbk1 hx1 hsz1 => ?_
  have hbb1 : h.size ≤ bn1 := by have := (Nat.le_refl h.size); omega
  refine lx_assign (.int .i64 0) rfl rfl <| lx_assign (.int .i64 0) rfl rfl <| lx_nil <| wi_seq <| wi_seq <| wi_reg rfl <| lx_ldB (vp) rfl rfl fl29 hbk1 rfl rfl <| lx_call [vp] rfl rfl Try.call62 rfl (ocheck_spec h1 vp hs p (hr_vp.extS hx1) (ht_vp.extS hx1) (by omega) (by first | with_reducible assumption | omega)) (fun _ _ _ => trivial) ?_
  rintro _ h2 ⟨rfl, hx2⟩
  have hx0_1 := hx1.trans2 hx2 hx1.size
  have hb1 := hbk1.extS hx2
  refine lx_assign (.int .i64 (chkT p)) rfl rfl <| lx_nil <| wi_seq <| wi_reg rfl <| lx_move (.int .i64 (chkT p)) rfl rfl <| lx_neqS rfl rfl rfl (fun c1 => ?_) (fun c1 => ?_)
  · refine lx_nil <| wi_true rfl <| wi_seq <| wi_reg rfl <| lx_move (.int .i64 (chkT p)) rfl rfl <| lx_assign (.int .i64 0) rfl rfl <| lx_assign (.int .i64 (chkT p)) rfl rfl <| lx_nil <| ?_
    -- R1
    refine wi_ret ⟨.tuple #[.int .i64 0, .int .i64 (chkT p)], (res_two rfl rfl rfl), ⟨?_, hx0_1⟩⟩
    · rw [show eulC p = 0 from if_neg (by omega)]
  · refine lx_nil <| wi_false rfl <| wi_skip <| wi_seq <| wi_reg rfl <| ?_
    have hok := chkT_ok (p := p) (by omega)
    have hp12 : p.length ≤ 12 := hok.2.1
    have hpq : Sq p p.length := isT_sq hok.2.2
    have hpt := hok.2.2
    have hio := isT_o hpt
    have hck : chkT p = 0 := by omega
    refine lx_ldB (vp) rfl rfl fl29 hb1 rfl rfl <| lx_len rfl Try.underlying29 hr_vp rfl <| lx_make (E := encI) (n := hs.length) (B := h2.size) (0 : Int) rfl rfl Try.underlying58 (eZ58) rfl rfl (by omega) (by omega) (Nat.le_refl _) (fun _ _ => trivial) fun v1 h3 ho1 hx3 hvb1 => ?_
    have hx0_2 := hx0_1.trans2 hx3 hx0_1.size
    have hb2 := hb1.extS hx3
    have ho2 := ho1.base hx0_1.size
    refine lx_alloc rfl rfl Try.zeroValue58 (fun _ _ _ => trivial) fun bn2 h4 hbn2 hbk2 hx4 hsz2 => ?_
    have hbb2 : h.size ≤ bn2 := by have := hx0_2.size; omega
    have hne1 : bn2 ≠ bn1 := by have := hb2.lt; omega
    have hdj1 : Value.ownBlock v1 ≠ some bn2 := by intro e; have := (ho2.lt e).2; omega
    have hx0_3 := hx0_2.trans2 hx4 hx0_2.size
    have ho3 := ho2.extS hx4
    have hb3 := hb2.extS hx4
    have hbk2 : Blk h4 bn2 #[.slice none 0 0] 58 := hbk2
    refine lx_stB (v1) rfl rfl Try.sizeOf58 hbk2 (by simp) rfl rfl (sl_cells ho3.rd) (sl_one ho3.rd) (fun _ _ _ _ => trivial) fun h5 hbk3 hc1 => ?_
    have hx0_4 := hx0_3.trans (hc1.ext hbb2)
    have ho4 := hc1.owE ho3 hdj1
    have hb4 := hc1.blk hb3 (Ne.symm hne1)
    have hbk3 : Blk h5 bn2 #[v1] 58 := hbk3
    refine lx_nil <| wi_seq <| wi_reg rfl <| lx_alloc rfl rfl Try.zeroValue2 (fun _ _ _ => trivial) fun bn3 h6 hbn3 hbk4 hx5 hsz3 => ?_
    have hbb3 : h.size ≤ bn3 := by have := hx0_4.size; omega
    have hne2 : bn3 ≠ bn1 := by have := hb4.lt; omega
    have hne3 : bn3 ≠ bn2 := by have := hbk3.lt; omega
    have hdj2 : Value.ownBlock v1 ≠ some bn3 := by intro e; have := (ho4.lt e).2; omega
    have hx0_5 := hx0_4.trans2 hx5 hx0_4.size
    have ho5 := ho4.extS hx5
    have hb5 := hb4.extS hx5
    have hb6 := hbk3.extS hx5
    have hbk4 : Blk h6 bn3 #[.int .i64 0] 2 := hbk4
    refine lx_stB (.int .i64 0) rfl rfl Try.sizeOf2 hbk4 (by simp) rfl rfl rfl rfl (fun _ _ _ _ => trivial) fun h7 hbk5 hc2 => ?_
    have hx0_6 := hx0_5.trans (hc2.ext hbb3)
    have ho6 := hc2.owE ho5 hdj2
    have hb7 := hc2.blk hb5 (Ne.symm hne2)
    have hb8 := hc2.blk hb6 (Ne.symm hne3)
    have hbk5 : Blk h7 bn3 #[.int .i64 0] 2 := hbk5
    refine lx_nil <| wi_seq <| wi_seq <| wi_reg rfl <| lx_ldB (vp) rfl rfl fl29 hb7 rfl rfl <| lx_call [vp] rfl rfl Try.call105 rfl (upward_spec h7 vp hs p (hr_vp.extS hx0_6) (ht_vp.extS hx0_6) (by omega) hpt) (fun _ _ _ => trivial) ?_
    rintro _ h8 ⟨bl, vl, xs, rfl, ho7, hot1, ho8, hli, hx6⟩
    have hx0_7 := hx0_6.trans2 hx6 hx0_6.size
    have ho9 := ho6.extS hx6
    have hb9 := hb7.extS hx6
    have hb10 := hb8.extS hx6
    have hb11 := hbk5.extS hx6
    have hbx1 : h.size ≤ bl := Nat.le_trans hx0_6.size ho7
    have ho10 := ho8.base hx0_6.size
    refine lx_nil <| wi_block <| ?_
    refine wi_range (Ds := []) (gf := 170) (lb := [.pointer (some ⟨bl, 0, none⟩)]) Try.call170 rfl (fun l1 D1 h9 rc1 hlD1 hll1 hDl1 hx7 hlr1 hDr1 hLo1 => ?_)
    have hbl1 : h.size ≤ l1 := Nat.le_trans hx0_7.size hll1
    have hbD1 : h.size ≤ D1 := Nat.le_trans hx0_7.size hlD1
    have hx0_8 := hx0_7.trans2 hx7 hx0_7.size
    have ho11 := ho9.extS hx7
    have ho12 := ho10.extS hx7
    have hb12 := hb9.extS hx7
    have hb13 := hb10.extS hx7
    have hb14 := hb11.extS hx7
    have hb15 := hot1.extS hx7
    refine Fx.mono (values1_seq bl vl xs (by have := hli.len; omega) l1 h9 (fun k hh => hh[l1]? = some (.loop rc1) ∧ DsOk (D1 :: []) hh ∧ ∃ (es : List Int), ∃ (s : Int), OwE encI hh h.size 2 v1 es ∧ OwE encI hh h.size 3 vl xs ∧ Dj v1 vl ∧ Blk hh bl #[vl] 25 ∧ Blk hh bn1 #[vp] 29 ∧ Blk hh bn2 #[v1] 58 ∧ Blk hh bn3 #[.int .i64 s] 2 ∧ Ext h.size h hh ∧ (es = erow p.length (pb p) xs k) ∧ (s = esum p.length (pb p) xs k)) ?_ ?_ ?_ ?_) ?_
    · rintro k ha hb9 ⟨hr9, hd9, es, s, ho13, ho14, hdj3, hbk6, hbk7, hbk8, hbk9, hx0_9, hes, hsu⟩ hq1
      exact ⟨hq1.obj hr9 (Array.getElem?_eq_some_iff.1 hlr1).1, hq1.dso hd9 (fun d hd8 => (Array.getElem?_eq_some_iff.1 (DsOk.cons hDr1 (DsOk.nil _) d hd8)).1), es, s, hq1.owE ho13 (by decide), hq1.owE ho14 (by decide), hdj3, hq1.blk hbk6 (by decide), hq1.blk hbk7 (by decide), hq1.blk hbk8 (by decide), hq1.blk hbk9 (by decide), hq1.ext hx0_9 hx0_8.size, hes, hsu⟩
    · rintro k ha ⟨hr9, hd9, es, s, ho15, ho16, hdj4, hbk10, hbk11, hbk12, hbk13, hx0_10, hes, hsu⟩
      exact ⟨hbk10, ho16.rd⟩
    · rintro k ha1 hk1 ⟨hr1, hd1, es, s, ho17, ho18, hdj5, hbk14, hbk15, hbk16, hbk17, hx0_11, hes, hsu⟩
      have hxl9 := hli.len
      obtain ⟨b, hgb, hbn⟩ := hli.rng k (by omega)
      dsimp only
      rw [hgb]
      refine yield_ok hLo1 hr1 rfl (by decide) ?_
      refine wi_forget [(1, .pointer (some ⟨bn1, 0, none⟩)), (5, .pointer (some ⟨bn2, 0, none⟩)), (6, .pointer (some ⟨bn3, 0, none⟩)), (19, .int .i64 ((b : Nat) : Int))] ⟨rfl, rfl, rfl, rfl, trivial⟩ fun g1 => ?_
      refine wi_reg rfl <| lx_assign (.int .i64 ((b : Nat) : Int)) rfl rfl <| lx_nil <| ?_
      refine wi_begin hr1 hLo1.st (fun h10 hc3 hbu1 => ?_)
      have hcel1 := cel_loop hc3 hr1
      have hx0_12 := hx0_11.trans (hc3.ext hbl1)
      have ho19 := hcel1.owE ho17
      have ho20 := hcel1.owE ho18
      have hb16 := hcel1.blk hbk15
      have hb17 := hcel1.blk hbk16
      have hb18 := hcel1.blk hbk17
      have hb19 := hcel1.blk hbk14
      have hch1 := (Tk.of_loop hc3 hr1 : Tk 26 _ _)
      have hd2 := hd1.chgL hr1 hc3
      refine wi_block <| wi_seq <| wi_reg rfl <| ?_
      have hnb3 : bl ≠ bn3 := by have := hbk5.lt; omega
      have hel : es.length = p.length := by rw [hes]; exact erow_len _ _ _ _
      have hka : k < p.length := by omega
      have hsb := esum_bound (f := pb p) (xs := xs) (k := k) hp12
      rw [← hsu] at hsb
      refine lx_ldB (v1) rfl rfl fl58 hb17 rfl rfl <| lx_move (.int .i64 ((b : Nat) : Int)) rfl rfl <| lx_ix (i := b) rfl eT58 ho19.rd rfl rfl (by omega) <| lx_st (i := b) ((1 : Int)) rfl rfl Try.sizeOf2 ho19 (by omega) rfl rfl (fun _ _ _ _ _ => trivial) fun h11 ho21 hc4 hsz4 => ?_
      have hch2 := hch1.trans ((Tk.of_chg hc4 ho19 (by decide) : Tk 26 _ _))
      have hsz_hch2 := hch2.1
      have hch3 := Nc.of_chg hc4 ho19
      have hsz_hch3 := hch3.1
      have hx0_13 := hx0_12.trans (ho19.ext hc4 hx0_12.size)
      have ho22 := ho20.chg hc4 (Dj.symm hdj5)
      have hb20 := hb16.chg hc4 (nb_new hb1 ho1)
      have hb21 := hb17.chg hc4 hdj1
      have hb22 := hb18.chg hc4 hdj2
      have hb23 := hb19.chg hc4 (nb_ty ho19 hb19 (by decide))
      refine lx_nil <| wi_seq <| wi_seq <| wi_reg rfl <| lx_ldB (vp) rfl rfl fl29 hb20 rfl rfl <| lx_len rfl Try.underlying29 hr_vp rfl <| lx_move (.int .i64 0) rfl rfl <| lx_nil <| wi_block <| ?_
      refine wi_loop (σ := Nat × (List Int)) (rngB 25 43 [8]) (fun (ss : Nat × (List Int)) => [(25, .int .i64 ((ss.1 : Nat) : Int))]) (fun (ss : Nat × (List Int)) (hh : Heap) => OwE encI hh h.size 2 v1 ss.2 ∧ OwE encI hh h.size 3 vl xs ∧ Dj v1 vl ∧ Blk hh bl #[vl] 25 ∧ Blk hh bn1 #[vp] 29 ∧ Blk hh bn2 #[v1] 58 ∧ Blk hh bn3 #[.int .i64 s] 2 ∧ Tk 26 ha1 hh ∧ Nc h10 hh ∧ Ext h.size h hh ∧ (ss.1 ≤ p.length) ∧ (ss.2 = es.set b (epart (pb p) es b ss.1))) (fun (ss : Nat × (List Int)) => p.length - ss.1) (0, es.set b 1) ⟨rfl, trivial⟩ ⟨?_, ?_, hdj5, ?_, ?_, ?_, ?_, hch2, hch3, hx0_13, ?_, ?_⟩ ?_
      · first | exact ho21 | (simpa using ho21)
      · first | exact ho22 | (simpa using ho22)
      · exact hb23
      · exact hb20
      · exact hb21
      · exact hb22
      · try dsimp only
        omega
      · try dsimp only
        rw [epart_zero]
      rintro g2 ⟨x, es2⟩ hh1 ⟨ho23, ho24, hdj6, hbk18, hbk19, hbk20, hbk21, hch4, hch5, hx0_14, hx, hes2⟩ IH1
      dsimp only at *
      have hel2 : es2.length = p.length := by rw [hes2, List.length_set]; exact hel
      have hsz_hch4 := hch4.1
      have hsz_hch5 := hch5.1
      refine wi_seq <| wi_reg rfl <| lx_lssS rfl rfl rfl (fun c2 => ?_) (fun c2 => ?_)
      · refine lx_nil <| wi_seq <| wi_true rfl <| wi_skip <| wi_seq <| wi_block <| wi_seq <| wi_reg rfl <| lx_move (.int .i64 ((x : Nat) : Int)) rfl rfl <| lx_assign (.int .i64 ((x : Nat) : Int)) rfl rfl <| lx_nil <| wi_seq <| wi_reg rfl <| lx_ldB (vp) rfl rfl fl29 hbk19 rfl rfl <| lx_move (.int .i64 ((x : Nat) : Int)) rfl rfl <| lx_move (.int .i64 ((b : Nat) : Int)) rfl rfl <| lx_call [vp, .int .i64 ((x : Nat) : Int), .int .i64 ((b : Nat) : Int)] rfl rfl Try.call106 rfl (below_spec hh1 vp hs p x b (hr_vp.extS hx0_14) (ht_vp.extS hx0_14) (by omega) (by first | with_reducible assumption | omega) (by omega) (by omega)) (fun _ _ _ => trivial) ?_
        rintro _ h12 ⟨rfl, rfl⟩
        refine lx_nil <| wi_condS (t := decide (x ≠ b) && pb p x b) rfl (fun c3 => ?_) (fun c3 => ?_)
        · refine wi_draw mo rfl (by decide +kernel) <| ?_
          have hbl : blw (pb p) x b = true := by assumption
          obtain ⟨hxb, _⟩ := blw_iff.1 hbl
          have g1 : gt es2 b = epart (pb p) es b x := by rw [hes2, gt_set (by omega), if_pos rfl]
          have g2 : gt es2 x = gt es x := by rw [hes2, gt_set (by omega), if_neg hxb]
          have hq1 := epart_bound (f := pb p) (xs := xs) (k := k) (b := b) (j := x) hp12 (by omega)
          have hq2 := erow_bound (f := pb p) (xs := xs) (k := k) hp12 (show x < p.length by omega)
          rw [← hes, ← g1] at hq1
          rw [← hes, ← g2] at hq2
          refine lx_ldB (v1) rfl rfl fl58 hbk20 rfl rfl <| lx_move (.int .i64 ((b : Nat) : Int)) rfl rfl <| lx_ix (i := b) rfl eT58 ho23.rd rfl rfl (by omega) <| lx_ld (i := b) (j := 0) (.int .i64 (gt es2 b)) rfl rfl fl2 ho23.rd (by omega) rfl rfl <| lx_ldB (v1) rfl rfl fl58 hbk20 rfl rfl <| lx_move (.int .i64 ((x : Nat) : Int)) rfl rfl <| lx_ix (i := x) rfl eT58 ho23.rd rfl rfl (by omega) <| lx_ld (i := x) (j := 0) (.int .i64 (gt es2 x)) rfl rfl fl2 ho23.rd (by omega) rfl rfl <| lx_sub ((gt es2 b) - (gt es2 x)) rfl rfl rfl (by omega) (by omega) (by omega) <| lx_ix (i := b) rfl eT58 ho23.rd rfl rfl (by omega) <| lx_st (i := b) ((gt es2 b) - (gt es2 x)) rfl rfl Try.sizeOf2 ho23 (by omega) rfl rfl (fun _ _ _ _ _ => trivial) fun h13 ho25 hc5 hsz5 => ?_
          have hch6 := hch4.trans ((Tk.of_chg hc5 ho23 (by decide) : Tk 26 _ _))
          have hsz_hch6 := hch6.1
          have hch7 := hch5.trans (Nc.of_chg hc5 ho23)
          have hsz_hch7 := hch7.1
          have hx0_15 := hx0_14.trans (ho23.ext hc5 hx0_14.size)
          have ho26 := ho24.chg hc5 (Dj.symm hdj6)
          have hb24 := hbk19.chg hc5 (nb_new hb1 ho1)
          have hb25 := hbk20.chg hc5 hdj1
          have hb26 := hbk21.chg hc5 hdj2
          have hb27 := hbk18.chg hc5 (nb_ty ho23 hbk18 (by decide))
          refine lx_nil <| wi_inBlock <| wi_reg rfl <| lx_add (((x + 1 : Nat) : Int)) rfl rfl rfl (by omega) (by omega) (by omega) <| lx_move (.int .i64 ((x + 1 : Nat) : Int)) rfl rfl <| lx_nil <| ?_
          -- L2.1
          refine IH1 _ _ (x + 1, es2.set b ((gt es2 b) - (gt es2 x))) (agree_ups rfl agree_self) ⟨rfl, trivial⟩ ⟨?_, ?_, hdj6, ?_, ?_, ?_, ?_, hch6, hch7, hx0_15, ?_, ?_⟩ ?_
          · first | exact ho25 | (simpa using ho25)
          · first | exact ho26 | (simpa using ho26)
          · exact hb27
          · exact hb24
          · exact hb25
          · exact hb26
          · try dsimp only
            omega
          · try dsimp only
            rw [g1, g2, ← epart_yes hbl, hes2, List.set_set]
          · first | omega | (dsimp only; omega)
        · refine wi_skip <| wi_inBlock <| wi_reg rfl <| lx_add (((x + 1 : Nat) : Int)) rfl rfl rfl (by omega) (by omega) (by omega) <| lx_move (.int .i64 ((x + 1 : Nat) : Int)) rfl rfl <| lx_nil <| ?_
          -- L2.2
          refine IH1 _ _ (x + 1, es2) (agree_ups rfl agree_self) ⟨rfl, trivial⟩ ⟨?_, ?_, hdj6, ?_, ?_, ?_, ?_, hch4, hch5, hx0_14, ?_, ?_⟩ ?_
          · first | exact ho23 | (simpa using ho23)
          · first | exact ho24 | (simpa using ho24)
          · exact hbk18
          · exact hbk19
          · exact hbk20
          · exact hbk21
          · try dsimp only
            omega
          · try dsimp only
            rw [hes2, epart_no (by assumption)]
          · first | omega | (dsimp only; omega)
      · refine lx_nil <| wi_seq <| wi_false rfl <| wi_exit rfl <| wi_draw mo rfl (by decide +kernel) <| ?_
        have hxp : x = p.length := by omega
        have hb9 : gt es2 b = euF p.length (pb p) b := by rw [hes2, gt_set (by omega), if_pos rfl, hes, hxp]; exact epart_all hio hli hka hgb hbn
        have hb8 := euF_bound (f := pb p) hp12 b
        rw [← hb9] at hb8
        refine lx_ldB (.int .i64 s) rfl rfl fl2 hbk21 rfl rfl <| lx_ldB (v1) rfl rfl fl58 hbk20 rfl rfl <| lx_move (.int .i64 ((b : Nat) : Int)) rfl rfl <| lx_ix (i := b) rfl eT58 ho23.rd rfl rfl (by omega) <| lx_ld (i := b) (j := 0) (.int .i64 (gt es2 b)) rfl rfl fl2 ho23.rd (by omega) rfl rfl <| lx_add (s + (gt es2 b)) rfl rfl rfl (by omega) (by omega) (by omega) <| lx_stB (.int .i64 (s + (gt es2 b))) rfl rfl Try.sizeOf2 hbk21 (by simp) rfl rfl rfl rfl (fun _ _ _ _ => trivial) fun h14 hbk22 hc6 => ?_
        have hch8 := hch4.trans ((Tk.of_chgB hc6 hbk21 (by decide) : Tk 26 _ _))
        have hsz_hch8 := hch8.1
        have hch9 := hch5.trans (Nc.of_chgB hc6 hbk21)
        have hsz_hch9 := hch9.1
        have hx0_16 := hx0_14.trans (hc6.ext hbb3)
        have ho27 := hc6.owE ho23 hdj2
        have ho28 := hc6.owE ho24 (nb_new hbk5 ho8)
        have hb28 := hc6.blk hbk19 (Ne.symm hne2)
        have hb29 := hc6.blk hbk20 (Ne.symm hne3)
        have hb30 := hc6.blk hbk18 (by omega)
        have hbk22 : Blk h14 bn3 #[.int .i64 (s + (gt es2 b))] 2 := hbk22
        refine lx_nil <| wi_inBlock <| ?_
        have hbu2 := (nc_loop hch9 hbu1)
        have hd3 := (hd2.nc hch9)
        -- Q0.1
        refine wi_end ⟨rfl, hbu2, fun h15 hc7 hlr2 => ?_⟩
        have hcel2 := cel_loop hc7 hbu2
        have hx0_17 := hx0_16.trans (hc7.ext hbl1)
        have ho29 := hcel2.owE ho27
        have ho30 := hcel2.owE ho28
        have hb31 := hcel2.blk hb28
        have hb32 := hcel2.blk hb29
        have hb33 := hcel2.blk hbk22
        have hb34 := hcel2.blk hb30
        refine ⟨hch8.trans (Tk.of_loop hc7 hbu2), hlr2, hd3.chgL hbu2 hc7, es2, s + (gt es2 b), ?_, ?_, hdj6, ?_, ?_, ?_, ?_, hx0_17, ?_, ?_⟩
        · first | exact ho29 | (simpa using ho29)
        · first | exact ho30 | (simpa using ho30)
        · exact hb34
        · exact hb31
        · exact hb32
        · exact hb33
        · try dsimp only
          rw [hes2, hes, hxp, epart_all hio hli hka hgb hbn, erow_set hgb hbn]
        · try dsimp only
          rw [hb9, hsu, esum_succ hli hka hgb hbn]
    · refine ⟨hlr1, DsOk.cons hDr1 (DsOk.nil _), List.replicate hs.length (0 : Int), (0 : Int), ?_, ?_, (dj_new ho6 ho8), ?_, ?_, ?_, ?_, hx0_8, ?_, ?_⟩
      · first | exact ho11 | (simpa using ho11)
      · first | exact ho12 | (simpa using ho12)
      · exact hb15
      · exact hb12
      · exact hb13
      · exact hb14
      · try dsimp only
        rw [hl_vp]; exact erow_zero _ _ _
      · try dsimp only
        exact (esum_zero _ _ _).symm
    rintro _ h16 ⟨_, hr2, hd4, es, s, ho31, ho32, hdj7, hbk23, hbk24, hbk25, hbk26, hx0_18, hes, hsu⟩
    refine ⟨hr2, fun h17 hc8 => ?_⟩
    have hcel3 := cel_loop hc8 hr2
    have hx0_19 := hx0_18.trans (hc8.ext hbl1)
    have ho33 := hcel3.owE ho31
    have ho34 := hcel3.owE ho32
    have hb35 := hcel3.blk hbk24
    have hb36 := hcel3.blk hbk25
    have hb37 := hcel3.blk hbk26
    have hb38 := hcel3.blk hbk23
    have hd5 := hd4.chgL hr2 hc8
    have hbDs1 : ∀ d ∈ D1 :: [], h.size ≤ d := fun d hd9 => by
      rw [List.mem_cons] at hd9
      rcases hd9 with rfl | hd9
      · exact hbD1
      · exact (fun d hd9 => by cases hd9) d hd9
    have hnd1 : (D1 :: []).Nodup := List.nodup_cons.2 ⟨fun hd9 => (by cases hd9), List.nodup_nil⟩
    have hlt1 : ∀ d ∈ D1 :: [], d < h17.size := fun d hd9 => (Array.getElem?_eq_some_iff.1 (hd5 d hd9)).1
    refine wi_inBlock <| wi_seq <| wi_reg rfl <| lx_ldB (.int .i64 s) rfl rfl fl2 hb37 rfl rfl <| lx_assign (.int .i64 s) rfl rfl <| lx_assign (.int .i64 0) rfl rfl <| lx_nil <| ?_
    -- R2
    have hd6 := hd5
    refine wi_retD (Ds := D1 :: []) hnd1 hd6 (fun h18 hcel4 hsz6 hbb4 => ?_)
    have hx0_20 := ext_marks2 hx0_19 hd6 hbDs1 hsz6 hbb4
    have ho35 := hcel4.owE ho33
    have ho36 := hcel4.owE ho34
    have hb39 := hcel4.blk hb35
    have hb40 := hcel4.blk hb36
    have hb41 := hcel4.blk hb37
    have hb42 := hcel4.blk hb38
    refine ⟨.tuple #[.int .i64 s, .int .i64 0], (res_two rfl rfl rfl), ⟨?_, hx0_20⟩⟩
    · rw [show eulC p = eulN p.length (pb p) from if_pos hck, show chkT p = 0 from hck, hsu, hli.len, esum_all hli]

end Go.Proofs.Ytdokijbdnajhgaa
