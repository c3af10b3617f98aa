/-
  Texts in one: PH, XSubs, PV, PI, PK, PL, PN, PS, PT, PU, PO, PP, OO, XOBits, XOLen, OL, OP, PW, PX.
-/
import Derived.Test.YtdokijbdnajhgaaMBir6
import Derived.Shelf.Small.Bits
import Derived.Test.YtdokijbdnajhgaaProg
set_option linter.unusedSimpArgs false
set_option linter.unusedVariables false
namespace Go.Proofs.Ytdokijbdnajhgaa
open Go Go.X

def UpL (n : Nat) (ls : List (Int × Int)) : Prop := ∀ d, d ∈ ls → ∃ a b : Nat, d = ((a : Int), (b : Int)) ∧ a < b ∧ b < n
theorem upL_nil (n : Nat) : UpL n [] := fun d hd => by cases hd
theorem UpL.snoc {n : Nat} {ls : List (Int × Int)} (h : UpL n ls) {x y : Int} (a b : Nat) (hx : x = a) (hy : y = b) (h1 : a < b) (h2 : b < n) : UpL n (ls ++ [(x, y)]) := fun d hd => by
  rcases List.mem_append.1 hd with hd | hd
  · exact h d hd
  · rw [List.mem_singleton] at hd
    exact ⟨a, b, by rw [hd, hx, hy], h1, h2⟩
def knB (size : Nat) (ls : List (Int × Int)) : Bool := decide (1 ≤ size ∧ size ≤ 12 ∧ ls.length ≤ 1000) && ls.all (Go.X.inR size) && ordB size (closW size ls)
theorem kn_up {size : Nat} {ls : List (Int × Int)} (h1 : 1 ≤ size) (h2 : size ≤ 12) (h3 : ls.length ≤ 1000) (h : UpL size ls) : knB size ls = true := by
  unfold knB
  rw [decide_eq_true ⟨h1, h2, h3⟩, ordB_iff.2 (up_order h), Bool.and_true, Bool.true_and, List.all_eq_true]
  intro d hd
  obtain ⟨a, b, rfl, h4, h5⟩ := h d hd
  exact Go.X.inR_iff.2 ⟨by show (0 : Int) ≤ (a : Int); omega, by show (0 : Int) ≤ (b : Int); omega, by show (a : Int) < _; omega, by show (b : Int) < _; omega⟩
theorem kn_of {size : Nat} {ls : List (Int × Int)} (h : knB size ls = true) : (1 ≤ size ∧ size ≤ 12 ∧ ls.length ≤ 1000) ∧ (∀ j, j < ls.length → Go.X.inR size (gt ls j) = true) ∧ ordB size (closW size ls) = true := by
  unfold knB at h
  rw [Bool.and_eq_true, Bool.and_eq_true, decide_eq_true_iff, List.all_eq_true] at h
  exact ⟨h.1.1, fun j hj => h.1.2 _ (gt_mem hj), h.2⟩
theorem or8 : ∀ x, x < 8 → ∀ b, b < 8 → x &&& b = 0 → 0 < b → x < x ||| b ∧ x ||| b < 8 := by decide
theorem kn2 : knB 5 [((0 : Int), (1 : Int)), ((1 : Int), (2 : Int)), ((2 : Int), (4 : Int)), ((0 : Int), (3 : Int)), ((3 : Int), (4 : Int))] = true := by decide +kernel
theorem kn3 : knB 5 [((0 : Int), (1 : Int)), ((0 : Int), (2 : Int)), ((0 : Int), (3 : Int)), ((1 : Int), (4 : Int)), ((2 : Int), (4 : Int)), ((3 : Int), (4 : Int))] = true := by decide +kernel
theorem kn4 : knB 6 [((0 : Int), (1 : Int)), ((0 : Int), (2 : Int)), ((1 : Int), (3 : Int)), ((1 : Int), (4 : Int)), ((2 : Int), (4 : Int)), ((3 : Int), (5 : Int)), ((4 : Int), (5 : Int))] = true := by decide +kernel
theorem kn5 : knB 7 [((6 : Int), (0 : Int)), ((6 : Int), (1 : Int)), ((6 : Int), (2 : Int)), ((0 : Int), (3 : Int)), ((1 : Int), (3 : Int)), ((1 : Int), (4 : Int)), ((2 : Int), (4 : Int)), ((3 : Int), (5 : Int)), ((4 : Int), (5 : Int))] = true := by decide +kernel

set_option maxRecDepth 10000 in
theorem known_spec (h : Heap) (most : Nat) (n : Nat) (hp1 : n < 18446744073709551616) (hp2 : 1 ≤ most) (hp3 : most ≤ 12) : Fx Try.prog 75 [.int .u64 ((n : Nat) : Int), .int .i64 ((most : Nat) : Int)] h (fun v h' => ∃ (s : Value) (hs : List Hdr) (p : List (List Bool)), v = s ∧ OwE encHd h' h.size 70 s hs ∧ OT encB h' h.size 4 hs p ∧ (p = [] ∨ (isT p = true ∧ 1 ≤ p.length ∧ p.length ≤ most)) ∧ Ext h.size h h') := by
  refine fx_intro (n := 146) [(0, .int .u64 ((n : Nat) : Int)), (1, .int .i64 ((most : Nat) : Int))] Try.func75 rfl rfl (by simp) ⟨rfl, rfl, trivial⟩ fun g0 => ?_
  refine wi_seq <| wi_reg rfl <| lx_assign (.slice none 0 0) rfl rfl <| lx_nil <| wi_seq <| wi_reg rfl <| lx_assign (.slice none 0 0) rfl rfl <| lx_nil <| wi_seq <| wi_reg rfl <| lx_assign (.int .i64 5) rfl rfl <| lx_nil <| wi_seq <| wi_seq <| wi_reg rfl <| lx_move (.int .u64 ((n : Nat) : Int)) rfl rfl <| lx_rem (m := n) (n := 7) rfl rfl rfl (by omega) <| lx_nil <| wi_block <| wi_seq <| wi_reg rfl <| lx_eql rfl rfl rfl <| lx_assign (.bool (decide (((n % 7 : Nat) : Int) = (0 : Int)))) rfl rfl <| lx_nil <| ?_
  refine wi_cutE (σ := Value × (List (Int × Int)) × Nat) (rngB 56 136 [5, 6, 7, 8, 9, 10, 11, 16, 17, 18, 19, 20, 21, 22, 23, 24, 25, 26, 27, 28, 29, 30, 31, 32, 33, 34, 35, 36, 37, 38, 39, 40, 41, 42, 43, 44, 45, 46, 47, 48, 49, 50, 51, 52, 53]) (fun (ss : Value × (List (Int × Int)) × Nat) => [(5, ss.1), (6, .int .i64 ((ss.2.2 : Nat) : Int))]) (fun (ss : Value × (List (Int × Int)) × Nat) (hh : Heap) => OwE encP hh h.size 85 ss.1 ss.2.1 ∧ Ext h.size h hh ∧ (knB ss.2.2 ss.2.1 = true)) (fun J1 => ?_) ?_
  · refine wi_condS (t := decide (((n % 7 : Nat) : Int) = (0 : Int))) rfl (fun c1 => ?_) (fun c1 => ?_)
    · refine wi_seq <| wi_reg rfl <| ?_
      have hmd := Nat.mod_lt (n / 7) (show 0 < most by omega)
      refine lx_move (.int .u64 ((n : Nat) : Int)) rfl rfl <| lx_quo (m := n) (n := 7) rfl rfl rfl (by omega) (wrap_quo_u64 (by omega)) <| lx_move (.int .i64 ((most : Nat) : Int)) rfl rfl <| lx_conv ((most : Nat) : Int) rfl Try.underlying3 Try.underlying45 rfl (wrap_u64 (by omega) (by omega)) <| lx_rem (m := n / 7) (n := most) rfl rfl rfl (by omega) <| lx_conv (((n / 7) % most : Nat) : Int) rfl Try.underlying45 Try.underlying3 rfl (wrap_i64 (by omega) (by omega)) <| lx_add (((1 + ((n / 7) % most) : Nat) : Int)) rfl rfl rfl (by omega) (by omega) (by omega) <| lx_assign (.int .i64 ((1 + ((n / 7) % most) : Nat) : Int)) rfl rfl <| lx_nil <| wi_seq <| wi_reg rfl <| lx_assign (.int .i64 1) rfl rfl <| lx_nil <| wi_block <| ?_
      refine wi_loop (σ := Nat × Value × (List (Int × Int))) (rngB 63 75 [5, 7]) (fun (ss : Nat × Value × (List (Int × Int))) => [(7, .int .i64 ((ss.1 : Nat) : Int)), (5, ss.2.1)]) (fun (ss : Nat × Value × (List (Int × Int))) (hh : Heap) => OwE encP hh h.size 85 ss.2.1 ss.2.2 ∧ Ext h.size h hh ∧ (UpL (1 + n / 7 % most) ss.2.2) ∧ (ss.2.2.length ≤ ss.1) ∧ (1 ≤ ss.1 ∧ ss.1 ≤ 1 + n / 7 % most)) (fun (ss : Nat × Value × (List (Int × Int))) => 1 + n / 7 % most - ss.1) (1, .slice none 0 0, []) ⟨rfl, rfl, trivial⟩ ⟨?_, (Ext.refl _ _), ?_, ?_, ?_⟩ ?_
      · first | exact (owE_nil encP _ h.size 85) | (simpa using (owE_nil encP _ h.size 85))
      · try dsimp only
        exact upL_nil _
      · try dsimp only
        exact Nat.zero_le _
      · try dsimp only
        omega
      rintro g1 ⟨i, v, ls⟩ hh1 ⟨ho1, hx0_1, hu, hll, hi⟩ IH1
      dsimp only at *
      refine wi_seq <| wi_seq <| wi_reg rfl <| lx_move (.int .i64 ((i : Nat) : Int)) rfl rfl <| lx_move (.int .i64 ((1 + ((n / 7) % most) : Nat) : Int)) rfl rfl <| lx_lssS rfl rfl rfl (fun c2 => ?_) (fun c2 => ?_)
      · refine lx_nil <| wi_true rfl <| wi_skip <| wi_seq <| wi_block <| wi_reg rfl <| lx_move (v) rfl rfl <| lx_move (.int .i64 ((i : Nat) : Int)) rfl rfl <| lx_sub ((((i : Nat) : Int)) - ((1 : Int))) rfl rfl rfl (by omega) (by omega) (by omega) <| lx_move (.int .i64 ((i : Nat) : Int)) rfl rfl <| lx_build (.agg #[.int .i64 ((((i : Nat) : Int)) - ((1 : Int))), .int .i64 ((i : Nat) : Int)]) [(0, .int .i64 ((((i : Nat) : Int)) - ((1 : Int)))), (1, .int .i64 ((i : Nat) : Int))] rfl rfl (fun w => bld85_2 _ _ w) <| lx_appendL (E := encP) (B := h.size) [((((i : Nat) : Int)) - ((1 : Int)), ((i : Nat) : Int))] [.agg #[.int .i64 ((((i : Nat) : Int)) - ((1 : Int))), .int .i64 ((i : Nat) : Int)]] rfl rfl (fun _ => rfl) rfl eT22 rfl rfl rfl rfl ho1 (fun _ => rfl) (by show ls.length + 1 ≤ _; omega) (by show (ls.length + 1) * 16 ≤ _; omega) hx0_1.size (fun _ _ => trivial) fun u1 v1 h1 ho2 hc1 hg1 => ?_
        have hx0_2 := hx0_1.trans (ho1.ext hc1 hx0_1.size)
        refine lx_assign (v1) rfl rfl <| lx_nil <| wi_inBlock <| wi_reg rfl <| lx_move (.int .i64 ((i : Nat) : Int)) rfl rfl <| lx_add (((i + 1 : Nat) : Int)) rfl rfl rfl (by omega) (by omega) (by omega) <| lx_assign (.int .i64 ((i + 1 : Nat) : Int)) rfl rfl <| lx_nil <| ?_
        -- L5.1
        refine IH1 _ _ (i + 1, v1, ls ++ [((((i : Nat) : Int)) - ((1 : Int)), ((i : Nat) : Int))]) (agree_ups rfl agree_self) ⟨rfl, rfl, trivial⟩ ⟨?_, hx0_2, ?_, ?_, ?_⟩ ?_
        · first | exact ho2 | (simpa using ho2)
        · try dsimp only
          exact hu.snoc (i - 1) i (by omega) rfl (by omega) (by omega)
        · try dsimp only
          first | omega | (simp only [List.length_append, List.length_cons, List.length_nil]; omega)
        · try dsimp only
          omega
        · first | omega | (dsimp only; omega)
      · refine lx_nil <| wi_false rfl <| wi_exit rfl <| ?_
        -- Jt54.1
        refine J1 _ _ (v, ls, 1 + ((n / 7) % most)) (agree_ups rfl (agree_mix (rngB_sub (by decide) (by decide) rfl) (agree_ups rfl agree_upsJ))) ⟨rfl, rfl, trivial⟩ ⟨?_, hx0_1, ?_⟩
        · first | exact ho1 | (simpa using ho1)
        · try dsimp only
          exact kn_up (by omega) (by omega) (by omega) hu
    · refine wi_seq <| wi_reg rfl <| lx_eqlS rfl rfl rfl (fun c3 => ?_) (fun c3 => ?_)
      · refine lx_assign (.bool true) rfl rfl <| lx_nil <| wi_true rfl <| wi_seq <| wi_reg rfl <| lx_assign (.int .i64 8) rfl rfl <| lx_nil <| wi_seq <| wi_reg rfl <| lx_assign (.int .i64 0) rfl rfl <| lx_nil <| wi_block <| ?_
        refine wi_loop (σ := Nat × Value × (List (Int × Int))) (rngB 77 97 [5, 8, 9]) (fun (ss : Nat × Value × (List (Int × Int))) => [(8, .int .i64 ((ss.1 : Nat) : Int)), (5, ss.2.1)]) (fun (ss : Nat × Value × (List (Int × Int))) (hh : Heap) => OwE encP hh h.size 85 ss.2.1 ss.2.2 ∧ Ext h.size h hh ∧ (UpL 8 ss.2.2) ∧ (ss.2.2.length ≤ 16 * ss.1) ∧ (ss.1 ≤ 8)) (fun (ss : Nat × Value × (List (Int × Int))) => 8 - ss.1) (0, .slice none 0 0, []) ⟨rfl, rfl, trivial⟩ ⟨?_, (Ext.refl _ _), ?_, ?_, ?_⟩ ?_
        · first | exact (owE_nil encP _ h.size 85) | (simpa using (owE_nil encP _ h.size 85))
        · try dsimp only
          exact upL_nil _
        · try dsimp only
          exact Nat.zero_le _
        · try dsimp only
          omega
        rintro g2 ⟨x, v, ls⟩ hh2 ⟨ho3, hx0_3, hu, hll, hx⟩ IH2
        dsimp only at *
        refine wi_seq <| wi_seq <| wi_reg rfl <| lx_move (.int .i64 ((x : Nat) : Int)) rfl rfl <| lx_lssS rfl rfl rfl (fun c4 => ?_) (fun c4 => ?_)
        · refine lx_nil <| wi_true rfl <| wi_skip <| wi_seq <| wi_block <| wi_seq <| wi_reg rfl <| lx_assign (.int .i64 1) rfl rfl <| lx_nil <| wi_block <| ?_
          refine wi_loop (σ := Nat × Value × (List (Int × Int))) (rngB 81 97 [5, 9]) (fun (ss : Nat × Value × (List (Int × Int))) => [(9, .int .i64 ((ss.1 : Nat) : Int)), (5, ss.2.1)]) (fun (ss : Nat × Value × (List (Int × Int))) (hh : Heap) => OwE encP hh h.size 85 ss.2.1 ss.2.2 ∧ Ext h.size h hh ∧ (UpL 8 ss.2.2) ∧ (ss.2.2.length ≤ 16 * x + ss.1) ∧ (1 ≤ ss.1 ∧ ss.1 ≤ 15)) (fun (ss : Nat × Value × (List (Int × Int))) => 16 - ss.1) (1, v, ls) ⟨rfl, rfl, trivial⟩ ⟨?_, hx0_3, ?_, ?_, ?_⟩ ?_
          · first | exact ho3 | (simpa using ho3)
          · try dsimp only
            exact hu
          · try dsimp only
            first | omega | (simp only [List.length_append, List.length_cons, List.length_nil]; omega)
          · try dsimp only
            omega
          rintro g3 ⟨b, v, ls⟩ hh3 ⟨ho4, hx0_4, hu, hll, hb⟩ IH3
          dsimp only at *
          refine wi_seq <| wi_seq <| wi_reg rfl <| lx_move (.int .i64 ((b : Nat) : Int)) rfl rfl <| lx_lssS rfl rfl rfl (fun c5 => ?_) (fun c5 => ?_)
          · refine lx_nil <| wi_true rfl <| wi_skip <| wi_seq <| wi_block <| wi_seq <| wi_reg rfl <| ?_
            have hxb : x &&& b ≤ x := Nat.and_le_left
            refine lx_move (.int .i64 ((x : Nat) : Int)) rfl rfl <| lx_move (.int .i64 ((b : Nat) : Int)) rfl rfl <| lx_and (m := x) (n := b) rfl rfl rfl (by show _ < 2 ^ 64; omega) (by show _ < 2 ^ 64; omega) (wrap_i64 (by omega) (by omega)) <| lx_eqlS rfl rfl rfl (fun c6 => ?_) (fun c6 => ?_)
            · refine lx_nil <| wi_true rfl <| wi_reg rfl <| ?_
              obtain ⟨ho1, ho2⟩ := or8 x (by omega) b (by omega) (by omega) (by omega)
              refine lx_move (v) rfl rfl <| lx_move (.int .i64 ((x : Nat) : Int)) rfl rfl <| lx_move (.int .i64 ((x : Nat) : Int)) rfl rfl <| lx_move (.int .i64 ((b : Nat) : Int)) rfl rfl <| lx_or (m := x) (n := b) rfl rfl rfl (by show _ < 2 ^ 64; omega) (by show _ < 2 ^ 64; omega) (wrap_i64 (by omega) (by omega)) <| lx_build (.agg #[.int .i64 ((x : Nat) : Int), .int .i64 ((x ||| b : Nat) : Int)]) [(0, .int .i64 ((x : Nat) : Int)), (1, .int .i64 ((x ||| b : Nat) : Int))] rfl rfl (fun w => bld85_2 _ _ w) <| lx_appendL (E := encP) (B := h.size) [(((x : Nat) : Int), ((x ||| b : Nat) : Int))] [.agg #[.int .i64 ((x : Nat) : Int), .int .i64 ((x ||| b : Nat) : Int)]] rfl rfl (fun _ => rfl) rfl eT22 rfl rfl rfl rfl ho4 (fun _ => rfl) (by show ls.length + 1 ≤ _; omega) (by show (ls.length + 1) * 16 ≤ _; omega) hx0_4.size (fun _ _ => trivial) fun u2 v2 h2 ho5 hc2 hg2 => ?_
              have hx0_5 := hx0_4.trans (ho4.ext hc2 hx0_4.size)
              refine lx_assign (v2) rfl rfl <| lx_nil <| wi_inBlock <| wi_reg rfl <| lx_move (.int .i64 ((b : Nat) : Int)) rfl rfl <| lx_mul (((2 * b : Nat) : Int)) rfl rfl rfl (by omega) (by omega) (by omega) <| lx_assign (.int .i64 ((2 * b : Nat) : Int)) rfl rfl <| lx_nil <| ?_
              -- L9.1
              refine IH3 _ _ (2 * b, v2, ls ++ [(((x : Nat) : Int), ((x ||| b : Nat) : Int))]) (agree_ups rfl agree_self) ⟨rfl, rfl, trivial⟩ ⟨?_, hx0_5, ?_, ?_, ?_⟩ ?_
              · first | exact ho5 | (simpa using ho5)
              · try dsimp only
                exact hu.snoc x (x ||| b) rfl rfl ho1 ho2
              · try dsimp only
                first | omega | (simp only [List.length_append, List.length_cons, List.length_nil]; omega)
              · try dsimp only
                omega
              · first | omega | (dsimp only; omega)
            · refine lx_nil <| wi_false rfl <| wi_skip <| wi_inBlock <| wi_reg rfl <| lx_move (.int .i64 ((b : Nat) : Int)) rfl rfl <| lx_mul (((2 * b : Nat) : Int)) rfl rfl rfl (by omega) (by omega) (by omega) <| lx_assign (.int .i64 ((2 * b : Nat) : Int)) rfl rfl <| lx_nil <| ?_
              -- L9.2
              refine IH3 _ _ (2 * b, v, ls) (agree_ups rfl agree_self) ⟨rfl, rfl, trivial⟩ ⟨?_, hx0_4, ?_, ?_, ?_⟩ ?_
              · first | exact ho4 | (simpa using ho4)
              · try dsimp only
                exact hu
              · try dsimp only
                first | omega | (simp only [List.length_append, List.length_cons, List.length_nil]; omega)
              · try dsimp only
                omega
              · first | omega | (dsimp only; omega)
          · refine lx_nil <| wi_false rfl <| wi_exit rfl <| wi_inBlock <| wi_reg rfl <| lx_move (.int .i64 ((x : Nat) : Int)) rfl rfl <| lx_add (((x + 1 : Nat) : Int)) rfl rfl rfl (by omega) (by omega) (by omega) <| lx_assign (.int .i64 ((x + 1 : Nat) : Int)) rfl rfl <| lx_nil <| ?_
            -- L7.1
            refine IH2 _ _ (x + 1, v, ls) (agree_ups rfl (agree_mix (rngB_sub (by decide) (by decide) rfl) (agree_ups rfl agree_self))) ⟨rfl, rfl, trivial⟩ ⟨?_, hx0_4, ?_, ?_, ?_⟩ ?_
            · first | exact ho4 | (simpa using ho4)
            · try dsimp only
              exact hu
            · try dsimp only
              omega
            · try dsimp only
              omega
            · first | omega | (dsimp only; omega)
        · refine lx_nil <| wi_false rfl <| wi_exit rfl <| ?_
          -- Jt54.2
          refine J1 _ _ (v, ls, 8) (agree_ups rfl (agree_mix (rngB_sub (by decide) (by decide) rfl) (agree_ups rfl agree_upsJ))) ⟨rfl, rfl, trivial⟩ ⟨?_, hx0_3, ?_⟩
          · first | exact ho3 | (simpa using ho3)
          · try dsimp only
            exact kn_up (by omega) (by omega) (by omega) hu
      · refine lx_assign (.bool false) rfl rfl <| lx_nil <| wi_false rfl <| wi_seq <| wi_reg rfl <| lx_eqlS rfl rfl rfl (fun c7 => ?_) (fun c7 => ?_)
        · refine lx_assign (.bool true) rfl rfl <| lx_nil <| wi_true rfl <| wi_reg rfl <| lx_build (.agg #[.int .i64 0, .int .i64 1]) [(0, .int .i64 0), (1, .int .i64 1)] rfl rfl (fun w => bld85_2 _ _ w) <| lx_build (.agg #[.int .i64 1, .int .i64 2]) [(0, .int .i64 1), (1, .int .i64 2)] rfl rfl (fun w => bld85_2 _ _ w) <| lx_build (.agg #[.int .i64 2, .int .i64 4]) [(0, .int .i64 2), (1, .int .i64 4)] rfl rfl (fun w => bld85_2 _ _ w) <| lx_build (.agg #[.int .i64 0, .int .i64 3]) [(0, .int .i64 0), (1, .int .i64 3)] rfl rfl (fun w => bld85_2 _ _ w) <| lx_build (.agg #[.int .i64 3, .int .i64 4]) [(0, .int .i64 3), (1, .int .i64 4)] rfl rfl (fun w => bld85_2 _ _ w) <| lx_buildSlice (E := encP) h.size [((0 : Int), (1 : Int)), ((1 : Int), (2 : Int)), ((2 : Int), (4 : Int)), ((0 : Int), (3 : Int)), ((3 : Int), (4 : Int))] [.agg #[.int .i64 0, .int .i64 1], .agg #[.int .i64 1, .int .i64 2], .agg #[.int .i64 2, .int .i64 4], .agg #[.int .i64 0, .int .i64 3], .agg #[.int .i64 3, .int .i64 4]] rfl rfl eT22 rfl rfl rfl rfl (Nat.le_refl _) (fun _ _ _ => trivial) fun v3 h3 ho6 hx1 hvb1 hsz1 => ?_
          have ho7 := ho6.base (Nat.le_refl h.size)
          refine lx_assign (v3) rfl rfl <| lx_nil <| ?_
          -- Jt54.3
          refine J1 _ _ (v3, [((0 : Int), (1 : Int)), ((1 : Int), (2 : Int)), ((2 : Int), (4 : Int)), ((0 : Int), (3 : Int)), ((3 : Int), (4 : Int))], 5) (agree_ups rfl agree_upsJ) ⟨rfl, rfl, trivial⟩ ⟨?_, hx1, ?_⟩
          · first | exact ho7 | (simpa using ho7)
          · try dsimp only
            exact kn2
        · refine lx_assign (.bool false) rfl rfl <| lx_nil <| wi_false rfl <| wi_seq <| wi_reg rfl <| lx_eqlS rfl rfl rfl (fun c8 => ?_) (fun c8 => ?_)
          · refine lx_assign (.bool true) rfl rfl <| lx_nil <| wi_true rfl <| wi_reg rfl <| lx_build (.agg #[.int .i64 0, .int .i64 1]) [(0, .int .i64 0), (1, .int .i64 1)] rfl rfl (fun w => bld85_2 _ _ w) <| lx_build (.agg #[.int .i64 0, .int .i64 2]) [(0, .int .i64 0), (1, .int .i64 2)] rfl rfl (fun w => bld85_2 _ _ w) <| lx_build (.agg #[.int .i64 0, .int .i64 3]) [(0, .int .i64 0), (1, .int .i64 3)] rfl rfl (fun w => bld85_2 _ _ w) <| lx_build (.agg #[.int .i64 1, .int .i64 4]) [(0, .int .i64 1), (1, .int .i64 4)] rfl rfl (fun w => bld85_2 _ _ w) <| lx_build (.agg #[.int .i64 2, .int .i64 4]) [(0, .int .i64 2), (1, .int .i64 4)] rfl rfl (fun w => bld85_2 _ _ w) <| lx_build (.agg #[.int .i64 3, .int .i64 4]) [(0, .int .i64 3), (1, .int .i64 4)] rfl rfl (fun w => bld85_2 _ _ w) <| lx_buildSlice (E := encP) h.size [((0 : Int), (1 : Int)), ((0 : Int), (2 : Int)), ((0 : Int), (3 : Int)), ((1 : Int), (4 : Int)), ((2 : Int), (4 : Int)), ((3 : Int), (4 : Int))] [.agg #[.int .i64 0, .int .i64 1], .agg #[.int .i64 0, .int .i64 2], .agg #[.int .i64 0, .int .i64 3], .agg #[.int .i64 1, .int .i64 4], .agg #[.int .i64 2, .int .i64 4], .agg #[.int .i64 3, .int .i64 4]] rfl rfl eT22 rfl rfl rfl rfl (Nat.le_refl _) (fun _ _ _ => trivial) fun v4 h4 ho8 hx2 hvb2 hsz2 => ?_
            have ho9 := ho8.base (Nat.le_refl h.size)
            refine lx_assign (v4) rfl rfl <| lx_nil <| ?_
            -- Jt54.4
            refine J1 _ _ (v4, [((0 : Int), (1 : Int)), ((0 : Int), (2 : Int)), ((0 : Int), (3 : Int)), ((1 : Int), (4 : Int)), ((2 : Int), (4 : Int)), ((3 : Int), (4 : Int))], 5) (agree_ups rfl agree_upsJ) ⟨rfl, rfl, trivial⟩ ⟨?_, hx2, ?_⟩
            · first | exact ho9 | (simpa using ho9)
            · try dsimp only
              exact kn3
          · refine lx_assign (.bool false) rfl rfl <| lx_nil <| wi_false rfl <| wi_seq <| wi_reg rfl <| lx_eqlS rfl rfl rfl (fun c9 => ?_) (fun c9 => ?_)
            · refine lx_assign (.bool true) rfl rfl <| lx_nil <| wi_true rfl <| wi_seq <| wi_reg rfl <| lx_assign (.int .i64 6) rfl rfl <| lx_nil <| wi_reg rfl <| lx_build (.agg #[.int .i64 0, .int .i64 1]) [(0, .int .i64 0), (1, .int .i64 1)] rfl rfl (fun w => bld85_2 _ _ w) <| lx_build (.agg #[.int .i64 0, .int .i64 2]) [(0, .int .i64 0), (1, .int .i64 2)] rfl rfl (fun w => bld85_2 _ _ w) <| lx_build (.agg #[.int .i64 1, .int .i64 3]) [(0, .int .i64 1), (1, .int .i64 3)] rfl rfl (fun w => bld85_2 _ _ w) <| lx_build (.agg #[.int .i64 1, .int .i64 4]) [(0, .int .i64 1), (1, .int .i64 4)] rfl rfl (fun w => bld85_2 _ _ w) <| lx_build (.agg #[.int .i64 2, .int .i64 4]) [(0, .int .i64 2), (1, .int .i64 4)] rfl rfl (fun w => bld85_2 _ _ w) <| lx_build (.agg #[.int .i64 3, .int .i64 5]) [(0, .int .i64 3), (1, .int .i64 5)] rfl rfl (fun w => bld85_2 _ _ w) <| lx_build (.agg #[.int .i64 4, .int .i64 5]) [(0, .int .i64 4), (1, .int .i64 5)] rfl rfl (fun w => bld85_2 _ _ w) <| lx_buildSlice (E := encP) h.size [((0 : Int), (1 : Int)), ((0 : Int), (2 : Int)), ((1 : Int), (3 : Int)), ((1 : Int), (4 : Int)), ((2 : Int), (4 : Int)), ((3 : Int), (5 : Int)), ((4 : Int), (5 : Int))] [.agg #[.int .i64 0, .int .i64 1], .agg #[.int .i64 0, .int .i64 2], .agg #[.int .i64 1, .int .i64 3], .agg #[.int .i64 1, .int .i64 4], .agg #[.int .i64 2, .int .i64 4], .agg #[.int .i64 3, .int .i64 5], .agg #[.int .i64 4, .int .i64 5]] rfl rfl eT22 rfl rfl rfl rfl (Nat.le_refl _) (fun _ _ _ => trivial) fun v5 h5 ho10 hx3 hvb3 hsz3 => ?_
              have ho11 := ho10.base (Nat.le_refl h.size)
              refine lx_assign (v5) rfl rfl <| lx_nil <| ?_
              -- Jt54.5
              refine J1 _ _ (v5, [((0 : Int), (1 : Int)), ((0 : Int), (2 : Int)), ((1 : Int), (3 : Int)), ((1 : Int), (4 : Int)), ((2 : Int), (4 : Int)), ((3 : Int), (5 : Int)), ((4 : Int), (5 : Int))], 6) (agree_ups rfl agree_upsJ) ⟨rfl, rfl, trivial⟩ ⟨?_, hx3, ?_⟩
              · first | exact ho11 | (simpa using ho11)
              · try dsimp only
                exact kn4
            · refine lx_assign (.bool false) rfl rfl <| lx_nil <| wi_false rfl <| wi_seq <| wi_reg rfl <| lx_eqlS rfl rfl rfl (fun c10 => ?_) (fun c10 => ?_)
              · refine lx_assign (.bool true) rfl rfl <| lx_nil <| wi_true rfl <| wi_seq <| wi_reg rfl <| lx_assign (.int .i64 7) rfl rfl <| lx_nil <| wi_reg rfl <| lx_build (.agg #[.int .i64 6, .int .i64 0]) [(0, .int .i64 6), (1, .int .i64 0)] rfl rfl (fun w => bld85_2 _ _ w) <| lx_build (.agg #[.int .i64 6, .int .i64 1]) [(0, .int .i64 6), (1, .int .i64 1)] rfl rfl (fun w => bld85_2 _ _ w) <| lx_build (.agg #[.int .i64 6, .int .i64 2]) [(0, .int .i64 6), (1, .int .i64 2)] rfl rfl (fun w => bld85_2 _ _ w) <| lx_build (.agg #[.int .i64 0, .int .i64 3]) [(0, .int .i64 0), (1, .int .i64 3)] rfl rfl (fun w => bld85_2 _ _ w) <| lx_build (.agg #[.int .i64 1, .int .i64 3]) [(0, .int .i64 1), (1, .int .i64 3)] rfl rfl (fun w => bld85_2 _ _ w) <| lx_build (.agg #[.int .i64 1, .int .i64 4]) [(0, .int .i64 1), (1, .int .i64 4)] rfl rfl (fun w => bld85_2 _ _ w) <| lx_build (.agg #[.int .i64 2, .int .i64 4]) [(0, .int .i64 2), (1, .int .i64 4)] rfl rfl (fun w => bld85_2 _ _ w) <| lx_build (.agg #[.int .i64 3, .int .i64 5]) [(0, .int .i64 3), (1, .int .i64 5)] rfl rfl (fun w => bld85_2 _ _ w) <| lx_build (.agg #[.int .i64 4, .int .i64 5]) [(0, .int .i64 4), (1, .int .i64 5)] rfl rfl (fun w => bld85_2 _ _ w) <| lx_buildSlice (E := encP) h.size [((6 : Int), (0 : Int)), ((6 : Int), (1 : Int)), ((6 : Int), (2 : Int)), ((0 : Int), (3 : Int)), ((1 : Int), (3 : Int)), ((1 : Int), (4 : Int)), ((2 : Int), (4 : Int)), ((3 : Int), (5 : Int)), ((4 : Int), (5 : Int))] [.agg #[.int .i64 6, .int .i64 0], .agg #[.int .i64 6, .int .i64 1], .agg #[.int .i64 6, .int .i64 2], .agg #[.int .i64 0, .int .i64 3], .agg #[.int .i64 1, .int .i64 3], .agg #[.int .i64 1, .int .i64 4], .agg #[.int .i64 2, .int .i64 4], .agg #[.int .i64 3, .int .i64 5], .agg #[.int .i64 4, .int .i64 5]] rfl rfl eT22 rfl rfl rfl rfl (Nat.le_refl _) (fun _ _ _ => trivial) fun v6 h6 ho12 hx4 hvb4 hsz4 => ?_
                have ho13 := ho12.base (Nat.le_refl h.size)
                refine lx_assign (v6) rfl rfl <| lx_nil <| ?_
                -- Jt54.6
                refine J1 _ _ (v6, [((6 : Int), (0 : Int)), ((6 : Int), (1 : Int)), ((6 : Int), (2 : Int)), ((0 : Int), (3 : Int)), ((1 : Int), (3 : Int)), ((1 : Int), (4 : Int)), ((2 : Int), (4 : Int)), ((3 : Int), (5 : Int)), ((4 : Int), (5 : Int))], 7) (agree_ups rfl agree_upsJ) ⟨rfl, rfl, trivial⟩ ⟨?_, hx4, ?_⟩
                · first | exact ho13 | (simpa using ho13)
                · try dsimp only
                  exact kn5
              · refine lx_assign (.bool false) rfl rfl <| lx_nil <| wi_false rfl <| wi_seq <| wi_reg rfl <| lx_assign (.int .i64 12) rfl rfl <| lx_nil <| wi_seq <| wi_reg rfl <| lx_assign (.int .i64 0) rfl rfl <| lx_nil <| wi_block <| ?_
                refine wi_loop (σ := Nat × Value × (List (Int × Int))) (rngB 56 56 [5, 10, 11, 16, 17, 18, 19, 20, 21, 22, 23, 24, 25, 26, 27, 28, 29, 30, 31, 32, 33, 34, 35, 36, 37, 38, 39, 40, 41, 42, 43, 44, 45, 46, 47, 48, 49, 50, 51, 52, 53]) (fun (ss : Nat × Value × (List (Int × Int))) => [(10, .int .i64 ((ss.1 : Nat) : Int)), (5, ss.2.1)]) (fun (ss : Nat × Value × (List (Int × Int))) (hh : Heap) => OwE encP hh h.size 85 ss.2.1 ss.2.2 ∧ Ext h.size h hh ∧ (UpL 12 ss.2.2) ∧ (ss.2.2.length ≤ 10 * ss.1) ∧ (ss.1 ≤ 4)) (fun (ss : Nat × Value × (List (Int × Int))) => 4 - ss.1) (0, .slice none 0 0, []) ⟨rfl, rfl, trivial⟩ ⟨?_, (Ext.refl _ _), ?_, ?_, ?_⟩ ?_
                · first | exact (owE_nil encP _ h.size 85) | (simpa using (owE_nil encP _ h.size 85))
                · try dsimp only
                  exact upL_nil _
                · try dsimp only
                  exact Nat.zero_le _
                · try dsimp only
                  omega
                rintro g4 ⟨x, v, ls⟩ hh4 ⟨ho14, hx0_6, hu, hll, hx⟩ IH4
                dsimp only at *
                refine wi_seq <| wi_seq <| wi_reg rfl <| lx_move (.int .i64 ((x : Nat) : Int)) rfl rfl <| lx_lssS rfl rfl rfl (fun c11 => ?_) (fun c11 => ?_)
                · refine lx_nil <| wi_true rfl <| wi_skip <| wi_seq <| wi_block <| wi_seq <| wi_reg rfl <| lx_assign (.int .i64 0) rfl rfl <| lx_nil <| wi_block <| ?_
                  refine wi_loop (σ := Nat × Value × (List (Int × Int))) (rngB 56 56 [5, 11, 20, 21, 22, 23, 24, 25, 26, 27, 28, 29, 30, 31, 32, 33, 34, 35, 36, 37, 38, 39, 40, 41, 42, 43, 44, 45, 46, 47, 48, 49, 50, 51, 52, 53]) (fun (ss : Nat × Value × (List (Int × Int))) => [(11, .int .i64 ((ss.1 : Nat) : Int)), (5, ss.2.1)]) (fun (ss : Nat × Value × (List (Int × Int))) (hh : Heap) => OwE encP hh h.size 85 ss.2.1 ss.2.2 ∧ Ext h.size h hh ∧ (UpL 12 ss.2.2) ∧ (ss.2.2.length ≤ 10 * x + 2 * ss.1) ∧ (ss.1 ≤ 3)) (fun (ss : Nat × Value × (List (Int × Int))) => 3 - ss.1) (0, v, ls) ⟨rfl, rfl, trivial⟩ ⟨?_, hx0_6, ?_, ?_, ?_⟩ ?_
                  · first | exact ho14 | (simpa using ho14)
                  · try dsimp only
                    exact hu
                  · try dsimp only
                    first | omega | (simp only [List.length_append, List.length_cons, List.length_nil]; omega)
                  · try dsimp only
                    omega
                  rintro g5 ⟨y, v, ls⟩ hh5 ⟨ho15, hx0_7, hu, hll, hy⟩ IH5
                  dsimp only at *
                  refine wi_seq <| wi_seq <| wi_reg rfl <| lx_move (.int .i64 ((y : Nat) : Int)) rfl rfl <| lx_lssS rfl rfl rfl (fun c12 => ?_) (fun c12 => ?_)
                  · refine lx_nil <| wi_true rfl <| wi_skip <| wi_seq <| wi_block <| wi_seq <| wi_seq <| wi_reg rfl <| lx_move (.int .i64 ((x : Nat) : Int)) rfl rfl <| lx_lssS rfl rfl rfl (fun c13 => ?_) (fun c13 => ?_)
                    · refine lx_nil <| wi_true rfl <| wi_reg rfl <| lx_move (v) rfl rfl <| lx_move (.int .i64 ((x : Nat) : Int)) rfl rfl <| lx_mul (((3 * x : Nat) : Int)) rfl rfl rfl (by omega) (by omega) (by omega) <| lx_move (.int .i64 ((y : Nat) : Int)) rfl rfl <| lx_add (((3 * x + y : Nat) : Int)) rfl rfl rfl (by omega) (by omega) (by omega) <| lx_move (.int .i64 ((x : Nat) : Int)) rfl rfl <| lx_mul (((3 * x : Nat) : Int)) rfl rfl rfl (by omega) (by omega) (by omega) <| lx_move (.int .i64 ((y : Nat) : Int)) rfl rfl <| lx_add (((3 * x + y : Nat) : Int)) rfl rfl rfl (by omega) (by omega) (by omega) <| lx_add (((3 * x + y + 3 : Nat) : Int)) rfl rfl rfl (by omega) (by omega) (by omega) <| lx_build (.agg #[.int .i64 ((3 * x + y : Nat) : Int), .int .i64 ((3 * x + y + 3 : Nat) : Int)]) [(0, .int .i64 ((3 * x + y : Nat) : Int)), (1, .int .i64 ((3 * x + y + 3 : Nat) : Int))] rfl rfl (fun w => bld85_2 _ _ w) <| lx_appendL (E := encP) (B := h.size) [(((3 * x + y : Nat) : Int), ((3 * x + y + 3 : Nat) : Int))] [.agg #[.int .i64 ((3 * x + y : Nat) : Int), .int .i64 ((3 * x + y + 3 : Nat) : Int)]] rfl rfl (fun _ => rfl) rfl eT22 rfl rfl rfl rfl ho15 (fun _ => rfl) (by show ls.length + 1 ≤ _; omega) (by show (ls.length + 1) * 16 ≤ _; omega) hx0_7.size (fun _ _ => trivial) fun u3 v7 h7 ho16 hc3 hg3 => ?_
                      have hx0_8 := hx0_7.trans (ho15.ext hc3 hx0_7.size)
                      refine lx_assign (v7) rfl rfl <| lx_nil <| wi_seq <| wi_reg rfl <| lx_move (.int .i64 ((y : Nat) : Int)) rfl rfl <| lx_lssS rfl rfl rfl (fun c14 => ?_) (fun c14 => ?_)
                      · refine lx_nil <| wi_true rfl <| wi_reg rfl <| lx_move (v7) rfl rfl <| lx_move (.int .i64 ((x : Nat) : Int)) rfl rfl <| lx_mul (((3 * x : Nat) : Int)) rfl rfl rfl (by omega) (by omega) (by omega) <| lx_move (.int .i64 ((y : Nat) : Int)) rfl rfl <| lx_add (((3 * x + y : Nat) : Int)) rfl rfl rfl (by omega) (by omega) (by omega) <| lx_move (.int .i64 ((x : Nat) : Int)) rfl rfl <| lx_mul (((3 * x : Nat) : Int)) rfl rfl rfl (by omega) (by omega) (by omega) <| lx_move (.int .i64 ((y : Nat) : Int)) rfl rfl <| lx_add (((3 * x + y : Nat) : Int)) rfl rfl rfl (by omega) (by omega) (by omega) <| lx_add (((3 * x + y + 1 : Nat) : Int)) rfl rfl rfl (by omega) (by omega) (by omega) <| lx_build (.agg #[.int .i64 ((3 * x + y : Nat) : Int), .int .i64 ((3 * x + y + 1 : Nat) : Int)]) [(0, .int .i64 ((3 * x + y : Nat) : Int)), (1, .int .i64 ((3 * x + y + 1 : Nat) : Int))] rfl rfl (fun w => bld85_2 _ _ w) <| lx_appendL (E := encP) (B := h.size) [(((3 * x + y : Nat) : Int), ((3 * x + y + 1 : Nat) : Int))] [.agg #[.int .i64 ((3 * x + y : Nat) : Int), .int .i64 ((3 * x + y + 1 : Nat) : Int)]] rfl rfl (fun _ => rfl) rfl eT22 rfl rfl rfl rfl ho16 (fun _ => rfl) (by show (ls ++ [(((3 * x + y : Nat) : Int), ((3 * x + y + 3 : Nat) : Int))]).length + 1 ≤ _; simp only [List.length_append, List.length_cons, List.length_nil]; omega) (by show ((ls ++ [(((3 * x + y : Nat) : Int), ((3 * x + y + 3 : Nat) : Int))]).length + 1) * 16 ≤ _; simp only [List.length_append, List.length_cons, List.length_nil]; omega) hx0_8.size (fun _ _ => trivial) fun u4 v8 h8 ho17 hc4 hg4 => ?_
                        have hx0_9 := hx0_8.trans (ho16.ext hc4 hx0_8.size)
                        refine lx_assign (v8) rfl rfl <| lx_nil <| wi_inBlock <| wi_reg rfl <| lx_move (.int .i64 ((y : Nat) : Int)) rfl rfl <| lx_add (((y + 1 : Nat) : Int)) rfl rfl rfl (by omega) (by omega) (by omega) <| lx_assign (.int .i64 ((y + 1 : Nat) : Int)) rfl rfl <| lx_nil <| ?_
                        -- L3.1
                        refine IH5 _ _ (y + 1, v8, (ls ++ [(((3 * x + y : Nat) : Int), ((3 * x + y + 3 : Nat) : Int))]) ++ [(((3 * x + y : Nat) : Int), ((3 * x + y + 1 : Nat) : Int))]) (agree_ups rfl agree_self) ⟨rfl, rfl, trivial⟩ ⟨?_, hx0_9, ?_, ?_, ?_⟩ ?_
                        · first | exact ho17 | (simpa using ho17)
                        · try dsimp only
                          first
                          | exact (hu.snoc (3 * x + y) (3 * x + y + 3) (by omega) (by omega) (by omega) (by omega)).snoc (3 * x + y) (3 * x + y + 1) (by omega) (by omega) (by omega) (by omega)
                          | exact hu.snoc (3 * x + y) (3 * x + y + 3) (by omega) (by omega) (by omega) (by omega)
                          | exact hu.snoc (3 * x + y) (3 * x + y + 1) (by omega) (by omega) (by omega) (by omega)
                          | exact hu
                        · try dsimp only
                          first | omega | (simp only [List.length_append, List.length_cons, List.length_nil]; omega)
                        · try dsimp only
                          omega
                        · first | omega | (dsimp only; omega)
                      · refine lx_nil <| wi_false rfl <| wi_skip <| wi_inBlock <| wi_reg rfl <| lx_move (.int .i64 ((y : Nat) : Int)) rfl rfl <| lx_add (((y + 1 : Nat) : Int)) rfl rfl rfl (by omega) (by omega) (by omega) <| lx_assign (.int .i64 ((y + 1 : Nat) : Int)) rfl rfl <| lx_nil <| ?_
                        -- L3.2
                        refine IH5 _ _ (y + 1, v7, ls ++ [(((3 * x + y : Nat) : Int), ((3 * x + y + 3 : Nat) : Int))]) (agree_ups rfl agree_self) ⟨rfl, rfl, trivial⟩ ⟨?_, hx0_8, ?_, ?_, ?_⟩ ?_
                        · first | exact ho16 | (simpa using ho16)
                        · try dsimp only
                          first
                          | exact (hu.snoc (3 * x + y) (3 * x + y + 3) (by omega) (by omega) (by omega) (by omega)).snoc (3 * x + y) (3 * x + y + 1) (by omega) (by omega) (by omega) (by omega)
                          | exact hu.snoc (3 * x + y) (3 * x + y + 3) (by omega) (by omega) (by omega) (by omega)
                          | exact hu.snoc (3 * x + y) (3 * x + y + 1) (by omega) (by omega) (by omega) (by omega)
                          | exact hu
                        · try dsimp only
                          first | omega | (simp only [List.length_append, List.length_cons, List.length_nil]; omega)
                        · try dsimp only
                          omega
                        · first | omega | (dsimp only; omega)
                    · refine lx_nil <| wi_false rfl <| wi_skip <| wi_seq <| wi_reg rfl <| lx_move (.int .i64 ((y : Nat) : Int)) rfl rfl <| lx_lssS rfl rfl rfl (fun c15 => ?_) (fun c15 => ?_)
                      · refine lx_nil <| wi_true rfl <| wi_reg rfl <| lx_move (v) rfl rfl <| lx_move (.int .i64 ((x : Nat) : Int)) rfl rfl <| lx_mul (((3 * x : Nat) : Int)) rfl rfl rfl (by omega) (by omega) (by omega) <| lx_move (.int .i64 ((y : Nat) : Int)) rfl rfl <| lx_add (((3 * x + y : Nat) : Int)) rfl rfl rfl (by omega) (by omega) (by omega) <| lx_move (.int .i64 ((x : Nat) : Int)) rfl rfl <| lx_mul (((3 * x : Nat) : Int)) rfl rfl rfl (by omega) (by omega) (by omega) <| lx_move (.int .i64 ((y : Nat) : Int)) rfl rfl <| lx_add (((3 * x + y : Nat) : Int)) rfl rfl rfl (by omega) (by omega) (by omega) <| lx_add (((3 * x + y + 1 : Nat) : Int)) rfl rfl rfl (by omega) (by omega) (by omega) <| lx_build (.agg #[.int .i64 ((3 * x + y : Nat) : Int), .int .i64 ((3 * x + y + 1 : Nat) : Int)]) [(0, .int .i64 ((3 * x + y : Nat) : Int)), (1, .int .i64 ((3 * x + y + 1 : Nat) : Int))] rfl rfl (fun w => bld85_2 _ _ w) <| lx_appendL (E := encP) (B := h.size) [(((3 * x + y : Nat) : Int), ((3 * x + y + 1 : Nat) : Int))] [.agg #[.int .i64 ((3 * x + y : Nat) : Int), .int .i64 ((3 * x + y + 1 : Nat) : Int)]] rfl rfl (fun _ => rfl) rfl eT22 rfl rfl rfl rfl ho15 (fun _ => rfl) (by show ls.length + 1 ≤ _; omega) (by show (ls.length + 1) * 16 ≤ _; omega) hx0_7.size (fun _ _ => trivial) fun u5 v9 h9 ho18 hc5 hg5 => ?_
                        have hx0_10 := hx0_7.trans (ho15.ext hc5 hx0_7.size)
                        refine lx_assign (v9) rfl rfl <| lx_nil <| wi_inBlock <| wi_reg rfl <| lx_move (.int .i64 ((y : Nat) : Int)) rfl rfl <| lx_add (((y + 1 : Nat) : Int)) rfl rfl rfl (by omega) (by omega) (by omega) <| lx_assign (.int .i64 ((y + 1 : Nat) : Int)) rfl rfl <| lx_nil <| ?_
                        -- L3.3
                        refine IH5 _ _ (y + 1, v9, ls ++ [(((3 * x + y : Nat) : Int), ((3 * x + y + 1 : Nat) : Int))]) (agree_ups rfl agree_self) ⟨rfl, rfl, trivial⟩ ⟨?_, hx0_10, ?_, ?_, ?_⟩ ?_
                        · first | exact ho18 | (simpa using ho18)
                        · try dsimp only
                          first
                          | exact (hu.snoc (3 * x + y) (3 * x + y + 3) (by omega) (by omega) (by omega) (by omega)).snoc (3 * x + y) (3 * x + y + 1) (by omega) (by omega) (by omega) (by omega)
                          | exact hu.snoc (3 * x + y) (3 * x + y + 3) (by omega) (by omega) (by omega) (by omega)
                          | exact hu.snoc (3 * x + y) (3 * x + y + 1) (by omega) (by omega) (by omega) (by omega)
                          | exact hu
                        · try dsimp only
                          first | omega | (simp only [List.length_append, List.length_cons, List.length_nil]; omega)
                        · try dsimp only
                          omega
                        · first | omega | (dsimp only; omega)
                      · refine lx_nil <| wi_false rfl <| wi_skip <| wi_inBlock <| wi_reg rfl <| lx_move (.int .i64 ((y : Nat) : Int)) rfl rfl <| lx_add (((y + 1 : Nat) : Int)) rfl rfl rfl (by omega) (by omega) (by omega) <| lx_assign (.int .i64 ((y + 1 : Nat) : Int)) rfl rfl <| lx_nil <| ?_
                        -- L3.4
                        refine IH5 _ _ (y + 1, v, ls) (agree_ups rfl agree_self) ⟨rfl, rfl, trivial⟩ ⟨?_, hx0_7, ?_, ?_, ?_⟩ ?_
                        · first | exact ho15 | (simpa using ho15)
                        · try dsimp only
                          first
                          | exact (hu.snoc (3 * x + y) (3 * x + y + 3) (by omega) (by omega) (by omega) (by omega)).snoc (3 * x + y) (3 * x + y + 1) (by omega) (by omega) (by omega) (by omega)
                          | exact hu.snoc (3 * x + y) (3 * x + y + 3) (by omega) (by omega) (by omega) (by omega)
                          | exact hu.snoc (3 * x + y) (3 * x + y + 1) (by omega) (by omega) (by omega) (by omega)
                          | exact hu
                        · try dsimp only
                          first | omega | (simp only [List.length_append, List.length_cons, List.length_nil]; omega)
                        · try dsimp only
                          omega
                        · first | omega | (dsimp only; omega)
                  · refine lx_nil <| wi_false rfl <| wi_exit rfl <| wi_inBlock <| wi_reg rfl <| lx_move (.int .i64 ((x : Nat) : Int)) rfl rfl <| lx_add (((x + 1 : Nat) : Int)) rfl rfl rfl (by omega) (by omega) (by omega) <| lx_assign (.int .i64 ((x + 1 : Nat) : Int)) rfl rfl <| lx_nil <| ?_
                    -- L1.1
                    refine IH4 _ _ (x + 1, v, ls) (agree_ups rfl (agree_mix (rngB_sub (by decide) (by decide) rfl) (agree_ups rfl agree_self))) ⟨rfl, rfl, trivial⟩ ⟨?_, hx0_7, ?_, ?_, ?_⟩ ?_
                    · first | exact ho15 | (simpa using ho15)
                    · try dsimp only
                      exact hu
                    · try dsimp only
                      omega
                    · try dsimp only
                      omega
                    · first | omega | (dsimp only; omega)
                · refine lx_nil <| wi_false rfl <| wi_exit rfl <| ?_
                  -- Jt54.7
                  refine J1 _ _ (v, ls, 12) (agree_ups rfl (agree_mix (rngB_sub (by decide) (by decide) rfl) (agree_ups rfl agree_upsJ))) ⟨rfl, rfl, trivial⟩ ⟨?_, hx0_6, ?_⟩
                  · first | exact ho14 | (simpa using ho14)
                  · try dsimp only
                    exact kn_up (by omega) (by omega) (by omega) hu
  rintro g6 ⟨vo, ls, size⟩ hh6 ⟨ho19, hx0_11, hk⟩
  dsimp only at *
  refine wi_inBlock <| wi_seq <| wi_seq <| wi_reg rfl <| ?_
  have hkn := kn_of hk
  obtain ⟨hk1, hk2, hk3⟩ := hkn.1
  refine lx_move (.int .i64 ((size : Nat) : Int)) rfl rfl <| lx_move (.int .i64 ((most : Nat) : Int)) rfl rfl <| lx_gtrS rfl rfl rfl (fun c16 => ?_) (fun c16 => ?_)
  · refine lx_nil <| wi_true rfl <| wi_seq <| wi_reg rfl <| lx_assign (.slice none 0 0) rfl rfl <| lx_nil <| ?_
    -- R1
    refine wi_ret ⟨.slice none 0 0, (res_one rfl rfl), ⟨.slice none 0 0, [], [], rfl, (owE_nil encHd _ h.size 70), (OT.nil encB _ h.size 4), ?_, hx0_11⟩⟩
    · exact .inl rfl
  · refine lx_nil <| wi_false rfl <| wi_skip <| wi_seq <| wi_reg rfl <| lx_move (.int .i64 ((size : Nat) : Int)) rfl rfl <| lx_move (vo) rfl rfl <| lx_call [.int .i64 ((size : Nat) : Int), vo] rfl rfl Try.call64 rfl (rclosure_spec hh6 size vo ls ho19.rd (by omega) (by omega) hkn.2.1) (fun _ _ _ => trivial) ?_
    rintro _ h10 ⟨vr, hsr, rfl, ho20, hot1, hx5⟩
    have hx0_12 := hx0_11.trans2 hx5 hx0_11.size
    have ho21 := ho19.extS hx5
    have ho22 := ho20.base hx0_11.size
    have hot2 := hot1.base hx0_11.size
    have hl_hot2 := hot2.1
    refine lx_move (.tuple #[vr, .bool (ordB size (closW size ls))]) rfl rfl <| lx_extract (vr) rfl rfl rfl <| lx_extract (.bool (ordB size (closW size ls))) rfl rfl rfl <| lx_assign (vr) rfl rfl <| lx_assign (.bool (ordB size (closW size ls))) rfl rfl <| lx_nil <| wi_seq <| wi_reg rfl <| lx_move (vr) rfl rfl <| lx_assign (vr) rfl rfl <| lx_nil <| ?_
    -- R2
    refine wi_ret ⟨vr, (res_one rfl rfl), ⟨vr, hsr, tabF size (closW size ls), rfl, ho22, hot2, ?_, hx0_12⟩⟩
    · exact .inr ⟨isT_tabF (ordB_iff.1 hkn.2.2), by rw [tabF_length]; omega, by rw [tabF_length]; omega⟩

set_option maxRecDepth 10000 in
theorem tame_spec (h : Heap) (n : Int) (vl : Value) (ls : List (Int × Int)) (most : Nat) (hr_vl : RdE encP h vl ls) (hp1 : ls.length ≤ 9223372036854775807) (hp2 : 1 ≤ most) (hp3 : most ≤ 12) : Fx Try.prog 15 [.int .i64 n, vl, .int .i64 ((most : Nat) : Int)] h (fun v h' => ∃ (s : Value) (hs : List Hdr) (p : List (List Bool)), v = s ∧ OwE encHd h' h.size 70 s hs ∧ OT encB h' h.size 4 hs p ∧ (isT p = true ∧ 1 ≤ p.length ∧ p.length ≤ most) ∧ Ext h.size h h') := by
  refine fx_intro (n := 106) [(0, .int .i64 n), (1, vl), (2, .int .i64 ((most : Nat) : Int))] Try.func15 rfl rfl (by simp) ⟨rfl, rfl, rfl, trivial⟩ fun g0 => ?_
  refine wi_seq <| wi_reg rfl <| lx_assign (.slice none 0 0) rfl rfl <| lx_nil <| wi_seq <| wi_reg rfl <| ?_
  have hmd := Nat.mod_lt (ur n) (show 0 < most by omega)
  refine lx_move (.int .i64 n) rfl rfl <| lx_conv ((ur n : Nat) : Int) rfl Try.underlying3 Try.underlying45 rfl (wrap_ur _) <| lx_move (.int .i64 ((most : Nat) : Int)) rfl rfl <| lx_conv ((most : Nat) : Int) rfl Try.underlying3 Try.underlying45 rfl (wrap_u64 (by omega) (by omega)) <| lx_rem (m := ur n) (n := most) rfl rfl rfl (by omega) <| lx_conv (((ur n) % most : Nat) : Int) rfl Try.underlying45 Try.underlying3 rfl (wrap_i64 (by omega) (by omega)) <| lx_add (((1 + ((ur n) % most) : Nat) : Int)) rfl rfl rfl (by omega) (by omega) (by omega) <| lx_assign (.int .i64 ((1 + ((ur n) % most) : Nat) : Int)) rfl rfl <| lx_nil <| wi_seq <| wi_seq <| wi_reg rfl <| lx_move (vl) rfl rfl <| lx_len rfl Try.underlying22 hr_vl rfl <| lx_gtrS rfl rfl rfl (fun c1 => ?_) (fun c1 => ?_)
  · refine lx_move (.bool true) rfl rfl <| lx_move (vl) rfl rfl <| lx_ix (i := 0) rfl eT22 hr_vl rfl rfl (by omega) <| lx_ixP (i := 0) (c := 0) rfl Try.underlying85 Try.sizeOf3 hr_vl (by omega) rfl rfl (by decide) <| lx_ld (i := 0) (j := 0) (.int .i64 ((gt ls 0).1)) rfl rfl fl3 hr_vl (by omega) rfl rfl <| lx_conv ((ur ((gt ls 0).1) : Nat) : Int) rfl Try.underlying3 Try.underlying45 rfl (wrap_ur _) <| lx_rem (m := ur ((gt ls 0).1)) (n := 3) rfl rfl rfl (by omega) <| lx_eqlS rfl rfl rfl (fun c2 => ?_) (fun c2 => ?_)
    · refine lx_pick true (.bool true) rfl rfl rfl <| lx_nil <| wi_true rfl <| wi_seq <| wi_reg rfl <| lx_move (vl) rfl rfl <| lx_ix (i := 0) rfl eT22 hr_vl rfl rfl (by omega) <| lx_ixP (i := 0) (c := 1) rfl Try.underlying85 Try.sizeOf3 hr_vl (by omega) rfl rfl (by decide) <| lx_ld (i := 0) (j := 1) (.int .i64 ((gt ls 0).2)) rfl rfl fl3 hr_vl (by omega) rfl rfl <| lx_conv ((ur ((gt ls 0).2) : Nat) : Int) rfl Try.underlying3 Try.underlying45 rfl (wrap_ur _) <| lx_move (.int .i64 ((most : Nat) : Int)) rfl rfl <| lx_call [.int .u64 ((ur ((gt ls 0).2) : Nat) : Int), .int .i64 ((most : Nat) : Int)] rfl rfl Try.call75 rfl (known_spec h most (ur ((gt ls 0).2)) (ur_lt _) (by omega) (by omega)) (fun _ _ _ => trivial) ?_
      rintro vk h1 ⟨_, hsk, pk, rfl, ho1, hot1, hkn, hx1⟩
      have ho2 := ho1.base (Nat.le_refl h.size)
      have hot2 := hot1.base (Nat.le_refl h.size)
      have hl_hot2 := hot2.1
      refine lx_assign (vk) rfl rfl <| lx_nil <| wi_seq <| wi_reg rfl <| lx_move (vk) rfl rfl <| lx_len rfl Try.underlying23 ho2.rd rfl <| lx_gtrS rfl rfl rfl (fun c3 => ?_) (fun c3 => ?_)
      · refine lx_nil <| wi_true rfl <| wi_seq <| wi_reg rfl <| lx_move (vk) rfl rfl <| lx_assign (vk) rfl rfl <| lx_nil <| ?_
        -- R1
        refine wi_ret ⟨vk, (res_one rfl rfl), ⟨vk, hsk, pk, rfl, ho2, hot2, ?_, hx1⟩⟩
        · rcases hkn with h9 | h9
          · exfalso; have h8 : pk.length = 0 := by rw [h9]; rfl
            omega
          · exact h9
      · refine lx_nil <| wi_false rfl <| wi_skip <| wi_seq <| wi_reg rfl <| lx_assign (.slice none 0 0) rfl rfl <| lx_nil <| wi_seq <| wi_seq <| wi_reg rfl <| lx_assign (.int .i64 0) rfl rfl <| lx_nil <| wi_block <| ?_
        refine wi_loop (σ := Nat × Value × (List (Int × Int))) (rngB 45 92 [9, 10, 11, 12]) (fun (ss : Nat × Value × (List (Int × Int))) => [(10, .int .i64 ((ss.1 : Nat) : Int)), (9, ss.2.1)]) (fun (ss : Nat × Value × (List (Int × Int))) (hh : Heap) => OwE encP hh h.size 85 ss.2.1 ss.2.2 ∧ Ext h.size h hh ∧ (ss.1 ≤ ls.length ∧ ss.1 ≤ 20) ∧ (ss.2.2.length ≤ ss.1) ∧ (∀ j, j < ss.2.2.length → Go.X.inR (((1 + ur n % most) : Nat) : Int) (gt ss.2.2 j) = true)) (fun (ss : Nat × Value × (List (Int × Int))) => ls.length - ss.1) (0, .slice none 0 0, []) ⟨rfl, rfl, trivial⟩ ⟨?_, hx1, ?_, ?_, ?_⟩ ?_
        · first | exact (owE_nil encP _ h.size 85) | (simpa using (owE_nil encP _ h.size 85))
        · try dsimp only
          omega
        · try dsimp only
          exact Nat.zero_le _
        · try dsimp only
          intro j hj; cases hj
        rintro g1 ⟨i, v, xs⟩ hh1 ⟨ho3, hx0_1, hi, hxl, hr⟩ IH1
        dsimp only at *
        refine wi_seq <| wi_seq <| wi_reg rfl <| lx_move (.int .i64 ((i : Nat) : Int)) rfl rfl <| lx_move (vl) rfl rfl <| lx_len rfl Try.underlying22 hr_vl rfl <| lx_lssS rfl rfl rfl (fun c4 => ?_) (fun c4 => ?_)
        · refine lx_move (.bool true) rfl rfl <| lx_move (.int .i64 ((i : Nat) : Int)) rfl rfl <| lx_lssS rfl rfl rfl (fun c5 => ?_) (fun c5 => ?_)
          · refine lx_pick true (.bool true) rfl rfl rfl <| lx_nil <| wi_true rfl <| wi_skip <| wi_seq <| wi_block <| wi_seq <| wi_draw mo rfl (by decide +kernel) <| ?_
            have hma := Nat.mod_lt (ur (gt ls i).1) (show 0 < 1 + ur n % most by omega)
            have hmb := Nat.mod_lt (ur (gt ls i).2) (show 0 < 1 + ur n % most by omega)
            refine lx_move (vl) rfl rfl <| lx_move (.int .i64 ((i : Nat) : Int)) rfl rfl <| lx_ix (i := i) rfl eT22 hr_vl rfl rfl (by omega) <| lx_ixP (i := i) (c := 0) rfl Try.underlying85 Try.sizeOf3 hr_vl (by omega) rfl rfl (by decide) <| lx_ld (i := i) (j := 0) (.int .i64 ((gt ls i).1)) rfl rfl fl3 (hr_vl.extS hx0_1) (by omega) rfl rfl <| lx_conv ((ur ((gt ls i).1) : Nat) : Int) rfl Try.underlying3 Try.underlying45 rfl (wrap_ur _) <| lx_move (.int .i64 ((1 + ((ur n) % most) : Nat) : Int)) rfl rfl <| lx_conv ((1 + ((ur n) % most) : Nat) : Int) rfl Try.underlying3 Try.underlying45 rfl (wrap_u64 (by omega) (by omega)) <| lx_rem (m := ur ((gt ls i).1)) (n := 1 + ((ur n) % most)) rfl rfl rfl (by omega) <| lx_conv (((ur ((gt ls i).1)) % (1 + ((ur n) % most)) : Nat) : Int) rfl Try.underlying45 Try.underlying3 rfl (wrap_i64 (by omega) (by omega)) <| lx_move (vl) rfl rfl <| lx_move (.int .i64 ((i : Nat) : Int)) rfl rfl <| lx_ix (i := i) rfl eT22 hr_vl rfl rfl (by omega) <| lx_ixP (i := i) (c := 1) rfl Try.underlying85 Try.sizeOf3 hr_vl (by omega) rfl rfl (by decide) <| lx_ld (i := i) (j := 1) (.int .i64 ((gt ls i).2)) rfl rfl fl3 (hr_vl.extS hx0_1) (by omega) rfl rfl <| lx_conv ((ur ((gt ls i).2) : Nat) : Int) rfl Try.underlying3 Try.underlying45 rfl (wrap_ur _) <| lx_move (.int .i64 ((1 + ((ur n) % most) : Nat) : Int)) rfl rfl <| lx_conv ((1 + ((ur n) % most) : Nat) : Int) rfl Try.underlying3 Try.underlying45 rfl (wrap_u64 (by omega) (by omega)) <| lx_rem (m := ur ((gt ls i).2)) (n := 1 + ((ur n) % most)) rfl rfl rfl (by omega) <| lx_conv (((ur ((gt ls i).2)) % (1 + ((ur n) % most)) : Nat) : Int) rfl Try.underlying45 Try.underlying3 rfl (wrap_i64 (by omega) (by omega)) <| lx_assign (.int .i64 (((ur ((gt ls i).1)) % (1 + ((ur n) % most)) : Nat) : Int)) rfl rfl <| lx_assign (.int .i64 (((ur ((gt ls i).2)) % (1 + ((ur n) % most)) : Nat) : Int)) rfl rfl <| lx_nil <| wi_seq <| wi_seq <| wi_reg rfl <| lx_move (.int .i64 (((ur ((gt ls i).1)) % (1 + ((ur n) % most)) : Nat) : Int)) rfl rfl <| lx_mul (((5 * ((ur ((gt ls i).1)) % (1 + ((ur n) % most))) : Nat) : Int)) rfl rfl rfl (by omega) (by omega) (by omega) <| lx_add (((5 * ((ur ((gt ls i).1)) % (1 + ((ur n) % most))) + 1 : Nat) : Int)) rfl rfl rfl (by omega) (by omega) (by omega) <| lx_rem (m := 5 * ((ur ((gt ls i).1)) % (1 + ((ur n) % most))) + 1) (n := 13) rfl rfl rfl (by omega) <| lx_move (.int .i64 (((ur ((gt ls i).2)) % (1 + ((ur n) % most)) : Nat) : Int)) rfl rfl <| lx_mul (((5 * ((ur ((gt ls i).2)) % (1 + ((ur n) % most))) : Nat) : Int)) rfl rfl rfl (by omega) (by omega) (by omega) <| lx_add (((5 * ((ur ((gt ls i).2)) % (1 + ((ur n) % most))) + 1 : Nat) : Int)) rfl rfl rfl (by omega) (by omega) (by omega) <| lx_rem (m := 5 * ((ur ((gt ls i).2)) % (1 + ((ur n) % most))) + 1) (n := 13) rfl rfl rfl (by omega) <| lx_gtrS rfl rfl rfl (fun c6 => ?_) (fun c6 => ?_)
            · refine lx_nil <| wi_true rfl <| wi_reg rfl <| lx_move (.int .i64 (((ur ((gt ls i).2)) % (1 + ((ur n) % most)) : Nat) : Int)) rfl rfl <| lx_move (.int .i64 (((ur ((gt ls i).1)) % (1 + ((ur n) % most)) : Nat) : Int)) rfl rfl <| lx_assign (.int .i64 (((ur ((gt ls i).2)) % (1 + ((ur n) % most)) : Nat) : Int)) rfl rfl <| lx_assign (.int .i64 (((ur ((gt ls i).1)) % (1 + ((ur n) % most)) : Nat) : Int)) rfl rfl <| lx_nil <| wi_reg rfl <| lx_move (v) rfl rfl <| lx_move (.int .i64 (((ur ((gt ls i).2)) % (1 + ((ur n) % most)) : Nat) : Int)) rfl rfl <| lx_move (.int .i64 (((ur ((gt ls i).1)) % (1 + ((ur n) % most)) : Nat) : Int)) rfl rfl <| lx_build (.agg #[.int .i64 (((ur ((gt ls i).2)) % (1 + ((ur n) % most)) : Nat) : Int), .int .i64 (((ur ((gt ls i).1)) % (1 + ((ur n) % most)) : Nat) : Int)]) [(0, .int .i64 (((ur ((gt ls i).2)) % (1 + ((ur n) % most)) : Nat) : Int)), (1, .int .i64 (((ur ((gt ls i).1)) % (1 + ((ur n) % most)) : Nat) : Int))] rfl rfl (fun w => bld85_2 _ _ w) <| lx_appendL (E := encP) (B := h.size) [((((ur ((gt ls i).2)) % (1 + ((ur n) % most)) : Nat) : Int), (((ur ((gt ls i).1)) % (1 + ((ur n) % most)) : Nat) : Int))] [.agg #[.int .i64 (((ur ((gt ls i).2)) % (1 + ((ur n) % most)) : Nat) : Int), .int .i64 (((ur ((gt ls i).1)) % (1 + ((ur n) % most)) : Nat) : Int)]] rfl rfl (fun _ => rfl) rfl eT22 rfl rfl rfl rfl ho3 (fun _ => rfl) (by show xs.length + 1 ≤ _; omega) (by show (xs.length + 1) * 16 ≤ _; omega) hx0_1.size (fun _ _ => trivial) fun u1 v1 h2 ho4 hc1 hg1 => ?_
              have hx0_2 := hx0_1.trans (ho3.ext hc1 hx0_1.size)
              refine lx_assign (v1) rfl rfl <| lx_nil <| wi_inBlock <| wi_reg rfl <| lx_move (.int .i64 ((i : Nat) : Int)) rfl rfl <| lx_add (((i + 1 : Nat) : Int)) rfl rfl rfl (by omega) (by omega) (by omega) <| lx_assign (.int .i64 ((i + 1 : Nat) : Int)) rfl rfl <| lx_nil <| ?_
              -- L0.1
              refine IH1 _ _ (i + 1, v1, xs ++ [((((ur ((gt ls i).2)) % (1 + ((ur n) % most)) : Nat) : Int), (((ur ((gt ls i).1)) % (1 + ((ur n) % most)) : Nat) : Int))]) (agree_ups rfl agree_self) ⟨rfl, rfl, trivial⟩ ⟨?_, hx0_2, ?_, ?_, ?_⟩ ?_
              · first | exact ho4 | (simpa using ho4)
              · try dsimp only
                omega
              · try dsimp only
                first | omega | (simp only [List.length_append, List.length_cons, List.length_nil]; omega)
              · try dsimp only
                intro j hj
                rw [List.length_append, List.length_cons, List.length_nil] at hj
                by_cases e : j < xs.length
                · rw [gt_append_left e]; exact hr j e
                · rw [show j = xs.length from by omega, gt_append_right]
                  exact Go.X.inR_iff.2 ⟨by show (0 : Int) ≤ ((_ : Nat) : Int); omega, by show (0 : Int) ≤ ((_ : Nat) : Int); omega, by show ((_ : Nat) : Int) < _; omega, by show ((_ : Nat) : Int) < _; omega⟩
              · first | omega | (dsimp only; omega)
            · refine lx_nil <| wi_false rfl <| wi_skip <| wi_reg rfl <| lx_move (v) rfl rfl <| lx_move (.int .i64 (((ur ((gt ls i).1)) % (1 + ((ur n) % most)) : Nat) : Int)) rfl rfl <| lx_move (.int .i64 (((ur ((gt ls i).2)) % (1 + ((ur n) % most)) : Nat) : Int)) rfl rfl <| lx_build (.agg #[.int .i64 (((ur ((gt ls i).1)) % (1 + ((ur n) % most)) : Nat) : Int), .int .i64 (((ur ((gt ls i).2)) % (1 + ((ur n) % most)) : Nat) : Int)]) [(0, .int .i64 (((ur ((gt ls i).1)) % (1 + ((ur n) % most)) : Nat) : Int)), (1, .int .i64 (((ur ((gt ls i).2)) % (1 + ((ur n) % most)) : Nat) : Int))] rfl rfl (fun w => bld85_2 _ _ w) <| lx_appendL (E := encP) (B := h.size) [((((ur ((gt ls i).1)) % (1 + ((ur n) % most)) : Nat) : Int), (((ur ((gt ls i).2)) % (1 + ((ur n) % most)) : Nat) : Int))] [.agg #[.int .i64 (((ur ((gt ls i).1)) % (1 + ((ur n) % most)) : Nat) : Int), .int .i64 (((ur ((gt ls i).2)) % (1 + ((ur n) % most)) : Nat) : Int)]] rfl rfl (fun _ => rfl) rfl eT22 rfl rfl rfl rfl ho3 (fun _ => rfl) (by show xs.length + 1 ≤ _; omega) (by show (xs.length + 1) * 16 ≤ _; omega) hx0_1.size (fun _ _ => trivial) fun u2 v2 h3 ho5 hc2 hg2 => ?_
              have hx0_3 := hx0_1.trans (ho3.ext hc2 hx0_1.size)
              refine lx_assign (v2) rfl rfl <| lx_nil <| wi_inBlock <| wi_reg rfl <| lx_move (.int .i64 ((i : Nat) : Int)) rfl rfl <| lx_add (((i + 1 : Nat) : Int)) rfl rfl rfl (by omega) (by omega) (by omega) <| lx_assign (.int .i64 ((i + 1 : Nat) : Int)) rfl rfl <| lx_nil <| ?_
              -- L0.2
              refine IH1 _ _ (i + 1, v2, xs ++ [((((ur ((gt ls i).1)) % (1 + ((ur n) % most)) : Nat) : Int), (((ur ((gt ls i).2)) % (1 + ((ur n) % most)) : Nat) : Int))]) (agree_ups rfl agree_self) ⟨rfl, rfl, trivial⟩ ⟨?_, hx0_3, ?_, ?_, ?_⟩ ?_
              · first | exact ho5 | (simpa using ho5)
              · try dsimp only
                omega
              · try dsimp only
                first | omega | (simp only [List.length_append, List.length_cons, List.length_nil]; omega)
              · try dsimp only
                intro j hj
                rw [List.length_append, List.length_cons, List.length_nil] at hj
                by_cases e : j < xs.length
                · rw [gt_append_left e]; exact hr j e
                · rw [show j = xs.length from by omega, gt_append_right]
                  exact Go.X.inR_iff.2 ⟨by show (0 : Int) ≤ ((_ : Nat) : Int); omega, by show (0 : Int) ≤ ((_ : Nat) : Int); omega, by show ((_ : Nat) : Int) < _; omega, by show ((_ : Nat) : Int) < _; omega⟩
              · first | omega | (dsimp only; omega)
          · refine lx_pick true (.bool false) rfl rfl rfl <| lx_nil <| wi_false rfl <| wi_exit rfl <| wi_seq <| wi_reg rfl <| lx_move (.int .i64 ((1 + ((ur n) % most) : Nat) : Int)) rfl rfl <| lx_move (v) rfl rfl <| lx_call [.int .i64 ((1 + ((ur n) % most) : Nat) : Int), v] rfl rfl Try.call64 rfl (rclosure_spec hh1 (1 + ((ur n) % most)) v xs ho3.rd (by omega) (by omega) hr) (fun _ _ _ => trivial) ?_
            rintro _ h4 ⟨vr, hsr, rfl, ho6, hot3, hx2⟩
            have hx0_4 := hx0_1.trans2 hx2 hx0_1.size
            have ho7 := ho3.extS hx2
            have ho8 := ho6.base hx0_1.size
            have hot4 := hot3.base hx0_1.size
            have hl_hot4 := hot4.1
            refine lx_move (.tuple #[vr, .bool (ordB (1 + ((ur n) % most)) (closW (1 + ((ur n) % most)) xs))]) rfl rfl <| lx_extract (vr) rfl rfl rfl <| lx_extract (.bool (ordB (1 + ((ur n) % most)) (closW (1 + ((ur n) % most)) xs))) rfl rfl rfl <| lx_assign (vr) rfl rfl <| lx_assign (.bool (ordB (1 + ((ur n) % most)) (closW (1 + ((ur n) % most)) xs))) rfl rfl <| lx_nil <| wi_seq <| wi_seq <| wi_reg rfl <| lx_move (.bool (ordB (1 + ((ur n) % most)) (closW (1 + ((ur n) % most)) xs))) rfl rfl <| lx_not rfl rfl <| lx_nil <| wi_condS (t := !(ordB (1 + ((ur n) % most)) (closW (1 + ((ur n) % most)) xs))) rfl (fun c7 => ?_) (fun c7 => ?_)
            · refine wi_reg rfl <| lx_move (.int .i64 ((1 + ((ur n) % most) : Nat) : Int)) rfl rfl <| lx_call [.int .i64 ((1 + ((ur n) % most) : Nat) : Int), .slice none 0 0] rfl rfl Try.call64 rfl (rclosure_spec h4 (1 + ((ur n) % most)) ((.slice none 0 0)) ([]) (owE_nil encP _ 0 0).rd (by omega) (by decide) (fun j hj => by cases hj)) (fun _ _ _ => trivial) ?_
              rintro _ h5 ⟨vz, hsz, rfl, ho9, hot5, hx3⟩
              have hx0_5 := hx0_4.trans2 hx3 hx0_4.size
              have ho10 := ho7.extS hx3
              have ho11 := ho8.extS hx3
              have hot6 := hot4.extS hx3
              have ho12 := ho9.base hx0_4.size
              have hot7 := hot5.base hx0_4.size
              have hl_hot7 := hot7.1
              refine lx_move (.tuple #[vz, .bool (ordB (1 + ((ur n) % most)) (closW (1 + ((ur n) % most)) ([])))]) rfl rfl <| lx_extract (vz) rfl rfl rfl <| lx_extract (.bool (ordB (1 + ((ur n) % most)) (closW (1 + ((ur n) % most)) ([])))) rfl rfl rfl <| lx_assign (vz) rfl rfl <| lx_nil <| wi_seq <| wi_reg rfl <| lx_move (vz) rfl rfl <| lx_assign (vz) rfl rfl <| lx_nil <| ?_
              -- R2
              refine wi_ret ⟨vz, (res_one rfl rfl), ⟨vz, hsz, tabF (1 + ((ur n) % most)) (closW (1 + ((ur n) % most)) ([])), rfl, ho12, hot7, ?_, hx0_5⟩⟩
              · first
                | exact ⟨isT_tabF (ordB_iff.1 (by simpa using ‹(!ordB (1 + ur n % most) (closW (1 + ur n % most) xs)) = false›)), by rw [tabF_length]; omega, by rw [tabF_length]; omega⟩
                | exact ⟨isT_tabF (up_order fun d hd => by cases hd), by rw [tabF_length]; omega, by rw [tabF_length]; omega⟩
            · refine wi_skip <| wi_seq <| wi_reg rfl <| lx_move (vr) rfl rfl <| lx_assign (vr) rfl rfl <| lx_nil <| ?_
              -- R3
              refine wi_ret ⟨vr, (res_one rfl rfl), ⟨vr, hsr, tabF (1 + ((ur n) % most)) (closW (1 + ((ur n) % most)) xs), rfl, ho8, hot4, ?_, hx0_4⟩⟩
              · first
                | exact ⟨isT_tabF (ordB_iff.1 (by simpa using ‹(!ordB (1 + ur n % most) (closW (1 + ur n % most) xs)) = false›)), by rw [tabF_length]; omega, by rw [tabF_length]; omega⟩
                | exact ⟨isT_tabF (up_order fun d hd => by cases hd), by rw [tabF_length]; omega, by rw [tabF_length]; omega⟩
        · refine lx_move (.bool false) rfl rfl <| lx_skip rfl <| lx_skip rfl <| lx_pick false (.bool false) rfl rfl rfl <| lx_nil <| wi_false rfl <| wi_exit rfl <| wi_seq <| wi_reg rfl <| lx_move (.int .i64 ((1 + ((ur n) % most) : Nat) : Int)) rfl rfl <| lx_move (v) rfl rfl <| lx_call [.int .i64 ((1 + ((ur n) % most) : Nat) : Int), v] rfl rfl Try.call64 rfl (rclosure_spec hh1 (1 + ((ur n) % most)) v xs ho3.rd (by omega) (by omega) hr) (fun _ _ _ => trivial) ?_
          rintro _ h6 ⟨vr, hsr, rfl, ho13, hot8, hx4⟩
          have hx0_6 := hx0_1.trans2 hx4 hx0_1.size
          have ho14 := ho3.extS hx4
          have ho15 := ho13.base hx0_1.size
          have hot9 := hot8.base hx0_1.size
          have hl_hot9 := hot9.1
          refine lx_move (.tuple #[vr, .bool (ordB (1 + ((ur n) % most)) (closW (1 + ((ur n) % most)) xs))]) rfl rfl <| lx_extract (vr) rfl rfl rfl <| lx_extract (.bool (ordB (1 + ((ur n) % most)) (closW (1 + ((ur n) % most)) xs))) rfl rfl rfl <| lx_assign (vr) rfl rfl <| lx_assign (.bool (ordB (1 + ((ur n) % most)) (closW (1 + ((ur n) % most)) xs))) rfl rfl <| lx_nil <| wi_seq <| wi_seq <| wi_reg rfl <| lx_move (.bool (ordB (1 + ((ur n) % most)) (closW (1 + ((ur n) % most)) xs))) rfl rfl <| lx_not rfl rfl <| lx_nil <| wi_condS (t := !(ordB (1 + ((ur n) % most)) (closW (1 + ((ur n) % most)) xs))) rfl (fun c8 => ?_) (fun c8 => ?_)
          · refine wi_reg rfl <| lx_move (.int .i64 ((1 + ((ur n) % most) : Nat) : Int)) rfl rfl <| lx_call [.int .i64 ((1 + ((ur n) % most) : Nat) : Int), .slice none 0 0] rfl rfl Try.call64 rfl (rclosure_spec h6 (1 + ((ur n) % most)) ((.slice none 0 0)) ([]) (owE_nil encP _ 0 0).rd (by omega) (by decide) (fun j hj => by cases hj)) (fun _ _ _ => trivial) ?_
            rintro _ h7 ⟨vz, hsz, rfl, ho16, hot10, hx5⟩
            have hx0_7 := hx0_6.trans2 hx5 hx0_6.size
            have ho17 := ho14.extS hx5
            have ho18 := ho15.extS hx5
            have hot11 := hot9.extS hx5
            have ho19 := ho16.base hx0_6.size
            have hot12 := hot10.base hx0_6.size
            have hl_hot12 := hot12.1
            refine lx_move (.tuple #[vz, .bool (ordB (1 + ((ur n) % most)) (closW (1 + ((ur n) % most)) ([])))]) rfl rfl <| lx_extract (vz) rfl rfl rfl <| lx_extract (.bool (ordB (1 + ((ur n) % most)) (closW (1 + ((ur n) % most)) ([])))) rfl rfl rfl <| lx_assign (vz) rfl rfl <| lx_nil <| wi_seq <| wi_reg rfl <| lx_move (vz) rfl rfl <| lx_assign (vz) rfl rfl <| lx_nil <| ?_
            -- R4
            refine wi_ret ⟨vz, (res_one rfl rfl), ⟨vz, hsz, tabF (1 + ((ur n) % most)) (closW (1 + ((ur n) % most)) ([])), rfl, ho19, hot12, ?_, hx0_7⟩⟩
            · first
              | exact ⟨isT_tabF (ordB_iff.1 (by simpa using ‹(!ordB (1 + ur n % most) (closW (1 + ur n % most) xs)) = false›)), by rw [tabF_length]; omega, by rw [tabF_length]; omega⟩
              | exact ⟨isT_tabF (up_order fun d hd => by cases hd), by rw [tabF_length]; omega, by rw [tabF_length]; omega⟩
          · refine wi_skip <| wi_seq <| wi_reg rfl <| lx_move (vr) rfl rfl <| lx_assign (vr) rfl rfl <| lx_nil <| ?_
            -- R5
            refine wi_ret ⟨vr, (res_one rfl rfl), ⟨vr, hsr, tabF (1 + ((ur n) % most)) (closW (1 + ((ur n) % most)) xs), rfl, ho15, hot9, ?_, hx0_6⟩⟩
            · first
              | exact ⟨isT_tabF (ordB_iff.1 (by simpa using ‹(!ordB (1 + ur n % most) (closW (1 + ur n % most) xs)) = false›)), by rw [tabF_length]; omega, by rw [tabF_length]; omega⟩
              | exact ⟨isT_tabF (up_order fun d hd => by cases hd), by rw [tabF_length]; omega, by rw [tabF_length]; omega⟩
    · refine lx_pick true (.bool false) rfl rfl rfl <| lx_nil <| wi_false rfl <| wi_skip <| wi_seq <| wi_reg rfl <| lx_assign (.slice none 0 0) rfl rfl <| lx_nil <| wi_seq <| wi_seq <| wi_reg rfl <| lx_assign (.int .i64 0) rfl rfl <| lx_nil <| wi_block <| ?_
      refine wi_loop (σ := Nat × Value × (List (Int × Int))) (rngB 45 92 [9, 10, 11, 12]) (fun (ss : Nat × Value × (List (Int × Int))) => [(10, .int .i64 ((ss.1 : Nat) : Int)), (9, ss.2.1)]) (fun (ss : Nat × Value × (List (Int × Int))) (hh : Heap) => OwE encP hh h.size 85 ss.2.1 ss.2.2 ∧ Ext h.size h hh ∧ (ss.1 ≤ ls.length ∧ ss.1 ≤ 20) ∧ (ss.2.2.length ≤ ss.1) ∧ (∀ j, j < ss.2.2.length → Go.X.inR (((1 + ur n % most) : Nat) : Int) (gt ss.2.2 j) = true)) (fun (ss : Nat × Value × (List (Int × Int))) => ls.length - ss.1) (0, .slice none 0 0, []) ⟨rfl, rfl, trivial⟩ ⟨?_, (Ext.refl _ _), ?_, ?_, ?_⟩ ?_
      · first | exact (owE_nil encP _ h.size 85) | (simpa using (owE_nil encP _ h.size 85))
      · try dsimp only
        omega
      · try dsimp only
        exact Nat.zero_le _
      · try dsimp only
        intro j hj; cases hj
      rintro g2 ⟨i, v, xs⟩ hh2 ⟨ho20, hx0_8, hi, hxl, hr⟩ IH2
      dsimp only at *
      refine wi_seq <| wi_seq <| wi_reg rfl <| lx_move (.int .i64 ((i : Nat) : Int)) rfl rfl <| lx_move (vl) rfl rfl <| lx_len rfl Try.underlying22 hr_vl rfl <| lx_lssS rfl rfl rfl (fun c9 => ?_) (fun c9 => ?_)
      · refine lx_move (.bool true) rfl rfl <| lx_move (.int .i64 ((i : Nat) : Int)) rfl rfl <| lx_lssS rfl rfl rfl (fun c10 => ?_) (fun c10 => ?_)
        · refine lx_pick true (.bool true) rfl rfl rfl <| lx_nil <| wi_true rfl <| wi_skip <| wi_seq <| wi_block <| wi_seq <| wi_draw mo rfl (by decide +kernel) <| ?_
          have hma := Nat.mod_lt (ur (gt ls i).1) (show 0 < 1 + ur n % most by omega)
          have hmb := Nat.mod_lt (ur (gt ls i).2) (show 0 < 1 + ur n % most by omega)
          refine lx_move (vl) rfl rfl <| lx_move (.int .i64 ((i : Nat) : Int)) rfl rfl <| lx_ix (i := i) rfl eT22 hr_vl rfl rfl (by omega) <| lx_ixP (i := i) (c := 0) rfl Try.underlying85 Try.sizeOf3 hr_vl (by omega) rfl rfl (by decide) <| lx_ld (i := i) (j := 0) (.int .i64 ((gt ls i).1)) rfl rfl fl3 (hr_vl.extS hx0_8) (by omega) rfl rfl <| lx_conv ((ur ((gt ls i).1) : Nat) : Int) rfl Try.underlying3 Try.underlying45 rfl (wrap_ur _) <| lx_move (.int .i64 ((1 + ((ur n) % most) : Nat) : Int)) rfl rfl <| lx_conv ((1 + ((ur n) % most) : Nat) : Int) rfl Try.underlying3 Try.underlying45 rfl (wrap_u64 (by omega) (by omega)) <| lx_rem (m := ur ((gt ls i).1)) (n := 1 + ((ur n) % most)) rfl rfl rfl (by omega) <| lx_conv (((ur ((gt ls i).1)) % (1 + ((ur n) % most)) : Nat) : Int) rfl Try.underlying45 Try.underlying3 rfl (wrap_i64 (by omega) (by omega)) <| lx_move (vl) rfl rfl <| lx_move (.int .i64 ((i : Nat) : Int)) rfl rfl <| lx_ix (i := i) rfl eT22 hr_vl rfl rfl (by omega) <| lx_ixP (i := i) (c := 1) rfl Try.underlying85 Try.sizeOf3 hr_vl (by omega) rfl rfl (by decide) <| lx_ld (i := i) (j := 1) (.int .i64 ((gt ls i).2)) rfl rfl fl3 (hr_vl.extS hx0_8) (by omega) rfl rfl <| lx_conv ((ur ((gt ls i).2) : Nat) : Int) rfl Try.underlying3 Try.underlying45 rfl (wrap_ur _) <| lx_move (.int .i64 ((1 + ((ur n) % most) : Nat) : Int)) rfl rfl <| lx_conv ((1 + ((ur n) % most) : Nat) : Int) rfl Try.underlying3 Try.underlying45 rfl (wrap_u64 (by omega) (by omega)) <| lx_rem (m := ur ((gt ls i).2)) (n := 1 + ((ur n) % most)) rfl rfl rfl (by omega) <| lx_conv (((ur ((gt ls i).2)) % (1 + ((ur n) % most)) : Nat) : Int) rfl Try.underlying45 Try.underlying3 rfl (wrap_i64 (by omega) (by omega)) <| lx_assign (.int .i64 (((ur ((gt ls i).1)) % (1 + ((ur n) % most)) : Nat) : Int)) rfl rfl <| lx_assign (.int .i64 (((ur ((gt ls i).2)) % (1 + ((ur n) % most)) : Nat) : Int)) rfl rfl <| lx_nil <| wi_seq <| wi_seq <| wi_reg rfl <| lx_move (.int .i64 (((ur ((gt ls i).1)) % (1 + ((ur n) % most)) : Nat) : Int)) rfl rfl <| lx_mul (((5 * ((ur ((gt ls i).1)) % (1 + ((ur n) % most))) : Nat) : Int)) rfl rfl rfl (by omega) (by omega) (by omega) <| lx_add (((5 * ((ur ((gt ls i).1)) % (1 + ((ur n) % most))) + 1 : Nat) : Int)) rfl rfl rfl (by omega) (by omega) (by omega) <| lx_rem (m := 5 * ((ur ((gt ls i).1)) % (1 + ((ur n) % most))) + 1) (n := 13) rfl rfl rfl (by omega) <| lx_move (.int .i64 (((ur ((gt ls i).2)) % (1 + ((ur n) % most)) : Nat) : Int)) rfl rfl <| lx_mul (((5 * ((ur ((gt ls i).2)) % (1 + ((ur n) % most))) : Nat) : Int)) rfl rfl rfl (by omega) (by omega) (by omega) <| lx_add (((5 * ((ur ((gt ls i).2)) % (1 + ((ur n) % most))) + 1 : Nat) : Int)) rfl rfl rfl (by omega) (by omega) (by omega) <| lx_rem (m := 5 * ((ur ((gt ls i).2)) % (1 + ((ur n) % most))) + 1) (n := 13) rfl rfl rfl (by omega) <| lx_gtrS rfl rfl rfl (fun c11 => ?_) (fun c11 => ?_)
          · refine lx_nil <| wi_true rfl <| wi_reg rfl <| lx_move (.int .i64 (((ur ((gt ls i).2)) % (1 + ((ur n) % most)) : Nat) : Int)) rfl rfl <| lx_move (.int .i64 (((ur ((gt ls i).1)) % (1 + ((ur n) % most)) : Nat) : Int)) rfl rfl <| lx_assign (.int .i64 (((ur ((gt ls i).2)) % (1 + ((ur n) % most)) : Nat) : Int)) rfl rfl <| lx_assign (.int .i64 (((ur ((gt ls i).1)) % (1 + ((ur n) % most)) : Nat) : Int)) rfl rfl <| lx_nil <| wi_reg rfl <| lx_move (v) rfl rfl <| lx_move (.int .i64 (((ur ((gt ls i).2)) % (1 + ((ur n) % most)) : Nat) : Int)) rfl rfl <| lx_move (.int .i64 (((ur ((gt ls i).1)) % (1 + ((ur n) % most)) : Nat) : Int)) rfl rfl <| lx_build (.agg #[.int .i64 (((ur ((gt ls i).2)) % (1 + ((ur n) % most)) : Nat) : Int), .int .i64 (((ur ((gt ls i).1)) % (1 + ((ur n) % most)) : Nat) : Int)]) [(0, .int .i64 (((ur ((gt ls i).2)) % (1 + ((ur n) % most)) : Nat) : Int)), (1, .int .i64 (((ur ((gt ls i).1)) % (1 + ((ur n) % most)) : Nat) : Int))] rfl rfl (fun w => bld85_2 _ _ w) <| lx_appendL (E := encP) (B := h.size) [((((ur ((gt ls i).2)) % (1 + ((ur n) % most)) : Nat) : Int), (((ur ((gt ls i).1)) % (1 + ((ur n) % most)) : Nat) : Int))] [.agg #[.int .i64 (((ur ((gt ls i).2)) % (1 + ((ur n) % most)) : Nat) : Int), .int .i64 (((ur ((gt ls i).1)) % (1 + ((ur n) % most)) : Nat) : Int)]] rfl rfl (fun _ => rfl) rfl eT22 rfl rfl rfl rfl ho20 (fun _ => rfl) (by show xs.length + 1 ≤ _; omega) (by show (xs.length + 1) * 16 ≤ _; omega) hx0_8.size (fun _ _ => trivial) fun u3 v3 h8 ho21 hc3 hg3 => ?_
            have hx0_9 := hx0_8.trans (ho20.ext hc3 hx0_8.size)
            refine lx_assign (v3) rfl rfl <| lx_nil <| wi_inBlock <| wi_reg rfl <| lx_move (.int .i64 ((i : Nat) : Int)) rfl rfl <| lx_add (((i + 1 : Nat) : Int)) rfl rfl rfl (by omega) (by omega) (by omega) <| lx_assign (.int .i64 ((i + 1 : Nat) : Int)) rfl rfl <| lx_nil <| ?_
            -- L0.1
            refine IH2 _ _ (i + 1, v3, xs ++ [((((ur ((gt ls i).2)) % (1 + ((ur n) % most)) : Nat) : Int), (((ur ((gt ls i).1)) % (1 + ((ur n) % most)) : Nat) : Int))]) (agree_ups rfl agree_self) ⟨rfl, rfl, trivial⟩ ⟨?_, hx0_9, ?_, ?_, ?_⟩ ?_
            · first | exact ho21 | (simpa using ho21)
            · try dsimp only
              omega
            · try dsimp only
              first | omega | (simp only [List.length_append, List.length_cons, List.length_nil]; omega)
            · try dsimp only
              intro j hj
              rw [List.length_append, List.length_cons, List.length_nil] at hj
              by_cases e : j < xs.length
              · rw [gt_append_left e]; exact hr j e
              · rw [show j = xs.length from by omega, gt_append_right]
                exact Go.X.inR_iff.2 ⟨by show (0 : Int) ≤ ((_ : Nat) : Int); omega, by show (0 : Int) ≤ ((_ : Nat) : Int); omega, by show ((_ : Nat) : Int) < _; omega, by show ((_ : Nat) : Int) < _; omega⟩
            · first | omega | (dsimp only; omega)
          · refine lx_nil <| wi_false rfl <| wi_skip <| wi_reg rfl <| lx_move (v) rfl rfl <| lx_move (.int .i64 (((ur ((gt ls i).1)) % (1 + ((ur n) % most)) : Nat) : Int)) rfl rfl <| lx_move (.int .i64 (((ur ((gt ls i).2)) % (1 + ((ur n) % most)) : Nat) : Int)) rfl rfl <| lx_build (.agg #[.int .i64 (((ur ((gt ls i).1)) % (1 + ((ur n) % most)) : Nat) : Int), .int .i64 (((ur ((gt ls i).2)) % (1 + ((ur n) % most)) : Nat) : Int)]) [(0, .int .i64 (((ur ((gt ls i).1)) % (1 + ((ur n) % most)) : Nat) : Int)), (1, .int .i64 (((ur ((gt ls i).2)) % (1 + ((ur n) % most)) : Nat) : Int))] rfl rfl (fun w => bld85_2 _ _ w) <| lx_appendL (E := encP) (B := h.size) [((((ur ((gt ls i).1)) % (1 + ((ur n) % most)) : Nat) : Int), (((ur ((gt ls i).2)) % (1 + ((ur n) % most)) : Nat) : Int))] [.agg #[.int .i64 (((ur ((gt ls i).1)) % (1 + ((ur n) % most)) : Nat) : Int), .int .i64 (((ur ((gt ls i).2)) % (1 + ((ur n) % most)) : Nat) : Int)]] rfl rfl (fun _ => rfl) rfl eT22 rfl rfl rfl rfl ho20 (fun _ => rfl) (by show xs.length + 1 ≤ _; omega) (by show (xs.length + 1) * 16 ≤ _; omega) hx0_8.size (fun _ _ => trivial) fun u4 v4 h9 ho22 hc4 hg4 => ?_
            have hx0_10 := hx0_8.trans (ho20.ext hc4 hx0_8.size)
            refine lx_assign (v4) rfl rfl <| lx_nil <| wi_inBlock <| wi_reg rfl <| lx_move (.int .i64 ((i : Nat) : Int)) rfl rfl <| lx_add (((i + 1 : Nat) : Int)) rfl rfl rfl (by omega) (by omega) (by omega) <| lx_assign (.int .i64 ((i + 1 : Nat) : Int)) rfl rfl <| lx_nil <| ?_
            -- L0.2
            refine IH2 _ _ (i + 1, v4, xs ++ [((((ur ((gt ls i).1)) % (1 + ((ur n) % most)) : Nat) : Int), (((ur ((gt ls i).2)) % (1 + ((ur n) % most)) : Nat) : Int))]) (agree_ups rfl agree_self) ⟨rfl, rfl, trivial⟩ ⟨?_, hx0_10, ?_, ?_, ?_⟩ ?_
            · first | exact ho22 | (simpa using ho22)
            · try dsimp only
              omega
            · try dsimp only
              first | omega | (simp only [List.length_append, List.length_cons, List.length_nil]; omega)
            · try dsimp only
              intro j hj
              rw [List.length_append, List.length_cons, List.length_nil] at hj
              by_cases e : j < xs.length
              · rw [gt_append_left e]; exact hr j e
              · rw [show j = xs.length from by omega, gt_append_right]
                exact Go.X.inR_iff.2 ⟨by show (0 : Int) ≤ ((_ : Nat) : Int); omega, by show (0 : Int) ≤ ((_ : Nat) : Int); omega, by show ((_ : Nat) : Int) < _; omega, by show ((_ : Nat) : Int) < _; omega⟩
            · first | omega | (dsimp only; omega)
        · refine lx_pick true (.bool false) rfl rfl rfl <| lx_nil <| wi_false rfl <| wi_exit rfl <| wi_seq <| wi_reg rfl <| lx_move (.int .i64 ((1 + ((ur n) % most) : Nat) : Int)) rfl rfl <| lx_move (v) rfl rfl <| lx_call [.int .i64 ((1 + ((ur n) % most) : Nat) : Int), v] rfl rfl Try.call64 rfl (rclosure_spec hh2 (1 + ((ur n) % most)) v xs ho20.rd (by omega) (by omega) hr) (fun _ _ _ => trivial) ?_
          rintro _ h10 ⟨vr, hsr, rfl, ho23, hot13, hx6⟩
          have hx0_11 := hx0_8.trans2 hx6 hx0_8.size
          have ho24 := ho20.extS hx6
          have ho25 := ho23.base hx0_8.size
          have hot14 := hot13.base hx0_8.size
          have hl_hot14 := hot14.1
          refine lx_move (.tuple #[vr, .bool (ordB (1 + ((ur n) % most)) (closW (1 + ((ur n) % most)) xs))]) rfl rfl <| lx_extract (vr) rfl rfl rfl <| lx_extract (.bool (ordB (1 + ((ur n) % most)) (closW (1 + ((ur n) % most)) xs))) rfl rfl rfl <| lx_assign (vr) rfl rfl <| lx_assign (.bool (ordB (1 + ((ur n) % most)) (closW (1 + ((ur n) % most)) xs))) rfl rfl <| lx_nil <| wi_seq <| wi_seq <| wi_reg rfl <| lx_move (.bool (ordB (1 + ((ur n) % most)) (closW (1 + ((ur n) % most)) xs))) rfl rfl <| lx_not rfl rfl <| lx_nil <| wi_condS (t := !(ordB (1 + ((ur n) % most)) (closW (1 + ((ur n) % most)) xs))) rfl (fun c12 => ?_) (fun c12 => ?_)
          · refine wi_reg rfl <| lx_move (.int .i64 ((1 + ((ur n) % most) : Nat) : Int)) rfl rfl <| lx_call [.int .i64 ((1 + ((ur n) % most) : Nat) : Int), .slice none 0 0] rfl rfl Try.call64 rfl (rclosure_spec h10 (1 + ((ur n) % most)) ((.slice none 0 0)) ([]) (owE_nil encP _ 0 0).rd (by omega) (by decide) (fun j hj => by cases hj)) (fun _ _ _ => trivial) ?_
            rintro _ h11 ⟨vz, hsz, rfl, ho26, hot15, hx7⟩
            have hx0_12 := hx0_11.trans2 hx7 hx0_11.size
            have ho27 := ho24.extS hx7
            have ho28 := ho25.extS hx7
            have hot16 := hot14.extS hx7
            have ho29 := ho26.base hx0_11.size
            have hot17 := hot15.base hx0_11.size
            have hl_hot17 := hot17.1
            refine lx_move (.tuple #[vz, .bool (ordB (1 + ((ur n) % most)) (closW (1 + ((ur n) % most)) ([])))]) rfl rfl <| lx_extract (vz) rfl rfl rfl <| lx_extract (.bool (ordB (1 + ((ur n) % most)) (closW (1 + ((ur n) % most)) ([])))) rfl rfl rfl <| lx_assign (vz) rfl rfl <| lx_nil <| wi_seq <| wi_reg rfl <| lx_move (vz) rfl rfl <| lx_assign (vz) rfl rfl <| lx_nil <| ?_
            -- R6
            refine wi_ret ⟨vz, (res_one rfl rfl), ⟨vz, hsz, tabF (1 + ((ur n) % most)) (closW (1 + ((ur n) % most)) ([])), rfl, ho29, hot17, ?_, hx0_12⟩⟩
            · first
              | exact ⟨isT_tabF (ordB_iff.1 (by simpa using ‹(!ordB (1 + ur n % most) (closW (1 + ur n % most) xs)) = false›)), by rw [tabF_length]; omega, by rw [tabF_length]; omega⟩
              | exact ⟨isT_tabF (up_order fun d hd => by cases hd), by rw [tabF_length]; omega, by rw [tabF_length]; omega⟩
          · refine wi_skip <| wi_seq <| wi_reg rfl <| lx_move (vr) rfl rfl <| lx_assign (vr) rfl rfl <| lx_nil <| ?_
            -- R7
            refine wi_ret ⟨vr, (res_one rfl rfl), ⟨vr, hsr, tabF (1 + ((ur n) % most)) (closW (1 + ((ur n) % most)) xs), rfl, ho25, hot14, ?_, hx0_11⟩⟩
            · first
              | exact ⟨isT_tabF (ordB_iff.1 (by simpa using ‹(!ordB (1 + ur n % most) (closW (1 + ur n % most) xs)) = false›)), by rw [tabF_length]; omega, by rw [tabF_length]; omega⟩
              | exact ⟨isT_tabF (up_order fun d hd => by cases hd), by rw [tabF_length]; omega, by rw [tabF_length]; omega⟩
      · refine lx_move (.bool false) rfl rfl <| lx_skip rfl <| lx_skip rfl <| lx_pick false (.bool false) rfl rfl rfl <| lx_nil <| wi_false rfl <| wi_exit rfl <| wi_seq <| wi_reg rfl <| lx_move (.int .i64 ((1 + ((ur n) % most) : Nat) : Int)) rfl rfl <| lx_move (v) rfl rfl <| lx_call [.int .i64 ((1 + ((ur n) % most) : Nat) : Int), v] rfl rfl Try.call64 rfl (rclosure_spec hh2 (1 + ((ur n) % most)) v xs ho20.rd (by omega) (by omega) hr) (fun _ _ _ => trivial) ?_
        rintro _ h12 ⟨vr, hsr, rfl, ho30, hot18, hx8⟩
        have hx0_13 := hx0_8.trans2 hx8 hx0_8.size
        have ho31 := ho20.extS hx8
        have ho32 := ho30.base hx0_8.size
        have hot19 := hot18.base hx0_8.size
        have hl_hot19 := hot19.1
        refine lx_move (.tuple #[vr, .bool (ordB (1 + ((ur n) % most)) (closW (1 + ((ur n) % most)) xs))]) rfl rfl <| lx_extract (vr) rfl rfl rfl <| lx_extract (.bool (ordB (1 + ((ur n) % most)) (closW (1 + ((ur n) % most)) xs))) rfl rfl rfl <| lx_assign (vr) rfl rfl <| lx_assign (.bool (ordB (1 + ((ur n) % most)) (closW (1 + ((ur n) % most)) xs))) rfl rfl <| lx_nil <| wi_seq <| wi_seq <| wi_reg rfl <| lx_move (.bool (ordB (1 + ((ur n) % most)) (closW (1 + ((ur n) % most)) xs))) rfl rfl <| lx_not rfl rfl <| lx_nil <| wi_condS (t := !(ordB (1 + ((ur n) % most)) (closW (1 + ((ur n) % most)) xs))) rfl (fun c13 => ?_) (fun c13 => ?_)
        · refine wi_reg rfl <| lx_move (.int .i64 ((1 + ((ur n) % most) : Nat) : Int)) rfl rfl <| lx_call [.int .i64 ((1 + ((ur n) % most) : Nat) : Int), .slice none 0 0] rfl rfl Try.call64 rfl (rclosure_spec h12 (1 + ((ur n) % most)) ((.slice none 0 0)) ([]) (owE_nil encP _ 0 0).rd (by omega) (by decide) (fun j hj => by cases hj)) (fun _ _ _ => trivial) ?_
          rintro _ h13 ⟨vz, hsz, rfl, ho33, hot20, hx9⟩
          have hx0_14 := hx0_13.trans2 hx9 hx0_13.size
          have ho34 := ho31.extS hx9
          have ho35 := ho32.extS hx9
          have hot21 := hot19.extS hx9
          have ho36 := ho33.base hx0_13.size
          have hot22 := hot20.base hx0_13.size
          have hl_hot22 := hot22.1
          refine lx_move (.tuple #[vz, .bool (ordB (1 + ((ur n) % most)) (closW (1 + ((ur n) % most)) ([])))]) rfl rfl <| lx_extract (vz) rfl rfl rfl <| lx_extract (.bool (ordB (1 + ((ur n) % most)) (closW (1 + ((ur n) % most)) ([])))) rfl rfl rfl <| lx_assign (vz) rfl rfl <| lx_nil <| wi_seq <| wi_reg rfl <| lx_move (vz) rfl rfl <| lx_assign (vz) rfl rfl <| lx_nil <| ?_
          -- R8
          refine wi_ret ⟨vz, (res_one rfl rfl), ⟨vz, hsz, tabF (1 + ((ur n) % most)) (closW (1 + ((ur n) % most)) ([])), rfl, ho36, hot22, ?_, hx0_14⟩⟩
          · first
            | exact ⟨isT_tabF (ordB_iff.1 (by simpa using ‹(!ordB (1 + ur n % most) (closW (1 + ur n % most) xs)) = false›)), by rw [tabF_length]; omega, by rw [tabF_length]; omega⟩
            | exact ⟨isT_tabF (up_order fun d hd => by cases hd), by rw [tabF_length]; omega, by rw [tabF_length]; omega⟩
        · refine wi_skip <| wi_seq <| wi_reg rfl <| lx_move (vr) rfl rfl <| lx_assign (vr) rfl rfl <| lx_nil <| ?_
          -- R9
          refine wi_ret ⟨vr, (res_one rfl rfl), ⟨vr, hsr, tabF (1 + ((ur n) % most)) (closW (1 + ((ur n) % most)) xs), rfl, ho32, hot19, ?_, hx0_13⟩⟩
          · first
            | exact ⟨isT_tabF (ordB_iff.1 (by simpa using ‹(!ordB (1 + ur n % most) (closW (1 + ur n % most) xs)) = false›)), by rw [tabF_length]; omega, by rw [tabF_length]; omega⟩
            | exact ⟨isT_tabF (up_order fun d hd => by cases hd), by rw [tabF_length]; omega, by rw [tabF_length]; omega⟩
  · refine lx_move (.bool false) rfl rfl <| lx_skip rfl <| lx_skip rfl <| lx_skip rfl <| lx_skip rfl <| lx_skip rfl <| lx_skip rfl <| lx_skip rfl <| lx_pick false (.bool false) rfl rfl rfl <| lx_nil <| wi_false rfl <| wi_skip <| wi_seq <| wi_reg rfl <| lx_assign (.slice none 0 0) rfl rfl <| lx_nil <| wi_seq <| wi_seq <| wi_reg rfl <| lx_assign (.int .i64 0) rfl rfl <| lx_nil <| wi_block <| ?_
    refine wi_loop (σ := Nat × Value × (List (Int × Int))) (rngB 45 92 [9, 10, 11, 12]) (fun (ss : Nat × Value × (List (Int × Int))) => [(10, .int .i64 ((ss.1 : Nat) : Int)), (9, ss.2.1)]) (fun (ss : Nat × Value × (List (Int × Int))) (hh : Heap) => OwE encP hh h.size 85 ss.2.1 ss.2.2 ∧ Ext h.size h hh ∧ (ss.1 ≤ ls.length ∧ ss.1 ≤ 20) ∧ (ss.2.2.length ≤ ss.1) ∧ (∀ j, j < ss.2.2.length → Go.X.inR (((1 + ur n % most) : Nat) : Int) (gt ss.2.2 j) = true)) (fun (ss : Nat × Value × (List (Int × Int))) => ls.length - ss.1) (0, .slice none 0 0, []) ⟨rfl, rfl, trivial⟩ ⟨?_, (Ext.refl _ _), ?_, ?_, ?_⟩ ?_
    · first | exact (owE_nil encP _ h.size 85) | (simpa using (owE_nil encP _ h.size 85))
    · try dsimp only
      omega
    · try dsimp only
      exact Nat.zero_le _
    · try dsimp only
      intro j hj; cases hj
    rintro g3 ⟨i, v, xs⟩ hh3 ⟨ho37, hx0_15, hi, hxl, hr⟩ IH3
    dsimp only at *
    refine wi_seq <| wi_seq <| wi_reg rfl <| lx_move (.int .i64 ((i : Nat) : Int)) rfl rfl <| lx_move (vl) rfl rfl <| lx_len rfl Try.underlying22 hr_vl rfl <| lx_lssS rfl rfl rfl (fun c14 => ?_) (fun c14 => ?_)
    · refine lx_move (.bool true) rfl rfl <| lx_move (.int .i64 ((i : Nat) : Int)) rfl rfl <| lx_lssS rfl rfl rfl (fun c15 => ?_) (fun c15 => ?_)
      · refine lx_pick true (.bool true) rfl rfl rfl <| lx_nil <| wi_true rfl <| wi_skip <| wi_seq <| wi_block <| wi_seq <| wi_draw mo rfl (by decide +kernel) <| ?_
        have hma := Nat.mod_lt (ur (gt ls i).1) (show 0 < 1 + ur n % most by omega)
        have hmb := Nat.mod_lt (ur (gt ls i).2) (show 0 < 1 + ur n % most by omega)
        refine lx_move (vl) rfl rfl <| lx_move (.int .i64 ((i : Nat) : Int)) rfl rfl <| lx_ix (i := i) rfl eT22 hr_vl rfl rfl (by omega) <| lx_ixP (i := i) (c := 0) rfl Try.underlying85 Try.sizeOf3 hr_vl (by omega) rfl rfl (by decide) <| lx_ld (i := i) (j := 0) (.int .i64 ((gt ls i).1)) rfl rfl fl3 (hr_vl.extS hx0_15) (by omega) rfl rfl <| lx_conv ((ur ((gt ls i).1) : Nat) : Int) rfl Try.underlying3 Try.underlying45 rfl (wrap_ur _) <| lx_move (.int .i64 ((1 + ((ur n) % most) : Nat) : Int)) rfl rfl <| lx_conv ((1 + ((ur n) % most) : Nat) : Int) rfl Try.underlying3 Try.underlying45 rfl (wrap_u64 (by omega) (by omega)) <| lx_rem (m := ur ((gt ls i).1)) (n := 1 + ((ur n) % most)) rfl rfl rfl (by omega) <| lx_conv (((ur ((gt ls i).1)) % (1 + ((ur n) % most)) : Nat) : Int) rfl Try.underlying45 Try.underlying3 rfl (wrap_i64 (by omega) (by omega)) <| lx_move (vl) rfl rfl <| lx_move (.int .i64 ((i : Nat) : Int)) rfl rfl <| lx_ix (i := i) rfl eT22 hr_vl rfl rfl (by omega) <| lx_ixP (i := i) (c := 1) rfl Try.underlying85 Try.sizeOf3 hr_vl (by omega) rfl rfl (by decide) <| lx_ld (i := i) (j := 1) (.int .i64 ((gt ls i).2)) rfl rfl fl3 (hr_vl.extS hx0_15) (by omega) rfl rfl <| lx_conv ((ur ((gt ls i).2) : Nat) : Int) rfl Try.underlying3 Try.underlying45 rfl (wrap_ur _) <| lx_move (.int .i64 ((1 + ((ur n) % most) : Nat) : Int)) rfl rfl <| lx_conv ((1 + ((ur n) % most) : Nat) : Int) rfl Try.underlying3 Try.underlying45 rfl (wrap_u64 (by omega) (by omega)) <| lx_rem (m := ur ((gt ls i).2)) (n := 1 + ((ur n) % most)) rfl rfl rfl (by omega) <| lx_conv (((ur ((gt ls i).2)) % (1 + ((ur n) % most)) : Nat) : Int) rfl Try.underlying45 Try.underlying3 rfl (wrap_i64 (by omega) (by omega)) <| lx_assign (.int .i64 (((ur ((gt ls i).1)) % (1 + ((ur n) % most)) : Nat) : Int)) rfl rfl <| lx_assign (.int .i64 (((ur ((gt ls i).2)) % (1 + ((ur n) % most)) : Nat) : Int)) rfl rfl <| lx_nil <| wi_seq <| wi_seq <| wi_reg rfl <| lx_move (.int .i64 (((ur ((gt ls i).1)) % (1 + ((ur n) % most)) : Nat) : Int)) rfl rfl <| lx_mul (((5 * ((ur ((gt ls i).1)) % (1 + ((ur n) % most))) : Nat) : Int)) rfl rfl rfl (by omega) (by omega) (by omega) <| lx_add (((5 * ((ur ((gt ls i).1)) % (1 + ((ur n) % most))) + 1 : Nat) : Int)) rfl rfl rfl (by omega) (by omega) (by omega) <| lx_rem (m := 5 * ((ur ((gt ls i).1)) % (1 + ((ur n) % most))) + 1) (n := 13) rfl rfl rfl (by omega) <| lx_move (.int .i64 (((ur ((gt ls i).2)) % (1 + ((ur n) % most)) : Nat) : Int)) rfl rfl <| lx_mul (((5 * ((ur ((gt ls i).2)) % (1 + ((ur n) % most))) : Nat) : Int)) rfl rfl rfl (by omega) (by omega) (by omega) <| lx_add (((5 * ((ur ((gt ls i).2)) % (1 + ((ur n) % most))) + 1 : Nat) : Int)) rfl rfl rfl (by omega) (by omega) (by omega) <| lx_rem (m := 5 * ((ur ((gt ls i).2)) % (1 + ((ur n) % most))) + 1) (n := 13) rfl rfl rfl (by omega) <| lx_gtrS rfl rfl rfl (fun c16 => ?_) (fun c16 => ?_)
        · refine lx_nil <| wi_true rfl <| wi_reg rfl <| lx_move (.int .i64 (((ur ((gt ls i).2)) % (1 + ((ur n) % most)) : Nat) : Int)) rfl rfl <| lx_move (.int .i64 (((ur ((gt ls i).1)) % (1 + ((ur n) % most)) : Nat) : Int)) rfl rfl <| lx_assign (.int .i64 (((ur ((gt ls i).2)) % (1 + ((ur n) % most)) : Nat) : Int)) rfl rfl <| lx_assign (.int .i64 (((ur ((gt ls i).1)) % (1 + ((ur n) % most)) : Nat) : Int)) rfl rfl <| lx_nil <| wi_reg rfl <| lx_move (v) rfl rfl <| lx_move (.int .i64 (((ur ((gt ls i).2)) % (1 + ((ur n) % most)) : Nat) : Int)) rfl rfl <| lx_move (.int .i64 (((ur ((gt ls i).1)) % (1 + ((ur n) % most)) : Nat) : Int)) rfl rfl <| lx_build (.agg #[.int .i64 (((ur ((gt ls i).2)) % (1 + ((ur n) % most)) : Nat) : Int), .int .i64 (((ur ((gt ls i).1)) % (1 + ((ur n) % most)) : Nat) : Int)]) [(0, .int .i64 (((ur ((gt ls i).2)) % (1 + ((ur n) % most)) : Nat) : Int)), (1, .int .i64 (((ur ((gt ls i).1)) % (1 + ((ur n) % most)) : Nat) : Int))] rfl rfl (fun w => bld85_2 _ _ w) <| lx_appendL (E := encP) (B := h.size) [((((ur ((gt ls i).2)) % (1 + ((ur n) % most)) : Nat) : Int), (((ur ((gt ls i).1)) % (1 + ((ur n) % most)) : Nat) : Int))] [.agg #[.int .i64 (((ur ((gt ls i).2)) % (1 + ((ur n) % most)) : Nat) : Int), .int .i64 (((ur ((gt ls i).1)) % (1 + ((ur n) % most)) : Nat) : Int)]] rfl rfl (fun _ => rfl) rfl eT22 rfl rfl rfl rfl ho37 (fun _ => rfl) (by show xs.length + 1 ≤ _; omega) (by show (xs.length + 1) * 16 ≤ _; omega) hx0_15.size (fun _ _ => trivial) fun u5 v5 h14 ho38 hc5 hg5 => ?_
          have hx0_16 := hx0_15.trans (ho37.ext hc5 hx0_15.size)
          refine lx_assign (v5) rfl rfl <| lx_nil <| wi_inBlock <| wi_reg rfl <| lx_move (.int .i64 ((i : Nat) : Int)) rfl rfl <| lx_add (((i + 1 : Nat) : Int)) rfl rfl rfl (by omega) (by omega) (by omega) <| lx_assign (.int .i64 ((i + 1 : Nat) : Int)) rfl rfl <| lx_nil <| ?_
          -- L0.1
          refine IH3 _ _ (i + 1, v5, xs ++ [((((ur ((gt ls i).2)) % (1 + ((ur n) % most)) : Nat) : Int), (((ur ((gt ls i).1)) % (1 + ((ur n) % most)) : Nat) : Int))]) (agree_ups rfl agree_self) ⟨rfl, rfl, trivial⟩ ⟨?_, hx0_16, ?_, ?_, ?_⟩ ?_
          · first | exact ho38 | (simpa using ho38)
          · try dsimp only
            omega
          · try dsimp only
            first | omega | (simp only [List.length_append, List.length_cons, List.length_nil]; omega)
          · try dsimp only
            intro j hj
            rw [List.length_append, List.length_cons, List.length_nil] at hj
            by_cases e : j < xs.length
            · rw [gt_append_left e]; exact hr j e
            · rw [show j = xs.length from by omega, gt_append_right]
              exact Go.X.inR_iff.2 ⟨by show (0 : Int) ≤ ((_ : Nat) : Int); omega, by show (0 : Int) ≤ ((_ : Nat) : Int); omega, by show ((_ : Nat) : Int) < _; omega, by show ((_ : Nat) : Int) < _; omega⟩
          · first | omega | (dsimp only; omega)
        · refine lx_nil <| wi_false rfl <| wi_skip <| wi_reg rfl <| lx_move (v) rfl rfl <| lx_move (.int .i64 (((ur ((gt ls i).1)) % (1 + ((ur n) % most)) : Nat) : Int)) rfl rfl <| lx_move (.int .i64 (((ur ((gt ls i).2)) % (1 + ((ur n) % most)) : Nat) : Int)) rfl rfl <| lx_build (.agg #[.int .i64 (((ur ((gt ls i).1)) % (1 + ((ur n) % most)) : Nat) : Int), .int .i64 (((ur ((gt ls i).2)) % (1 + ((ur n) % most)) : Nat) : Int)]) [(0, .int .i64 (((ur ((gt ls i).1)) % (1 + ((ur n) % most)) : Nat) : Int)), (1, .int .i64 (((ur ((gt ls i).2)) % (1 + ((ur n) % most)) : Nat) : Int))] rfl rfl (fun w => bld85_2 _ _ w) <| lx_appendL (E := encP) (B := h.size) [((((ur ((gt ls i).1)) % (1 + ((ur n) % most)) : Nat) : Int), (((ur ((gt ls i).2)) % (1 + ((ur n) % most)) : Nat) : Int))] [.agg #[.int .i64 (((ur ((gt ls i).1)) % (1 + ((ur n) % most)) : Nat) : Int), .int .i64 (((ur ((gt ls i).2)) % (1 + ((ur n) % most)) : Nat) : Int)]] rfl rfl (fun _ => rfl) rfl eT22 rfl rfl rfl rfl ho37 (fun _ => rfl) (by show xs.length + 1 ≤ _; omega) (by show (xs.length + 1) * 16 ≤ _; omega) hx0_15.size (fun _ _ => trivial) fun u6 v6 h15 ho39 hc6 hg6 => ?_
          have hx0_17 := hx0_15.trans (ho37.ext hc6 hx0_15.size)
          refine lx_assign (v6) rfl rfl <| lx_nil <| wi_inBlock <| wi_reg rfl <| lx_move (.int .i64 ((i : Nat) : Int)) rfl rfl <| lx_add (((i + 1 : Nat) : Int)) rfl rfl rfl (by omega) (by omega) (by omega) <| lx_assign (.int .i64 ((i + 1 : Nat) : Int)) rfl rfl <| lx_nil <| ?_
          -- L0.2
          refine IH3 _ _ (i + 1, v6, xs ++ [((((ur ((gt ls i).1)) % (1 + ((ur n) % most)) : Nat) : Int), (((ur ((gt ls i).2)) % (1 + ((ur n) % most)) : Nat) : Int))]) (agree_ups rfl agree_self) ⟨rfl, rfl, trivial⟩ ⟨?_, hx0_17, ?_, ?_, ?_⟩ ?_
          · first | exact ho39 | (simpa using ho39)
          · try dsimp only
            omega
          · try dsimp only
            first | omega | (simp only [List.length_append, List.length_cons, List.length_nil]; omega)
          · try dsimp only
            intro j hj
            rw [List.length_append, List.length_cons, List.length_nil] at hj
            by_cases e : j < xs.length
            · rw [gt_append_left e]; exact hr j e
            · rw [show j = xs.length from by omega, gt_append_right]
              exact Go.X.inR_iff.2 ⟨by show (0 : Int) ≤ ((_ : Nat) : Int); omega, by show (0 : Int) ≤ ((_ : Nat) : Int); omega, by show ((_ : Nat) : Int) < _; omega, by show ((_ : Nat) : Int) < _; omega⟩
          · first | omega | (dsimp only; omega)
      · refine lx_pick true (.bool false) rfl rfl rfl <| lx_nil <| wi_false rfl <| wi_exit rfl <| wi_seq <| wi_reg rfl <| lx_move (.int .i64 ((1 + ((ur n) % most) : Nat) : Int)) rfl rfl <| lx_move (v) rfl rfl <| lx_call [.int .i64 ((1 + ((ur n) % most) : Nat) : Int), v] rfl rfl Try.call64 rfl (rclosure_spec hh3 (1 + ((ur n) % most)) v xs ho37.rd (by omega) (by omega) hr) (fun _ _ _ => trivial) ?_
        rintro _ h16 ⟨vr, hsr, rfl, ho40, hot23, hx10⟩
        have hx0_18 := hx0_15.trans2 hx10 hx0_15.size
        have ho41 := ho37.extS hx10
        have ho42 := ho40.base hx0_15.size
        have hot24 := hot23.base hx0_15.size
        have hl_hot24 := hot24.1
        refine lx_move (.tuple #[vr, .bool (ordB (1 + ((ur n) % most)) (closW (1 + ((ur n) % most)) xs))]) rfl rfl <| lx_extract (vr) rfl rfl rfl <| lx_extract (.bool (ordB (1 + ((ur n) % most)) (closW (1 + ((ur n) % most)) xs))) rfl rfl rfl <| lx_assign (vr) rfl rfl <| lx_assign (.bool (ordB (1 + ((ur n) % most)) (closW (1 + ((ur n) % most)) xs))) rfl rfl <| lx_nil <| wi_seq <| wi_seq <| wi_reg rfl <| lx_move (.bool (ordB (1 + ((ur n) % most)) (closW (1 + ((ur n) % most)) xs))) rfl rfl <| lx_not rfl rfl <| lx_nil <| wi_condS (t := !(ordB (1 + ((ur n) % most)) (closW (1 + ((ur n) % most)) xs))) rfl (fun c17 => ?_) (fun c17 => ?_)
        · refine wi_reg rfl <| lx_move (.int .i64 ((1 + ((ur n) % most) : Nat) : Int)) rfl rfl <| lx_call [.int .i64 ((1 + ((ur n) % most) : Nat) : Int), .slice none 0 0] rfl rfl Try.call64 rfl (rclosure_spec h16 (1 + ((ur n) % most)) ((.slice none 0 0)) ([]) (owE_nil encP _ 0 0).rd (by omega) (by decide) (fun j hj => by cases hj)) (fun _ _ _ => trivial) ?_
          rintro _ h17 ⟨vz, hsz, rfl, ho43, hot25, hx11⟩
          have hx0_19 := hx0_18.trans2 hx11 hx0_18.size
          have ho44 := ho41.extS hx11
          have ho45 := ho42.extS hx11
          have hot26 := hot24.extS hx11
          have ho46 := ho43.base hx0_18.size
          have hot27 := hot25.base hx0_18.size
          have hl_hot27 := hot27.1
          refine lx_move (.tuple #[vz, .bool (ordB (1 + ((ur n) % most)) (closW (1 + ((ur n) % most)) ([])))]) rfl rfl <| lx_extract (vz) rfl rfl rfl <| lx_extract (.bool (ordB (1 + ((ur n) % most)) (closW (1 + ((ur n) % most)) ([])))) rfl rfl rfl <| lx_assign (vz) rfl rfl <| lx_nil <| wi_seq <| wi_reg rfl <| lx_move (vz) rfl rfl <| lx_assign (vz) rfl rfl <| lx_nil <| ?_
          -- R10
          refine wi_ret ⟨vz, (res_one rfl rfl), ⟨vz, hsz, tabF (1 + ((ur n) % most)) (closW (1 + ((ur n) % most)) ([])), rfl, ho46, hot27, ?_, hx0_19⟩⟩
          · first
            | exact ⟨isT_tabF (ordB_iff.1 (by simpa using ‹(!ordB (1 + ur n % most) (closW (1 + ur n % most) xs)) = false›)), by rw [tabF_length]; omega, by rw [tabF_length]; omega⟩
            | exact ⟨isT_tabF (up_order fun d hd => by cases hd), by rw [tabF_length]; omega, by rw [tabF_length]; omega⟩
        · refine wi_skip <| wi_seq <| wi_reg rfl <| lx_move (vr) rfl rfl <| lx_assign (vr) rfl rfl <| lx_nil <| ?_
          -- R11
          refine wi_ret ⟨vr, (res_one rfl rfl), ⟨vr, hsr, tabF (1 + ((ur n) % most)) (closW (1 + ((ur n) % most)) xs), rfl, ho42, hot24, ?_, hx0_18⟩⟩
          · first
            | exact ⟨isT_tabF (ordB_iff.1 (by simpa using ‹(!ordB (1 + ur n % most) (closW (1 + ur n % most) xs)) = false›)), by rw [tabF_length]; omega, by rw [tabF_length]; omega⟩
            | exact ⟨isT_tabF (up_order fun d hd => by cases hd), by rw [tabF_length]; omega, by rw [tabF_length]; omega⟩
    · refine lx_move (.bool false) rfl rfl <| lx_skip rfl <| lx_skip rfl <| lx_pick false (.bool false) rfl rfl rfl <| lx_nil <| wi_false rfl <| wi_exit rfl <| wi_seq <| wi_reg rfl <| lx_move (.int .i64 ((1 + ((ur n) % most) : Nat) : Int)) rfl rfl <| lx_move (v) rfl rfl <| lx_call [.int .i64 ((1 + ((ur n) % most) : Nat) : Int), v] rfl rfl Try.call64 rfl (rclosure_spec hh3 (1 + ((ur n) % most)) v xs ho37.rd (by omega) (by omega) hr) (fun _ _ _ => trivial) ?_
      rintro _ h18 ⟨vr, hsr, rfl, ho47, hot28, hx12⟩
      have hx0_20 := hx0_15.trans2 hx12 hx0_15.size
      have ho48 := ho37.extS hx12
      have ho49 := ho47.base hx0_15.size
      have hot29 := hot28.base hx0_15.size
      have hl_hot29 := hot29.1
      refine lx_move (.tuple #[vr, .bool (ordB (1 + ((ur n) % most)) (closW (1 + ((ur n) % most)) xs))]) rfl rfl <| lx_extract (vr) rfl rfl rfl <| lx_extract (.bool (ordB (1 + ((ur n) % most)) (closW (1 + ((ur n) % most)) xs))) rfl rfl rfl <| lx_assign (vr) rfl rfl <| lx_assign (.bool (ordB (1 + ((ur n) % most)) (closW (1 + ((ur n) % most)) xs))) rfl rfl <| lx_nil <| wi_seq <| wi_seq <| wi_reg rfl <| lx_move (.bool (ordB (1 + ((ur n) % most)) (closW (1 + ((ur n) % most)) xs))) rfl rfl <| lx_not rfl rfl <| lx_nil <| wi_condS (t := !(ordB (1 + ((ur n) % most)) (closW (1 + ((ur n) % most)) xs))) rfl (fun c18 => ?_) (fun c18 => ?_)
      · refine wi_reg rfl <| lx_move (.int .i64 ((1 + ((ur n) % most) : Nat) : Int)) rfl rfl <| lx_call [.int .i64 ((1 + ((ur n) % most) : Nat) : Int), .slice none 0 0] rfl rfl Try.call64 rfl (rclosure_spec h18 (1 + ((ur n) % most)) ((.slice none 0 0)) ([]) (owE_nil encP _ 0 0).rd (by omega) (by decide) (fun j hj => by cases hj)) (fun _ _ _ => trivial) ?_
        rintro _ h19 ⟨vz, hsz, rfl, ho50, hot30, hx13⟩
        have hx0_21 := hx0_20.trans2 hx13 hx0_20.size
        have ho51 := ho48.extS hx13
        have ho52 := ho49.extS hx13
        have hot31 := hot29.extS hx13
        have ho53 := ho50.base hx0_20.size
        have hot32 := hot30.base hx0_20.size
        have hl_hot32 := hot32.1
        refine lx_move (.tuple #[vz, .bool (ordB (1 + ((ur n) % most)) (closW (1 + ((ur n) % most)) ([])))]) rfl rfl <| lx_extract (vz) rfl rfl rfl <| lx_extract (.bool (ordB (1 + ((ur n) % most)) (closW (1 + ((ur n) % most)) ([])))) rfl rfl rfl <| lx_assign (vz) rfl rfl <| lx_nil <| wi_seq <| wi_reg rfl <| lx_move (vz) rfl rfl <| lx_assign (vz) rfl rfl <| lx_nil <| ?_
        -- R12
        refine wi_ret ⟨vz, (res_one rfl rfl), ⟨vz, hsz, tabF (1 + ((ur n) % most)) (closW (1 + ((ur n) % most)) ([])), rfl, ho53, hot32, ?_, hx0_21⟩⟩
        · first
          | exact ⟨isT_tabF (ordB_iff.1 (by simpa using ‹(!ordB (1 + ur n % most) (closW (1 + ur n % most) xs)) = false›)), by rw [tabF_length]; omega, by rw [tabF_length]; omega⟩
          | exact ⟨isT_tabF (up_order fun d hd => by cases hd), by rw [tabF_length]; omega, by rw [tabF_length]; omega⟩
      · refine wi_skip <| wi_seq <| wi_reg rfl <| lx_move (vr) rfl rfl <| lx_assign (vr) rfl rfl <| lx_nil <| ?_
        -- R13
        refine wi_ret ⟨vr, (res_one rfl rfl), ⟨vr, hsr, tabF (1 + ((ur n) % most)) (closW (1 + ((ur n) % most)) xs), rfl, ho49, hot29, ?_, hx0_20⟩⟩
        · first
          | exact ⟨isT_tabF (ordB_iff.1 (by simpa using ‹(!ordB (1 + ur n % most) (closW (1 + ur n % most) xs)) = false›)), by rw [tabF_length]; omega, by rw [tabF_length]; omega⟩
          | exact ⟨isT_tabF (up_order fun d hd => by cases hd), by rw [tabF_length]; omega, by rw [tabF_length]; omega⟩

end Go.Proofs.Ytdokijbdnajhgaa
namespace Go.X

end Go.X
namespace Go.Proofs.Ytdokijbdnajhgaa
open Go Go.X

end Go.Proofs.Ytdokijbdnajhgaa
namespace Go.Proofs.Ytdokijbdnajhgaa
open Go Go.X

def idoC (p : List (List Bool)) : Int := if chkT p = 0 then (if (idealsF p.length (pb p)).length ≤ 12 then 0 else 1) else chkT p
theorem idl_nb {n : Nat} {f : Nat → Nat → Bool} (hn : n ≤ 12) : (idealsF n f).length ≤ 4096 ∧ ∀ i, i < (idealsF n f).length → 0 ≤ gt (idealsF n f) i ∧ gt (idealsF n f) i < 4096 := by
  have hp := pow12 hn
  have h1 := filtF_length (2 ^ n) (idlB n f)
  refine ⟨by unfold idealsF; omega, fun i hi => ?_⟩
  obtain ⟨a, h2, h3, _⟩ := filtF_gt hi
  have h4 : gt (idealsF n f) i = (a : Int) := h2
  omega
set_option maxRecDepth 10000 in
theorem idealOrder_spec (h : Heap) (vp : Value) (hs : List Hdr) (p : List (List Bool)) (hr_vp : RdE encHd h vp hs) (ht_vp : RT encB h hs p) (hp1 : p.length ≤ 1000000) (hp2 : ∀ i, i < p.length → (gt p i).length ≤ 1000000) : Fx Try.prog 17 [vp] h (fun v h' => ∃ (s : Value) (hs1 : List Hdr) (r : List (List Bool)), v = .tuple #[s, .int .i64 (idoC p)] ∧ OwE encHd h' h.size 70 s hs1 ∧ OT encB h' h.size 4 hs1 r ∧ ((idoC p ≠ 0 ∧ r = []) ∨ (idoC p = 0 ∧ r = tabF (idealsF p.length (pb p)).length (incF (idealsF p.length (pb p))))) ∧ Ext h.size h h') := by
  have hl_vp := ht_vp.1
  refine fx_intro (n := 18) [(0, vp)] Try.func17 rfl rfl (by simp) ⟨rfl, trivial⟩ fun g0 => ?_
  refine wi_seq <| wi_reg rfl <| lx_assign (.slice none 0 0) rfl rfl <| lx_assign (.int .i64 0) rfl rfl <| lx_nil <| wi_seq <| wi_seq <| wi_reg rfl <| lx_move (vp) rfl rfl <| lx_call [vp] rfl rfl Try.call62 rfl (ocheck_spec h vp hs p hr_vp ht_vp (by omega) (by first | with_reducible assumption | omega)) (fun _ _ _ => trivial) ?_
  rintro _ h1 ⟨rfl, hx1⟩
  refine lx_assign (.int .i64 (chkT p)) rfl rfl <| lx_nil <| wi_seq <| wi_reg rfl <| lx_move (.int .i64 (chkT p)) rfl rfl <| lx_neqS rfl rfl rfl (fun c1 => ?_) (fun c1 => ?_)
  · refine lx_nil <| wi_true rfl <| wi_seq <| wi_reg rfl <| lx_move (.int .i64 (chkT p)) rfl rfl <| lx_assign (.slice none 0 0) rfl rfl <| lx_assign (.int .i64 (chkT p)) rfl rfl <| lx_nil <| ?_
    -- R1
    refine wi_ret ⟨.tuple #[.slice none 0 0, .int .i64 (chkT p)], (res_two rfl rfl rfl), ⟨.slice none 0 0, [], [], ?_, (owE_nil encHd _ h.size 70), (OT.nil encB _ h.size 4), ?_, hx1⟩⟩
    · rw [show idoC p = chkT p from if_neg (by omega)]
    · exact .inl ⟨by rw [show idoC p = chkT p from if_neg (by omega)]; omega, rfl⟩
  · refine lx_nil <| wi_false rfl <| wi_skip <| wi_seq <| wi_reg rfl <| ?_
    have hok := chkT_ok (p := p) (by omega)
    have hp12 : p.length ≤ 12 := hok.2.1
    have hpq : Sq p p.length := isT_sq hok.2.2
    refine lx_move (vp) rfl rfl <| lx_call [vp] rfl rfl Try.call76 rfl (ideals_spec h1 vp hs p (hr_vp.extS hx1) (ht_vp.extS hx1) (by omega) (by first | with_reducible assumption | omega)) (fun _ _ _ => trivial) ?_
    rintro v1 h2 ⟨_, rfl, ho1, hx2⟩
    have hx0_1 := hx1.trans2 hx2 hx1.size
    have ho2 := ho1.base hx1.size
    refine lx_assign (v1) rfl rfl <| lx_nil <| wi_seq <| wi_seq <| wi_reg rfl <| ?_
    have hnb := idl_nb (f := pb p) hp12
    refine lx_move (v1) rfl rfl <| lx_len rfl Try.underlying25 ho2.rd rfl <| lx_gtrS rfl rfl rfl (fun c2 => ?_) (fun c2 => ?_)
    · refine lx_nil <| wi_true rfl <| wi_seq <| wi_reg rfl <| ?_
      have hic : idoC p = 1 := by unfold idoC; rw [if_pos (by omega), if_neg (by omega)]
      refine lx_assign (.slice none 0 0) rfl rfl <| lx_assign (.int .i64 1) rfl rfl <| lx_nil <| ?_
      -- R2
      refine wi_ret ⟨.tuple #[.slice none 0 0, .int .i64 1], (res_two rfl rfl rfl), ⟨.slice none 0 0, [], [], ?_, (owE_nil encHd _ h.size 70), (OT.nil encB _ h.size 4), ?_, hx0_1⟩⟩
      · rw [hic]
      · exact .inl ⟨by rw [hic]; omega, rfl⟩
    · refine lx_nil <| wi_false rfl <| wi_skip <| wi_seq <| wi_reg rfl <| ?_
      have hic : idoC p = 0 := by unfold idoC; rw [if_pos (by omega), if_pos (by omega)]
      refine lx_move (v1) rfl rfl <| lx_call [v1] rfl rfl Try.call77 rfl (inclusion_spec h2 v1 (idealsF p.length (pb p)) ho2.rd (by omega) hnb.2) (fun _ _ _ => trivial) ?_
      rintro v2 h3 ⟨_, hs_1, rfl, ho3, hot1, hx3⟩
      have hx0_2 := hx0_1.trans2 hx3 hx0_1.size
      have ho4 := ho2.extS hx3
      have ho5 := ho3.base hx0_1.size
      have hot2 := hot1.base hx0_1.size
      have hl_hot2 := hot2.1
      refine lx_assign (v2) rfl rfl <| lx_assign (.int .i64 0) rfl rfl <| lx_nil <| ?_
      -- R3
      refine wi_ret ⟨.tuple #[v2, .int .i64 0], (res_two rfl rfl rfl), ⟨v2, hs_1, tabF (idealsF p.length (pb p)).length (incF (idealsF p.length (pb p))), ?_, ho5, hot2, ?_, hx0_2⟩⟩
      · rw [hic]
      · exact .inr ⟨hic, rfl⟩

theorem tab_le {n : Nat} {f : Nat → Nat → Bool} {r : List (List Bool)} (e : r = tabF n f) (hn : n ≤ 4096) : r.length ≤ 4096 ∧ ∀ i, i < r.length → (gt r i).length ≤ 4096 := by
  subst e
  refine ⟨by rw [tabF_length]; exact hn, fun i hi => ?_⟩
  rw [tabF_length] at hi
  rw [gt_tabF hi, rowF_length]; exact hn
theorem chkT_zero {p : List (List Bool)} (h1 : 1 ≤ p.length) (h2 : p.length ≤ 12) (h3 : isT p = true) : chkT p = 0 := by
  rw [sq_self (isT_sq h3), chkT_tabF h1 h2, if_pos (ordB_iff.2 (isT_o h3))]

end Go.Proofs.Ytdokijbdnajhgaa
namespace Go.Proofs.Ytdokijbdnajhgaa
open Go Go.X

theorem jnB_congr {n x y z : Nat} {f g : Nat → Nat → Bool} (h : ∀ x y, x < n → y < n → f x y = g x y) (hx : x < n) (hy : y < n) (hz : z < n) : jnB n f x y z = jnB n g x y z := by
  rw [Bool.eq_iff_iff, jnB_iff, jnB_iff, h x z hx hz, h y z hy hz]
  refine and_congr_right fun _ => and_congr_right fun _ => ⟨fun k w hw a b => ?_, fun k w hw a b => ?_⟩
  · rw [← h z w hz hw]; exact k w hw (by rw [h x w hx hw]; exact a) (by rw [h y w hy hw]; exact b)
  · rw [h z w hz hw]; exact k w hw (by rw [← h x w hx hw]; exact a) (by rw [← h y w hy hw]; exact b)
theorem join_congr {n x y : Nat} {f g : Nat → Nat → Bool} (h : ∀ x y, x < n → y < n → f x y = g x y) (hx : x < n) (hy : y < n) : joinF n f x y = joinF n g x y := firstF_congr fun z hz => jnB_congr h hx hy hz
end Go.Proofs.Ytdokijbdnajhgaa
namespace Go.Proofs.Ytdokijbdnajhgaa
open Go Go.X

end Go.Proofs.Ytdokijbdnajhgaa
namespace Go.Proofs.Ytdokijbdnajhgaa
open Go Go.X

/-- The join elements that are at most an element, by their indices. -/
def birK (f : Nat → Nat → Bool) (al : List Int) (k x : Nat) : Nat := colN k fun q => f (gt al q).toNat x
def birF (n : Nat) (f : Nat → Nat → Bool) : List Int := mapR n fun x => ((birK f (jelF n f) (jelF n f).length x : Nat) : Int)
theorem birK_yes {f : Nat → Nat → Bool} {al : List Int} {k x : Nat} (h : f (gt al k).toNat x = true) : birK f al k x ||| 1 * 2 ^ k = birK f al (k + 1) x := colN_set (g := fun q => f (gt al q).toNat x) h
theorem birK_no {f : Nat → Nat → Bool} {al : List Int} {k x : Nat} (h : f (gt al k).toNat x = false) : birK f al k x = birK f al (k + 1) x := colN_skip (g := fun q => f (gt al q).toNat x) h
theorem birK_lt (f : Nat → Nat → Bool) (al : List Int) (k x : Nat) : birK f al k x < 2 ^ k := colN_lt k _
theorem jel_at {n k : Nat} {f : Nat → Nat → Bool} (h : k < (jelF n f).length) : ∃ a : Nat, gt (jelF n f) k = (a : Int) ∧ a < n ∧ jelB n f a = true := filtF_gt h
theorem jel_len (n : Nat) (f : Nat → Nat → Bool) : (jelF n f).length ≤ n := filtF_length _ _
end Go.Proofs.Ytdokijbdnajhgaa
namespace Go.Proofs.Ytdokijbdnajhgaa
open Go Go.X

end Go.Proofs.Ytdokijbdnajhgaa
namespace Go.Proofs.Ytdokijbdnajhgaa
open Go Go.X

end Go.Proofs.Ytdokijbdnajhgaa
namespace Go.Proofs.Ytdokijbdnajhgaa
open Go Go.X

end Go.Proofs.Ytdokijbdnajhgaa
namespace Go.Proofs.Ytdokijbdnajhgaa
open Go Go.X

theorem opnC_of {p : List (List Bool)} (h : chkT p = 0) (hg : ngB p.length (pb p) = true) : opnC p = 0 := by unfold opnC; rw [if_pos h, if_pos hg]
/-- What is wrong with a lattice that is to be distributive. -/
def birC (p : List (List Bool)) : Int := if opnC p = 0 then (if distB p.length (pb p) then 0 else 91) else opnC p
end Go.Proofs.Ytdokijbdnajhgaa
namespace Go.Proofs.Ytdokijbdnajhgaa
open Go Go.X

theorem badR_dist {n o a b c i : Nat} {f : Nat → Nat → Bool} {bb : Bool} (ho : IsO n f) (hg : noGap n f) (h : badR n f o a b c i bb) : bb = !distB n f := by
  rcases h with ⟨h1, h2, h3, h4, h5, h6, h7⟩ | ⟨h1, _, h2⟩
  · rw [h1]
    cases hd : distB n f
    · rfl
    · exfalso
      refine (dist_bad ho hg).1 hd a b c h4 h5 h6 ?_
      have e1 := h2.2.1
      have e2 := h2.2.2.1
      rw [e1, e2]; exact h2
  · rw [h1, (dist_bad ho hg).2 fun a b c ha hb hc => h2 a b c ha hb hc]; rfl
theorem birC_of {p : List (List Bool)} (h : opnC p = 0) {bb : Bool} (hb : bb = !distB p.length (pb p)) : birC p = if bb then 91 else 0 := by
  unfold birC
  rw [if_pos h, hb]
  cases distB p.length (pb p) <;> rfl

set_option maxRecDepth 10000 in
theorem obirk_spec (h : Heap) (vp : Value) (hs : List Hdr) (p : List (List Bool)) (hr_vp : RdE encHd h vp hs) (ht_vp : RT encB h hs p) (hp1 : p.length ≤ 1000000) (hp2 : ∀ i, i < p.length → (gt p i).length ≤ 1000000) : Fx Try.prog 34 [vp] h (fun v h' => ∃ (s : Value) (xs : List Int), v = .tuple #[s, .int .i64 (birC p)] ∧ OwE encI h' h.size 3 s xs ∧ (xs = if birC p = 0 then birF p.length (pb p) else []) ∧ Ext h.size h h') := by
  have hl_vp := ht_vp.1
  refine fx_intro (n := 62) [(0, vp)] Try.func34 rfl rfl (by simp) ⟨rfl, trivial⟩ fun g0 => ?_
  refine wi_seq <| wi_reg rfl <| lx_assign (.slice none 0 0) rfl rfl <| lx_assign (.int .i64 0) rfl rfl <| lx_nil <| wi_seq <| wi_reg rfl <| lx_move (vp) rfl rfl <| lx_call [vp] rfl rfl Try.call92 rfl (open_spec h vp hs p hr_vp ht_vp (by omega) (by first | with_reducible assumption | omega)) (fun _ _ _ => trivial) ?_
  rintro _ h1 ⟨vj, vm, hj, hm, rj, rm, rfl, ho1, hot1, ho2, hot2, hop, hx1⟩
  have ho3 := ho1.base (Nat.le_refl h.size)
  have hot3 := hot1.base (Nat.le_refl h.size)
  have hl_hot3 := hot3.1
  have ho4 := ho2.base (Nat.le_refl h.size)
  have hot4 := hot2.base (Nat.le_refl h.size)
  have hl_hot4 := hot4.1
  refine lx_move (.tuple #[.agg #[vj, vm], .int .i64 (opnC p)]) rfl rfl <| lx_extract (.agg #[vj, vm]) rfl rfl rfl <| lx_extract (.int .i64 (opnC p)) rfl rfl rfl <| lx_alloc rfl rfl Try.zeroValue119 (fun _ _ _ => trivial) fun bn1 h2 hbn1 hbk1 hx2 hsz1 => ?_
  have hbb1 : h.size ≤ bn1 := by have := hx1.size; omega
  have hdj1 : Value.ownBlock vj ≠ some bn1 := by intro e; have := (ho3.lt e).2; omega
  have hnb1 : Nbt hj bn1 := nbt_new hot3 (by omega)
  have hdj2 : Value.ownBlock vm ≠ some bn1 := by intro e; have := (ho4.lt e).2; omega
  have hnb2 : Nbt hm bn1 := nbt_new hot4 (by omega)
  have hx0_1 := hx1.trans2 hx2 hx1.size
  have ho5 := ho3.extS hx2
  have hot5 := hot3.extS hx2
  have ho6 := ho4.extS hx2
  have hot6 := hot4.extS hx2
  have hbk1 : Blk h2 bn1 #[.slice none 0 0, .slice none 0 0] 119 := hbk1
  refine lx_stBA (#[vj, vm]) rfl rfl Try.sizeOf119 hbk1 rfl rfl rfl rfl (one2 (sl_one ho5.rd) (sl_one ho6.rd)) (fun _ _ _ _ => trivial) fun h3 hbk2 hc1 => ?_
  have hx0_2 := hx0_1.trans (hc1.ext hbb1)
  have ho7 := hc1.owE ho5 hdj1
  have hot7 := hot5.chgB hc1 hnb1
  have ho8 := hc1.owE ho6 hdj2
  have hot8 := hot6.chgB hc1 hnb2
  refine lx_assign (.int .i64 (opnC p)) rfl rfl <| lx_nil <| wi_seq <| wi_seq <| wi_reg rfl <| lx_move (.int .i64 (opnC p)) rfl rfl <| lx_neqS rfl rfl rfl (fun c1 => ?_) (fun c1 => ?_)
  · refine lx_nil <| wi_true rfl <| wi_seq <| wi_reg rfl <| lx_move (.int .i64 (opnC p)) rfl rfl <| lx_assign (.slice none 0 0) rfl rfl <| lx_assign (.int .i64 (opnC p)) rfl rfl <| lx_nil <| ?_
    have h9 : birC p = opnC p := if_neg (by omega)
    -- R1
    refine wi_ret ⟨.tuple #[.slice none 0 0, .int .i64 (opnC p)], (res_two rfl rfl rfl), ⟨.slice none 0 0, [], ?_, (owE_nil encI _ h.size 3), ?_, hx0_2⟩⟩
    · rw [h9]
    · rw [if_neg (by omega)]
  · refine lx_nil <| wi_false rfl <| wi_skip <| wi_seq <| wi_seq <| wi_reg rfl <| ?_
    have hz := opnC_zero (p := p) (by omega)
    have hok := chkT_ok (p := p) hz.1
    have hp12 : p.length ≤ 12 := hok.2.1
    have hpq : Sq p p.length := isT_sq hok.2.2
    have hio := isT_o hok.2.2
    have hng : noGap p.length (pb p) := ngB_iff.1 hz.2
    obtain ⟨hrj, hrm⟩ : rj = tabI p.length (joinF p.length (pb p)) ∧ rm = tabI p.length (meetF p.length (pb p)) := opnP_ok hop (by omega)
    refine lx_ldBA rfl rfl wd119 hbk2 rfl rfl <| lx_move (vp) rfl rfl <| lx_call [.agg #[vj, vm], vp] rfl rfl Try.call94 rfl (bad_spec h3 vp hs p vj hj rj vm hm rm ho7.rd hot7.rt ho8.rd hot8.rt (hr_vp.extS hx0_2) (ht_vp.extS hx0_2) (by omega) (by first | with_reducible assumption | omega) hio hng hrj hrm) (fun _ _ _ => trivial) ?_
    rintro _ h4 ⟨xo, xa, xb, xc, xi, xbb, rfl, hxb, hx3⟩
    have hx0_3 := hx0_2.trans2 hx3 hx0_2.size
    have ho9 := ho7.extS hx3
    have hot9 := hot7.extS hx3
    have ho10 := ho8.extS hx3
    have hot10 := hot8.extS hx3
    have hb1 := hbk2.extS hx3
    refine lx_move (.tuple #[.agg #[.int .i64 ((xo : Nat) : Int), .int .i64 ((xa : Nat) : Int), .int .i64 ((xb : Nat) : Int), .int .i64 ((xc : Nat) : Int), .int .i64 ((xi : Nat) : Int)], .bool xbb]) rfl rfl <| lx_extract (.agg #[.int .i64 ((xo : Nat) : Int), .int .i64 ((xa : Nat) : Int), .int .i64 ((xb : Nat) : Int), .int .i64 ((xc : Nat) : Int), .int .i64 ((xi : Nat) : Int)]) rfl rfl rfl <| lx_extract (.bool xbb) rfl rfl rfl <| lx_alloc rfl rfl Try.zeroValue48 (fun _ _ _ => trivial) fun bn2 h5 hbn2 hbk3 hx4 hsz2 => ?_
    have hbb2 : h.size ≤ bn2 := by have := hx0_3.size; omega
    have hne1 : bn2 ≠ bn1 := by have := hb1.lt; omega
    have hdj3 : Value.ownBlock vj ≠ some bn2 := by intro e; have := (ho9.lt e).2; omega
    have hnb3 : Nbt hj bn2 := nbt_new hot9 (by omega)
    have hdj4 : Value.ownBlock vm ≠ some bn2 := by intro e; have := (ho10.lt e).2; omega
    have hnb4 : Nbt hm bn2 := nbt_new hot10 (by omega)
    have hx0_4 := hx0_3.trans2 hx4 hx0_3.size
    have ho11 := ho9.extS hx4
    have hot11 := hot9.extS hx4
    have ho12 := ho10.extS hx4
    have hot12 := hot10.extS hx4
    have hb2 := hb1.extS hx4
    have hbk3 : Blk h5 bn2 #[.int .i64 0, .int .i64 0, .int .i64 0, .int .i64 0, .int .i64 0] 48 := hbk3
    refine lx_stBA (#[.int .i64 ((xo : Nat) : Int), .int .i64 ((xa : Nat) : Int), .int .i64 ((xb : Nat) : Int), .int .i64 ((xc : Nat) : Int), .int .i64 ((xi : Nat) : Int)]) rfl rfl Try.sizeOf48 hbk3 rfl rfl rfl rfl (by simp [Value.oneCell']) (fun _ _ _ _ => trivial) fun h6 hbk4 hc2 => ?_
    have hx0_5 := hx0_4.trans (hc2.ext hbb2)
    have ho13 := hc2.owE ho11 hdj3
    have hot13 := hot11.chgB hc2 hnb3
    have ho14 := hc2.owE ho12 hdj4
    have hot14 := hot12.chgB hc2 hnb4
    have hb3 := hc2.blk hb2 (Ne.symm hne1)
    refine lx_assign (.bool xbb) rfl rfl <| lx_nil <| wi_seq <| wi_reg rfl <| lx_move (.bool xbb) rfl rfl <| lx_nil <| wi_condS (t := xbb) rfl (fun c2 => ?_) (fun c2 => ?_)
    · refine wi_seq <| wi_reg rfl <| ?_
      have hbc := birC_of (p := p) (by omega) (badR_dist hio hng hxb)
      rw [if_pos (by assumption)] at hbc
      refine lx_assign (.slice none 0 0) rfl rfl <| lx_assign (.int .i64 91) rfl rfl <| lx_nil <| ?_
      -- R2
      refine wi_ret ⟨.tuple #[.slice none 0 0, .int .i64 91], (res_two rfl rfl rfl), ⟨.slice none 0 0, [], ?_, (owE_nil encI _ h.size 3), ?_, hx0_5⟩⟩
      · rw [hbc]
      · rw [if_neg (by omega)]
    · refine wi_skip <| wi_seq <| wi_reg rfl <| ?_
      have hbc := birC_of (p := p) (by omega) (badR_dist hio hng hxb)
      rw [if_neg (by rw [show xbb = false from by assumption]; simp)] at hbc
      have hjl := jel_len p.length (pb p)
      refine lx_move (vp) rfl rfl <| lx_len rfl Try.underlying29 hr_vp rfl <| lx_make (E := encI) (n := hs.length) (B := h6.size) (0 : Int) rfl rfl Try.underlying25 (eZ25) rfl rfl (by omega) (by omega) (Nat.le_refl _) (fun _ _ => trivial) fun v1 h7 ho15 hx5 hvb1 => ?_
      have hx0_6 := hx0_5.trans2 hx5 hx0_5.size
      have ho16 := ho13.extS hx5
      have hot15 := hot13.extS hx5
      have ho17 := ho14.extS hx5
      have hot16 := hot14.extS hx5
      have hb4 := hb3.extS hx5
      have hb5 := hbk4.extS hx5
      have ho18 := ho15.base hx0_5.size
      refine lx_assign (v1) rfl rfl <| lx_nil <| wi_seq <| wi_seq <| wi_reg rfl <| lx_move (vp) rfl rfl <| lx_call [vp] rfl rfl Try.call93 rfl (joinElements_spec h7 vp hs p (hr_vp.extS hx0_6) (ht_vp.extS hx0_6) (by omega) hpq) (fun _ _ _ => trivial) ?_
      rintro v2 h8 ⟨_, rfl, ho19, hx6⟩
      have hx0_7 := hx0_6.trans2 hx6 hx0_6.size
      have ho20 := ho16.extS hx6
      have hot17 := hot15.extS hx6
      have ho21 := ho17.extS hx6
      have hot18 := hot16.extS hx6
      have ho22 := ho18.extS hx6
      have hb6 := hb4.extS hx6
      have hb7 := hb5.extS hx6
      have ho23 := ho19.base hx0_6.size
      refine lx_len rfl Try.underlying25 ho23.rd rfl <| lx_move (.int .i64 0) rfl rfl <| lx_nil <| wi_block <| ?_
      refine wi_loop (σ := Nat × (List Int)) (rngB 33 61 [9, 10, 11]) (fun (ss : Nat × (List Int)) => [(33, .int .i64 ((ss.1 : Nat) : Int))]) (fun (ss : Nat × (List Int)) (hh : Heap) => OwE encI hh h.size 3 v1 ss.2 ∧ OwE encI hh h.size 3 v2 ((jelF p.length (pb p))) ∧ Dj v1 v2 ∧ Ext h.size h hh ∧ (ss.1 ≤ (jelF p.length (pb p)).length) ∧ (ss.2 = mapR p.length fun q => ((birK (pb p) (jelF p.length (pb p)) ss.1 q : Nat) : Int))) (fun (ss : Nat × (List Int)) => (jelF p.length (pb p)).length - ss.1) (0, List.replicate hs.length (0 : Int)) ⟨rfl, trivial⟩ ⟨?_, ?_, (dj_new ho18 ho19), hx0_7, ?_, ?_⟩ ?_
      · first | exact ho22 | (simpa using ho22)
      · first | exact ho23 | (simpa using ho23)
      · try dsimp only
        omega
      · try dsimp only
        rw [hl_vp]; exact rep_mapR _ _
      rintro g1 ⟨k, xs⟩ hh1 ⟨ho24, ho25, hdj5, hx0_8, hk, hxs⟩ IH1
      dsimp only at *
      have hxl : xs.length = p.length := by rw [hxs]; exact mapR_len _ _
      refine wi_seq <| wi_reg rfl <| lx_lssS rfl rfl rfl (fun c3 => ?_) (fun c3 => ?_)
      · refine lx_nil <| wi_seq <| wi_true rfl <| wi_skip <| wi_seq <| wi_block <| wi_seq <| wi_reg rfl <| ?_
        obtain ⟨a, hga, ha4, _⟩ := jel_at (show k < (jelF p.length (pb p)).length by omega)
        refine lx_move (.int .i64 ((k : Nat) : Int)) rfl rfl <| lx_ix (i := k) rfl eT25 ho25.rd rfl rfl (by omega) <| lx_ld (i := k) (j := 0) (.int .i64 ((a : Nat) : Int)) rfl rfl fl3 ho25.rd (by omega) (by show some (Value.int .i64 (gt (jelF p.length (pb p)) k)) = _; rw [hga]) rfl <| lx_assign (.int .i64 ((k : Nat) : Int)) rfl rfl <| lx_assign (.int .i64 ((a : Nat) : Int)) rfl rfl <| lx_nil <| wi_seq <| wi_reg rfl <| lx_move (vp) rfl rfl <| lx_len rfl Try.underlying29 hr_vp rfl <| lx_move (.int .i64 0) rfl rfl <| lx_nil <| wi_block <| ?_
        refine wi_loop (σ := Nat × (List Int)) (rngB 40 60 [11]) (fun (ss : Nat × (List Int)) => [(40, .int .i64 ((ss.1 : Nat) : Int))]) (fun (ss : Nat × (List Int)) (hh : Heap) => OwE encI hh h.size 3 v1 ss.2 ∧ OwE encI hh h.size 3 v2 ((jelF p.length (pb p))) ∧ Dj v1 v2 ∧ Ext h.size h hh ∧ (ss.1 ≤ p.length) ∧ (ss.2 = mapR p.length fun q => if q < ss.1 then ((birK (pb p) (jelF p.length (pb p)) (k + 1) q : Nat) : Int) else ((birK (pb p) (jelF p.length (pb p)) k q : Nat) : Int))) (fun (ss : Nat × (List Int)) => p.length - ss.1) (0, xs) ⟨rfl, trivial⟩ ⟨?_, ?_, hdj5, hx0_8, ?_, ?_⟩ ?_
        · first | exact ho24 | (simpa using ho24)
        · first | exact ho25 | (simpa using ho25)
        · try dsimp only
          omega
        · try dsimp only
          rw [hxs]; exact mapR_congr fun q _ => by rw [if_neg (by omega)]
        rintro g2 ⟨x, ys⟩ hh2 ⟨ho26, ho27, hdj6, hx0_9, hx, hys⟩ IH2
        dsimp only at *
        have hyl : ys.length = p.length := by rw [hys]; exact mapR_len _ _
        refine wi_seq <| wi_reg rfl <| lx_lssS rfl rfl rfl (fun c4 => ?_) (fun c4 => ?_)
        · refine lx_nil <| wi_seq <| wi_true rfl <| wi_skip <| wi_seq <| wi_block <| wi_seq <| wi_reg rfl <| lx_move (.int .i64 ((x : Nat) : Int)) rfl rfl <| lx_assign (.int .i64 ((x : Nat) : Int)) rfl rfl <| lx_nil <| wi_seq <| wi_reg rfl <| lx_move (vp) rfl rfl <| lx_move (.int .i64 ((a : Nat) : Int)) rfl rfl <| lx_ix (i := a) rfl eT29 hr_vp rfl rfl (by omega) <| lx_ld (i := a) (j := 0) ((gt hs a).v) rfl rfl fl70 (hr_vp.extS hx0_9) (by omega) rfl rfl <| lx_move (.int .i64 ((x : Nat) : Int)) rfl rfl <| lx_ix (i := x) rfl eT70 (ht_vp.2 a (by omega)) rfl rfl (by rw [hpq.2 a (by omega)]; omega) <| lx_ld (i := x) (j := 0) (.bool (gt (gt p a) x)) rfl rfl fl4 ((ht_vp.extS hx0_9).2 a (by omega)) (by rw [hpq.2 a (by omega)]; omega) rfl rfl <| lx_nil <| wi_condS (t := gt (gt p a) x) rfl (fun c5 => ?_) (fun c5 => ?_)
          · refine wi_reg rfl <| ?_
            have hak : pb p (gt (jelF p.length (pb p)) k).toNat x = true := by rw [hga]; assumption
            have hpw := pow12 (show k ≤ 12 by omega)
            have hpw1 := pow12 (show k + 1 ≤ 12 by omega)
            have hlt := birK_lt (pb p) (jelF p.length (pb p)) k x
            have hlt2 := birK_lt (pb p) (jelF p.length (pb p)) (k + 1) x
            have hor := birK_yes hak
            have hgx : gt ys x = ((birK (pb p) (jelF p.length (pb p)) k x : Nat) : Int) := by rw [hys, gt_mapR (by omega), if_neg (by omega)]
            refine lx_move (v1) rfl rfl <| lx_move (.int .i64 ((x : Nat) : Int)) rfl rfl <| lx_ix (i := x) rfl eT25 ho26.rd rfl rfl (by omega) <| lx_ld (i := x) (j := 0) (.int .i64 ((birK (pb p) (jelF p.length (pb p)) k x : Nat) : Int)) rfl rfl fl3 ho26.rd (by omega) (by show some (Value.int .i64 (gt ys x)) = _; rw [hgx]) rfl <| lx_move (.int .i64 ((k : Nat) : Int)) rfl rfl <| lx_conv ((k : Nat) : Int) rfl Try.underlying3 Try.underlying45 rfl (wrap_u64 (by omega) (by omega)) <| lx_shl (m := 1) (n := k) rfl rfl rfl (by show _ ≤ 64; omega) (wrap_i64 (by omega) (by omega)) <| lx_or (m := birK (pb p) (jelF p.length (pb p)) k x) (n := 1 * 2 ^ k) rfl rfl rfl (by show _ < 2 ^ 64; omega) (by show _ < 2 ^ 64; omega) (wrap_i64 (by omega) (by omega)) <| lx_ix (i := x) rfl eT25 ho26.rd rfl rfl (by omega) <| lx_st (i := x) ((((birK (pb p) (jelF p.length (pb p)) k x) ||| (1 * 2 ^ k) : Nat) : Int)) rfl rfl Try.sizeOf3 ho26 (by omega) rfl rfl (fun _ _ _ _ _ => trivial) fun h9 ho28 hc3 hsz3 => ?_
            have hx0_10 := hx0_9.trans (ho26.ext hc3 hx0_9.size)
            have ho29 := ho27.chg hc3 (Dj.symm hdj6)
            refine lx_nil <| wi_inBlock <| wi_reg rfl <| lx_add (((x + 1 : Nat) : Int)) rfl rfl rfl (by omega) (by omega) (by omega) <| lx_move (.int .i64 ((x + 1 : Nat) : Int)) rfl rfl <| lx_nil <| ?_
            -- L2.1
            refine IH2 _ _ (x + 1, ys.set x ((((birK (pb p) (jelF p.length (pb p)) k x) ||| (1 * 2 ^ k) : Nat) : Int))) (agree_ups rfl agree_self) ⟨rfl, trivial⟩ ⟨?_, ?_, hdj6, hx0_10, ?_, ?_⟩ ?_
            · first | exact ho28 | (simpa using ho28)
            · first | exact ho29 | (simpa using ho29)
            · try dsimp only
              omega
            · try dsimp only
              rw [hys, mapR_set (by omega)]
              refine mapR_congr fun q hq => ?_
              by_cases e : q = x
              · subst e; rw [if_pos rfl, if_pos (by omega), hor]
              · rw [if_neg e]
                by_cases e2 : q < x
                · rw [if_pos e2, if_pos (by omega)]
                · rw [if_neg e2, if_neg (by omega)]
            · first | omega | (dsimp only; omega)
          · refine wi_skip <| wi_inBlock <| wi_reg rfl <| lx_add (((x + 1 : Nat) : Int)) rfl rfl rfl (by omega) (by omega) (by omega) <| lx_move (.int .i64 ((x + 1 : Nat) : Int)) rfl rfl <| lx_nil <| ?_
            -- L2.2
            refine IH2 _ _ (x + 1, ys) (agree_ups rfl agree_self) ⟨rfl, trivial⟩ ⟨?_, ?_, hdj6, hx0_9, ?_, ?_⟩ ?_
            · first | exact ho26 | (simpa using ho26)
            · first | exact ho27 | (simpa using ho27)
            · try dsimp only
              omega
            · try dsimp only
              rw [hys]
              refine mapR_congr fun q hq => ?_
              by_cases e : q = x
              · subst e; rw [if_neg (by omega), if_pos (by omega), birK_no (by rw [hga]; assumption)]
              · by_cases e2 : q < x
                · rw [if_pos e2, if_pos (by omega)]
                · rw [if_neg e2, if_neg (by omega)]
            · first | omega | (dsimp only; omega)
        · refine lx_nil <| wi_seq <| wi_false rfl <| wi_exit rfl <| wi_inBlock <| wi_reg rfl <| lx_add (((k + 1 : Nat) : Int)) rfl rfl rfl (by omega) (by omega) (by omega) <| lx_move (.int .i64 ((k + 1 : Nat) : Int)) rfl rfl <| lx_nil <| ?_
          -- L0.1
          refine IH1 _ _ (k + 1, ys) (agree_ups rfl (agree_mix (rngB_sub (by decide) (by decide) rfl) (agree_ups rfl agree_self))) ⟨rfl, trivial⟩ ⟨?_, ?_, hdj6, hx0_9, ?_, ?_⟩ ?_
          · first | exact ho26 | (simpa using ho26)
          · first | exact ho27 | (simpa using ho27)
          · try dsimp only
            omega
          · try dsimp only
            rw [hys, show x = p.length from by omega]; exact mapR_congr fun q hq => by rw [if_pos hq]
          · first | omega | (dsimp only; omega)
      · refine lx_nil <| wi_seq <| wi_false rfl <| wi_exit rfl <| wi_seq <| wi_reg rfl <| lx_move (v1) rfl rfl <| lx_assign (v1) rfl rfl <| lx_assign (.int .i64 0) rfl rfl <| lx_nil <| ?_
        -- R3
        refine wi_ret ⟨.tuple #[v1, .int .i64 0], (res_two rfl rfl rfl), ⟨v1, xs, ?_, ho24, ?_, hx0_8⟩⟩
        · rw [hbc]
        · rw [if_pos hbc, hxs, show k = (jelF p.length (pb p)).length from by omega]; rfl

end Go.Proofs.Ytdokijbdnajhgaa
namespace Go.Proofs.Ytdokijbdnajhgaa
open Go Go.X

end Go.Proofs.Ytdokijbdnajhgaa
namespace Go.Proofs.Ytdokijbdnajhgaa
open Go.Shelf
end Go.Proofs.Ytdokijbdnajhgaa
namespace Go.Proofs.Ytdokijbdnajhgaa
open Go Go.X
end Go.Proofs.Ytdokijbdnajhgaa
namespace Go.Proofs.Ytdokijbdnajhgaa
open Go Go.X

end Go.Proofs.Ytdokijbdnajhgaa
namespace Go.Proofs.Ytdokijbdnajhgaa
open Go Go.X

end Go.Proofs.Ytdokijbdnajhgaa
namespace Go.Proofs.Ytdokijbdnajhgaa
open Go Go.X

end Go.Proofs.Ytdokijbdnajhgaa
namespace Go.Proofs.Ytdokijbdnajhgaa
open Go Go.X

def eulC (p : List (List Bool)) : Int := if chkT p = 0 then eulN p.length (pb p) else 0
set_option maxRecDepth 10000 in
theorem oeul_spec (h : Heap) (vp : Value) (hs : List Hdr) (p : List (List Bool)) (hr_vp : RdE encHd h vp hs) (ht_vp : RT encB h hs p) (hp1 : p.length ≤ 1000000) (hp2 : ∀ i, i < p.length → (gt p i).length ≤ 1000000) : Fx Try.prog 46 [vp] h (fun v h' => v = .tuple #[.int .i64 (eulC p), .int .i64 (chkT p)] ∧ Ext h.size h h') := by
  have hl_vp := ht_vp.1
  refine fx_intro (n := 50) [(0, vp)] Try.func46 rfl rfl (by simp) ⟨rfl, trivial⟩ fun g0 => ?_
  refine wi_seq <| wi_reg rfl <| lx_box #[vp] rfl rfl (sl_cells hr_vp) (fun _ _ _ => trivial) fun bn1 h1 hbn1 hbk1 hx1 hsz1 => ?_
  have hbb1 : h.size ≤ bn1 := by have := (Nat.le_refl h.size); omega
  refine lx_assign (.int .i64 0) rfl rfl <| lx_assign (.int .i64 0) rfl rfl <| lx_nil <| wi_seq <| wi_seq <| wi_reg rfl <| lx_ldB (vp) rfl rfl fl29 hbk1 rfl rfl <| lx_call [vp] rfl rfl Try.call62 rfl (ocheck_spec h1 vp hs p (hr_vp.extS hx1) (ht_vp.extS hx1) (by omega) (by first | with_reducible assumption | omega)) (fun _ _ _ => trivial) ?_
  rintro _ h2 ⟨rfl, hx2⟩
  have hx0_1 := hx1.trans2 hx2 hx1.size
  have hb1 := hbk1.extS hx2
  refine lx_assign (.int .i64 (chkT p)) rfl rfl <| lx_nil <| wi_seq <| wi_reg rfl <| lx_move (.int .i64 (chkT p)) rfl rfl <| lx_neqS rfl rfl rfl (fun c1 => ?_) (fun c1 => ?_)
  · refine lx_nil <| wi_true rfl <| wi_seq <| wi_reg rfl <| lx_move (.int .i64 (chkT p)) rfl rfl <| lx_assign (.int .i64 0) rfl rfl <| lx_assign (.int .i64 (chkT p)) rfl rfl <| lx_nil <| ?_
    -- R1
    refine wi_ret ⟨.tuple #[.int .i64 0, .int .i64 (chkT p)], (res_two rfl rfl rfl), ⟨?_, hx0_1⟩⟩
    · rw [show eulC p = 0 from if_neg (by omega)]
  · refine lx_nil <| wi_false rfl <| wi_skip <| wi_seq <| wi_reg rfl <| ?_
    have hok := chkT_ok (p := p) (by omega)
    have hp12 : p.length ≤ 12 := hok.2.1
    have hpq : Sq p p.length := isT_sq hok.2.2
    have hpt := hok.2.2
    have hio := isT_o hpt
    have hck : chkT p = 0 := by omega
    refine lx_ldB (vp) rfl rfl fl29 hb1 rfl rfl <| lx_len rfl Try.underlying29 hr_vp rfl <| lx_make (E := encI) (n := hs.length) (B := h2.size) (0 : Int) rfl rfl Try.underlying58 (eZ58) rfl rfl (by omega) (by omega) (Nat.le_refl _) (fun _ _ => trivial) fun v1 h3 ho1 hx3 hvb1 => ?_
    have hx0_2 := hx0_1.trans2 hx3 hx0_1.size
    have hb2 := hb1.extS hx3
    have ho2 := ho1.base hx0_1.size
    refine lx_alloc rfl rfl Try.zeroValue58 (fun _ _ _ => trivial) fun bn2 h4 hbn2 hbk2 hx4 hsz2 => ?_
    have hbb2 : h.size ≤ bn2 := by have := hx0_2.size; omega
    have hne1 : bn2 ≠ bn1 := by have := hb2.lt; omega
    have hdj1 : Value.ownBlock v1 ≠ some bn2 := by intro e; have := (ho2.lt e).2; omega
    have hx0_3 := hx0_2.trans2 hx4 hx0_2.size
    have ho3 := ho2.extS hx4
    have hb3 := hb2.extS hx4
    have hbk2 : Blk h4 bn2 #[.slice none 0 0] 58 := hbk2
    refine lx_stB (v1) rfl rfl Try.sizeOf58 hbk2 (by simp) rfl rfl (sl_cells ho3.rd) (sl_one ho3.rd) (fun _ _ _ _ => trivial) fun h5 hbk3 hc1 => ?_
    have hx0_4 := hx0_3.trans (hc1.ext hbb2)
    have ho4 := hc1.owE ho3 hdj1
    have hb4 := hc1.blk hb3 (Ne.symm hne1)
    have hbk3 : Blk h5 bn2 #[v1] 58 := hbk3
    refine lx_nil <| wi_seq <| wi_reg rfl <| lx_alloc rfl rfl Try.zeroValue2 (fun _ _ _ => trivial) fun bn3 h6 hbn3 hbk4 hx5 hsz3 => ?_
    have hbb3 : h.size ≤ bn3 := by have := hx0_4.size; omega
    have hne2 : bn3 ≠ bn1 := by have := hb4.lt; omega
    have hne3 : bn3 ≠ bn2 := by have := hbk3.lt; omega
    have hdj2 : Value.ownBlock v1 ≠ some bn3 := by intro e; have := (ho4.lt e).2; omega
    have hx0_5 := hx0_4.trans2 hx5 hx0_4.size
    have ho5 := ho4.extS hx5
    have hb5 := hb4.extS hx5
    have hb6 := hbk3.extS hx5
    have hbk4 : Blk h6 bn3 #[.int .i64 0] 2 := hbk4
    refine lx_stB (.int .i64 0) rfl rfl Try.sizeOf2 hbk4 (by simp) rfl rfl rfl rfl (fun _ _ _ _ => trivial) fun h7 hbk5 hc2 => ?_
    have hx0_6 := hx0_5.trans (hc2.ext hbb3)
    have ho6 := hc2.owE ho5 hdj2
    have hb7 := hc2.blk hb5 (Ne.symm hne2)
    have hb8 := hc2.blk hb6 (Ne.symm hne3)
    have hbk5 : Blk h7 bn3 #[.int .i64 0] 2 := hbk5
    refine lx_nil <| wi_seq <| wi_seq <| wi_reg rfl <| lx_ldB (vp) rfl rfl fl29 hb7 rfl rfl <| lx_call [vp] rfl rfl Try.call105 rfl (upward_spec h7 vp hs p (hr_vp.extS hx0_6) (ht_vp.extS hx0_6) (by omega) hpt) (fun _ _ _ => trivial) ?_
    rintro _ h8 ⟨bl, vl, xs, rfl, ho7, hot1, ho8, hli, hx6⟩
    have hx0_7 := hx0_6.trans2 hx6 hx0_6.size
    have ho9 := ho6.extS hx6
    have hb9 := hb7.extS hx6
    have hb10 := hb8.extS hx6
    have hb11 := hbk5.extS hx6
    have hbx1 : h.size ≤ bl := Nat.le_trans hx0_6.size ho7
    have ho10 := ho8.base hx0_6.size
    refine lx_nil <| wi_block <| ?_
    refine wi_range (Ds := []) (gf := 170) (lb := [.pointer (some ⟨bl, 0, none⟩)]) Try.call170 rfl (fun l1 D1 h9 rc1 hlD1 hll1 hDl1 hx7 hlr1 hDr1 hLo1 => ?_)
    have hbl1 : h.size ≤ l1 := Nat.le_trans hx0_7.size hll1
    have hbD1 : h.size ≤ D1 := Nat.le_trans hx0_7.size hlD1
    have hx0_8 := hx0_7.trans2 hx7 hx0_7.size
    have ho11 := ho9.extS hx7
    have ho12 := ho10.extS hx7
    have hb12 := hb9.extS hx7
    have hb13 := hb10.extS hx7
    have hb14 := hb11.extS hx7
    have hb15 := hot1.extS hx7
    refine Fx.mono (values1_seq bl vl xs (by have := hli.len; omega) l1 h9 (fun k hh => hh[l1]? = some (.loop rc1) ∧ DsOk (D1 :: []) hh ∧ ∃ (es : List Int), ∃ (s : Int), OwE encI hh h.size 2 v1 es ∧ OwE encI hh h.size 3 vl xs ∧ Dj v1 vl ∧ Blk hh bl #[vl] 25 ∧ Blk hh bn1 #[vp] 29 ∧ Blk hh bn2 #[v1] 58 ∧ Blk hh bn3 #[.int .i64 s] 2 ∧ Ext h.size h hh ∧ (es = erow p.length (pb p) xs k) ∧ (s = esum p.length (pb p) xs k)) ?_ ?_ ?_ ?_) ?_
    · rintro k ha hb9 ⟨hr9, hd9, es, s, ho13, ho14, hdj3, hbk6, hbk7, hbk8, hbk9, hx0_9, hes, hsu⟩ hq1
      exact ⟨hq1.obj hr9 (Array.getElem?_eq_some_iff.1 hlr1).1, hq1.dso hd9 (fun d hd8 => (Array.getElem?_eq_some_iff.1 (DsOk.cons hDr1 (DsOk.nil _) d hd8)).1), es, s, hq1.owE ho13 (by decide), hq1.owE ho14 (by decide), hdj3, hq1.blk hbk6 (by decide), hq1.blk hbk7 (by decide), hq1.blk hbk8 (by decide), hq1.blk hbk9 (by decide), hq1.ext hx0_9 hx0_8.size, hes, hsu⟩
    · rintro k ha ⟨hr9, hd9, es, s, ho15, ho16, hdj4, hbk10, hbk11, hbk12, hbk13, hx0_10, hes, hsu⟩
      exact ⟨hbk10, ho16.rd⟩
    · rintro k ha1 hk1 ⟨hr1, hd1, es, s, ho17, ho18, hdj5, hbk14, hbk15, hbk16, hbk17, hx0_11, hes, hsu⟩
      have hxl9 := hli.len
      obtain ⟨b, hgb, hbn⟩ := hli.rng k (by omega)
      dsimp only
      rw [hgb]
      refine yield_ok hLo1 hr1 rfl (by decide) ?_
      refine wi_forget [(1, .pointer (some ⟨bn1, 0, none⟩)), (5, .pointer (some ⟨bn2, 0, none⟩)), (6, .pointer (some ⟨bn3, 0, none⟩)), (19, .int .i64 ((b : Nat) : Int))] ⟨rfl, rfl, rfl, rfl, trivial⟩ fun g1 => ?_
      refine wi_reg rfl <| lx_assign (.int .i64 ((b : Nat) : Int)) rfl rfl <| lx_nil <| ?_
      refine wi_begin hr1 hLo1.st (fun h10 hc3 hbu1 => ?_)
      have hcel1 := cel_loop hc3 hr1
      have hx0_12 := hx0_11.trans (hc3.ext hbl1)
      have ho19 := hcel1.owE ho17
      have ho20 := hcel1.owE ho18
      have hb16 := hcel1.blk hbk15
      have hb17 := hcel1.blk hbk16
      have hb18 := hcel1.blk hbk17
      have hb19 := hcel1.blk hbk14
      have hch1 := (Tk.of_loop hc3 hr1 : Tk 26 _ _)
      have hd2 := hd1.chgL hr1 hc3
      refine wi_block <| wi_seq <| wi_reg rfl <| ?_
      have hnb3 : bl ≠ bn3 := by have := hbk5.lt; omega
      have hel : es.length = p.length := by rw [hes]; exact erow_len _ _ _ _
      have hka : k < p.length := by omega
      have hsb := esum_bound (f := pb p) (xs := xs) (k := k) hp12
      rw [← hsu] at hsb
      refine lx_ldB (v1) rfl rfl fl58 hb17 rfl rfl <| lx_move (.int .i64 ((b : Nat) : Int)) rfl rfl <| lx_ix (i := b) rfl eT58 ho19.rd rfl rfl (by omega) <| lx_st (i := b) ((1 : Int)) rfl rfl Try.sizeOf2 ho19 (by omega) rfl rfl (fun _ _ _ _ _ => trivial) fun h11 ho21 hc4 hsz4 => ?_
      have hch2 := hch1.trans ((Tk.of_chg hc4 ho19 (by decide) : Tk 26 _ _))
      have hsz_hch2 := hch2.1
      have hch3 := Nc.of_chg hc4 ho19
      have hsz_hch3 := hch3.1
      have hx0_13 := hx0_12.trans (ho19.ext hc4 hx0_12.size)
      have ho22 := ho20.chg hc4 (Dj.symm hdj5)
      have hb20 := hb16.chg hc4 (nb_new hb1 ho1)
      have hb21 := hb17.chg hc4 hdj1
      have hb22 := hb18.chg hc4 hdj2
      have hb23 := hb19.chg hc4 (nb_ty ho19 hb19 (by decide))
      refine lx_nil <| wi_seq <| wi_seq <| wi_reg rfl <| lx_ldB (vp) rfl rfl fl29 hb20 rfl rfl <| lx_len rfl Try.underlying29 hr_vp rfl <| lx_move (.int .i64 0) rfl rfl <| lx_nil <| wi_block <| ?_
      refine wi_loop (σ := Nat × (List Int)) (rngB 25 43 [8]) (fun (ss : Nat × (List Int)) => [(25, .int .i64 ((ss.1 : Nat) : Int))]) (fun (ss : Nat × (List Int)) (hh : Heap) => OwE encI hh h.size 2 v1 ss.2 ∧ OwE encI hh h.size 3 vl xs ∧ Dj v1 vl ∧ Blk hh bl #[vl] 25 ∧ Blk hh bn1 #[vp] 29 ∧ Blk hh bn2 #[v1] 58 ∧ Blk hh bn3 #[.int .i64 s] 2 ∧ Tk 26 ha1 hh ∧ Nc h10 hh ∧ Ext h.size h hh ∧ (ss.1 ≤ p.length) ∧ (ss.2 = es.set b (epart (pb p) es b ss.1))) (fun (ss : Nat × (List Int)) => p.length - ss.1) (0, es.set b 1) ⟨rfl, trivial⟩ ⟨?_, ?_, hdj5, ?_, ?_, ?_, ?_, hch2, hch3, hx0_13, ?_, ?_⟩ ?_
      · first | exact ho21 | (simpa using ho21)
      · first | exact ho22 | (simpa using ho22)
      · exact hb23
      · exact hb20
      · exact hb21
      · exact hb22
      · try dsimp only
        omega
      · try dsimp only
        rw [epart_zero]
      rintro g2 ⟨x, es2⟩ hh1 ⟨ho23, ho24, hdj6, hbk18, hbk19, hbk20, hbk21, hch4, hch5, hx0_14, hx, hes2⟩ IH1
      dsimp only at *
      have hel2 : es2.length = p.length := by rw [hes2, List.length_set]; exact hel
      have hsz_hch4 := hch4.1
      have hsz_hch5 := hch5.1
      refine wi_seq <| wi_reg rfl <| lx_lssS rfl rfl rfl (fun c2 => ?_) (fun c2 => ?_)
      · refine lx_nil <| wi_seq <| wi_true rfl <| wi_skip <| wi_seq <| wi_block <| wi_seq <| wi_reg rfl <| lx_move (.int .i64 ((x : Nat) : Int)) rfl rfl <| lx_assign (.int .i64 ((x : Nat) : Int)) rfl rfl <| lx_nil <| wi_seq <| wi_reg rfl <| lx_ldB (vp) rfl rfl fl29 hbk19 rfl rfl <| lx_move (.int .i64 ((x : Nat) : Int)) rfl rfl <| lx_move (.int .i64 ((b : Nat) : Int)) rfl rfl <| lx_call [vp, .int .i64 ((x : Nat) : Int), .int .i64 ((b : Nat) : Int)] rfl rfl Try.call106 rfl (below_spec hh1 vp hs p x b (hr_vp.extS hx0_14) (ht_vp.extS hx0_14) (by omega) (by first | with_reducible assumption | omega) (by omega) (by omega)) (fun _ _ _ => trivial) ?_
        rintro _ h12 ⟨rfl, rfl⟩
        refine lx_nil <| wi_condS (t := decide (x ≠ b) && pb p x b) rfl (fun c3 => ?_) (fun c3 => ?_)
        · refine wi_draw mo rfl (by decide +kernel) <| ?_
          have hbl : blw (pb p) x b = true := by assumption
          obtain ⟨hxb, _⟩ := blw_iff.1 hbl
          have g1 : gt es2 b = epart (pb p) es b x := by rw [hes2, gt_set (by omega), if_pos rfl]
          have g2 : gt es2 x = gt es x := by rw [hes2, gt_set (by omega), if_neg hxb]
          have hq1 := epart_bound (f := pb p) (xs := xs) (k := k) (b := b) (j := x) hp12 (by omega)
          have hq2 := erow_bound (f := pb p) (xs := xs) (k := k) hp12 (show x < p.length by omega)
          rw [← hes, ← g1] at hq1
          rw [← hes, ← g2] at hq2
          refine lx_ldB (v1) rfl rfl fl58 hbk20 rfl rfl <| lx_move (.int .i64 ((b : Nat) : Int)) rfl rfl <| lx_ix (i := b) rfl eT58 ho23.rd rfl rfl (by omega) <| lx_ld (i := b) (j := 0) (.int .i64 (gt es2 b)) rfl rfl fl2 ho23.rd (by omega) rfl rfl <| lx_ldB (v1) rfl rfl fl58 hbk20 rfl rfl <| lx_move (.int .i64 ((x : Nat) : Int)) rfl rfl <| lx_ix (i := x) rfl eT58 ho23.rd rfl rfl (by omega) <| lx_ld (i := x) (j := 0) (.int .i64 (gt es2 x)) rfl rfl fl2 ho23.rd (by omega) rfl rfl <| lx_sub ((gt es2 b) - (gt es2 x)) rfl rfl rfl (by omega) (by omega) (by omega) <| lx_ix (i := b) rfl eT58 ho23.rd rfl rfl (by omega) <| lx_st (i := b) ((gt es2 b) - (gt es2 x)) rfl rfl Try.sizeOf2 ho23 (by omega) rfl rfl (fun _ _ _ _ _ => trivial) fun h13 ho25 hc5 hsz5 => ?_
          have hch6 := hch4.trans ((Tk.of_chg hc5 ho23 (by decide) : Tk 26 _ _))
          have hsz_hch6 := hch6.1
          have hch7 := hch5.trans (Nc.of_chg hc5 ho23)
          have hsz_hch7 := hch7.1
          have hx0_15 := hx0_14.trans (ho23.ext hc5 hx0_14.size)
          have ho26 := ho24.chg hc5 (Dj.symm hdj6)
          have hb24 := hbk19.chg hc5 (nb_new hb1 ho1)
          have hb25 := hbk20.chg hc5 hdj1
          have hb26 := hbk21.chg hc5 hdj2
          have hb27 := hbk18.chg hc5 (nb_ty ho23 hbk18 (by decide))
          refine lx_nil <| wi_inBlock <| wi_reg rfl <| lx_add (((x + 1 : Nat) : Int)) rfl rfl rfl (by omega) (by omega) (by omega) <| lx_move (.int .i64 ((x + 1 : Nat) : Int)) rfl rfl <| lx_nil <| ?_
          -- L2.1
          refine IH1 _ _ (x + 1, es2.set b ((gt es2 b) - (gt es2 x))) (agree_ups rfl agree_self) ⟨rfl, trivial⟩ ⟨?_, ?_, hdj6, ?_, ?_, ?_, ?_, hch6, hch7, hx0_15, ?_, ?_⟩ ?_
          · first | exact ho25 | (simpa using ho25)
          · first | exact ho26 | (simpa using ho26)
          · exact hb27
          · exact hb24
          · exact hb25
          · exact hb26
          · try dsimp only
            omega
          · try dsimp only
            rw [g1, g2, ← epart_yes hbl, hes2, List.set_set]
          · first | omega | (dsimp only; omega)
        · refine wi_skip <| wi_inBlock <| wi_reg rfl <| lx_add (((x + 1 : Nat) : Int)) rfl rfl rfl (by omega) (by omega) (by omega) <| lx_move (.int .i64 ((x + 1 : Nat) : Int)) rfl rfl <| lx_nil <| ?_
          -- L2.2
          refine IH1 _ _ (x + 1, es2) (agree_ups rfl agree_self) ⟨rfl, trivial⟩ ⟨?_, ?_, hdj6, ?_, ?_, ?_, ?_, hch4, hch5, hx0_14, ?_, ?_⟩ ?_
          · first | exact ho23 | (simpa using ho23)
          · first | exact ho24 | (simpa using ho24)
          · exact hbk18
          · exact hbk19
          · exact hbk20
          · exact hbk21
          · try dsimp only
            omega
          · try dsimp only
            rw [hes2, epart_no (by assumption)]
          · first | omega | (dsimp only; omega)
      · refine lx_nil <| wi_seq <| wi_false rfl <| wi_exit rfl <| wi_draw mo rfl (by decide +kernel) <| ?_
        have hxp : x = p.length := by omega
        have hb9 : gt es2 b = euF p.length (pb p) b := by rw [hes2, gt_set (by omega), if_pos rfl, hes, hxp]; exact epart_all hio hli hka hgb hbn
        have hb8 := euF_bound (f := pb p) hp12 b
        rw [← hb9] at hb8
        refine lx_ldB (.int .i64 s) rfl rfl fl2 hbk21 rfl rfl <| lx_ldB (v1) rfl rfl fl58 hbk20 rfl rfl <| lx_move (.int .i64 ((b : Nat) : Int)) rfl rfl <| lx_ix (i := b) rfl eT58 ho23.rd rfl rfl (by omega) <| lx_ld (i := b) (j := 0) (.int .i64 (gt es2 b)) rfl rfl fl2 ho23.rd (by omega) rfl rfl <| lx_add (s + (gt es2 b)) rfl rfl rfl (by omega) (by omega) (by omega) <| lx_stB (.int .i64 (s + (gt es2 b))) rfl rfl Try.sizeOf2 hbk21 (by simp) rfl rfl rfl rfl (fun _ _ _ _ => trivial) fun h14 hbk22 hc6 => ?_
        have hch8 := hch4.trans ((Tk.of_chgB hc6 hbk21 (by decide) : Tk 26 _ _))
        have hsz_hch8 := hch8.1
        have hch9 := hch5.trans (Nc.of_chgB hc6 hbk21)
        have hsz_hch9 := hch9.1
        have hx0_16 := hx0_14.trans (hc6.ext hbb3)
        have ho27 := hc6.owE ho23 hdj2
        have ho28 := hc6.owE ho24 (nb_new hbk5 ho8)
        have hb28 := hc6.blk hbk19 (Ne.symm hne2)
        have hb29 := hc6.blk hbk20 (Ne.symm hne3)
        have hb30 := hc6.blk hbk18 (by omega)
        have hbk22 : Blk h14 bn3 #[.int .i64 (s + (gt es2 b))] 2 := hbk22
        refine lx_nil <| wi_inBlock <| ?_
        have hbu2 := (nc_loop hch9 hbu1)
        have hd3 := (hd2.nc hch9)
        -- Q0.1
        refine wi_end ⟨rfl, hbu2, fun h15 hc7 hlr2 => ?_⟩
        have hcel2 := cel_loop hc7 hbu2
        have hx0_17 := hx0_16.trans (hc7.ext hbl1)
        have ho29 := hcel2.owE ho27
        have ho30 := hcel2.owE ho28
        have hb31 := hcel2.blk hb28
        have hb32 := hcel2.blk hb29
        have hb33 := hcel2.blk hbk22
        have hb34 := hcel2.blk hb30
        refine ⟨hch8.trans (Tk.of_loop hc7 hbu2), hlr2, hd3.chgL hbu2 hc7, es2, s + (gt es2 b), ?_, ?_, hdj6, ?_, ?_, ?_, ?_, hx0_17, ?_, ?_⟩
        · first | exact ho29 | (simpa using ho29)
        · first | exact ho30 | (simpa using ho30)
        · exact hb34
        · exact hb31
        · exact hb32
        · exact hb33
        · try dsimp only
          rw [hes2, hes, hxp, epart_all hio hli hka hgb hbn, erow_set hgb hbn]
        · try dsimp only
          rw [hb9, hsu, esum_succ hli hka hgb hbn]
    · refine ⟨hlr1, DsOk.cons hDr1 (DsOk.nil _), List.replicate hs.length (0 : Int), (0 : Int), ?_, ?_, (dj_new ho6 ho8), ?_, ?_, ?_, ?_, hx0_8, ?_, ?_⟩
      · first | exact ho11 | (simpa using ho11)
      · first | exact ho12 | (simpa using ho12)
      · exact hb15
      · exact hb12
      · exact hb13
      · exact hb14
      · try dsimp only
        rw [hl_vp]; exact erow_zero _ _ _
      · try dsimp only
        exact (esum_zero _ _ _).symm
    rintro _ h16 ⟨_, hr2, hd4, es, s, ho31, ho32, hdj7, hbk23, hbk24, hbk25, hbk26, hx0_18, hes, hsu⟩
    refine ⟨hr2, fun h17 hc8 => ?_⟩
    have hcel3 := cel_loop hc8 hr2
    have hx0_19 := hx0_18.trans (hc8.ext hbl1)
    have ho33 := hcel3.owE ho31
    have ho34 := hcel3.owE ho32
    have hb35 := hcel3.blk hbk24
    have hb36 := hcel3.blk hbk25
    have hb37 := hcel3.blk hbk26
    have hb38 := hcel3.blk hbk23
    have hd5 := hd4.chgL hr2 hc8
    have hbDs1 : ∀ d ∈ D1 :: [], h.size ≤ d := fun d hd9 => by
      rw [List.mem_cons] at hd9
      rcases hd9 with rfl | hd9
      · exact hbD1
      · exact (fun d hd9 => by cases hd9) d hd9
    have hnd1 : (D1 :: []).Nodup := List.nodup_cons.2 ⟨fun hd9 => (by cases hd9), List.nodup_nil⟩
    have hlt1 : ∀ d ∈ D1 :: [], d < h17.size := fun d hd9 => (Array.getElem?_eq_some_iff.1 (hd5 d hd9)).1
    refine wi_inBlock <| wi_seq <| wi_reg rfl <| lx_ldB (.int .i64 s) rfl rfl fl2 hb37 rfl rfl <| lx_assign (.int .i64 s) rfl rfl <| lx_assign (.int .i64 0) rfl rfl <| lx_nil <| ?_
    -- R2
    have hd6 := hd5
    refine wi_retD (Ds := D1 :: []) hnd1 hd6 (fun h18 hcel4 hsz6 hbb4 => ?_)
    have hx0_20 := ext_marks2 hx0_19 hd6 hbDs1 hsz6 hbb4
    have ho35 := hcel4.owE ho33
    have ho36 := hcel4.owE ho34
    have hb39 := hcel4.blk hb35
    have hb40 := hcel4.blk hb36
    have hb41 := hcel4.blk hb37
    have hb42 := hcel4.blk hb38
    refine ⟨.tuple #[.int .i64 s, .int .i64 0], (res_two rfl rfl rfl), ⟨?_, hx0_20⟩⟩
    · rw [show eulC p = eulN p.length (pb p) from if_pos hck, show chkT p = 0 from hck, hsu, hli.len, esum_all hli]

end Go.Proofs.Ytdokijbdnajhgaa
