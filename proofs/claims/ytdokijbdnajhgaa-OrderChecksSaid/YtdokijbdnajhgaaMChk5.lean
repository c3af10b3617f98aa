/-
  Texts in one: OD, OE, XLiftR, XOSort, XOSortB, XOMin, XArr, XFive, PD.
-/
import Derived.Test.YtdokijbdnajhgaaMChk4
import Derived.Deep.Grids
import Derived.Shelf.Sort.Plain
import Derived.Ground.Names2Prog
import Derived.Shelf.Slices.CompactI
import Derived.Test.YtdokijbdnajhgaaProg
import Derived.Shelf.Slices.Turned
set_option linter.unusedSimpArgs false
set_option linter.unusedVariables false
namespace Go.Proofs.Ytdokijbdnajhgaa
open Go Go.X

set_option maxRecDepth 10000 in
theorem risorder_spec (h : Heap) (vp : Value) (hs : List Hdr) (p : List (List Bool)) (hr_vp : RdE encHd h vp hs) (ht_vp : RT encB h hs p) (hp1 : p.length ≤ 1000000) (hp2 : ∀ i, i < p.length → (gt p i).length ≤ 1000000) : Fx Try.prog 112 [vp] h (fun v h' => v = .bool (isT p) ∧ h = h') := by
  have hl_vp := ht_vp.1
  refine fx_intro (n := 92) [(0, vp)] Try.func112 rfl rfl (by simp) ⟨rfl, trivial⟩ fun g0 => ?_
  refine wi_seq <| wi_reg rfl <| lx_assign (.bool false) rfl rfl <| lx_nil <| wi_seq <| wi_reg rfl <| lx_move (vp) rfl rfl <| lx_len rfl Try.underlying23 hr_vp rfl <| lx_assign (.int .i64 ((hs.length : Nat) : Int)) rfl rfl <| lx_nil <| wi_seq <| wi_seq <| wi_reg rfl <| lx_assign (.int .i64 0) rfl rfl <| lx_nil <| wi_block <| ?_
  refine wi_loop (σ := Nat) (rngB 10 22 [2, 4]) (fun (w : Nat) => [(4, .int .i64 ((w : Nat) : Int))]) (fun (w : Nat) (hh : Heap) => h = hh ∧ (w ≤ p.length) ∧ (∀ j, j < w → (gt p j).length = p.length)) (fun (w : Nat) => p.length - w) 0 ⟨rfl, trivial⟩ ⟨rfl, ?_, ?_⟩ ?_
  · try dsimp only
    omega
  · try dsimp only
    intro j hj; omega
  rintro g1 w hh1 ⟨rfl, hw, he⟩ IH1
  refine wi_seq <| wi_seq <| wi_reg rfl <| lx_move (.int .i64 ((w : Nat) : Int)) rfl rfl <| lx_move (.int .i64 ((hs.length : Nat) : Int)) rfl rfl <| lx_lssS rfl rfl rfl (fun c1 => ?_) (fun c1 => ?_)
  · refine lx_nil <| wi_true rfl <| wi_skip <| wi_seq <| wi_block <| wi_seq <| wi_reg rfl <| lx_move (vp) rfl rfl <| lx_move (.int .i64 ((w : Nat) : Int)) rfl rfl <| lx_ix (i := w) rfl eT23 hr_vp rfl rfl (by omega) <| lx_ld (i := w) (j := 0) ((gt hs w).v) rfl rfl fl70 hr_vp (by omega) rfl rfl <| lx_len rfl Try.underlying70 (ht_vp.2 w (by omega)) rfl <| lx_move (.int .i64 ((hs.length : Nat) : Int)) rfl rfl <| lx_neqS rfl rfl rfl (fun c2 => ?_) (fun c2 => ?_)
    · refine lx_nil <| wi_true rfl <| wi_seq <| wi_reg rfl <| lx_assign (.bool false) rfl rfl <| lx_nil <| ?_
      -- R1
      refine wi_ret ⟨.bool false, (res_one rfl rfl), ⟨?_, rfl⟩⟩
      · congr 1
        first
        | exact (isT_iff.2 ⟨hsQ, fun a b ha hb => hA a (by omega) b hb⟩).symm
        | exact (bad_sq (i := w) (by omega) (by omega)).symm
        | exact (bad_ok (x := x) (y := x) (by omega) (by omega) (bad_refl rfl (by first | assumption | exact nbf (by assumption) | exact nbt (by assumption)))).symm
        | exact (bad_ok (x := x) (y := y) (by omega) (by omega) (bad_tri (z := z) (by omega) (by first | assumption | exact nbf (by assumption) | exact nbt (by assumption)) (by first | assumption | exact nbf (by assumption) | exact nbt (by assumption)) (by first | assumption | exact nbf (by assumption) | exact nbt (by assumption)))).symm
        | exact (bad_ok (x := x) (y := y) (by omega) (by omega) (bad_anti (by omega) (by first | assumption | exact nbf (by assumption) | exact nbt (by assumption)) (by first | assumption | exact nbf (by assumption) | exact nbt (by assumption)))).symm
    · refine lx_nil <| wi_false rfl <| wi_skip <| wi_inBlock <| wi_reg rfl <| lx_move (.int .i64 ((w : Nat) : Int)) rfl rfl <| lx_add (((w + 1 : Nat) : Int)) rfl rfl rfl (by omega) (by omega) (by omega) <| lx_assign (.int .i64 ((w + 1 : Nat) : Int)) rfl rfl <| lx_nil <| ?_
      -- L0.1
      refine IH1 _ _ (w + 1) (agree_ups rfl agree_self) ⟨rfl, trivial⟩ ⟨rfl, ?_, ?_⟩ ?_
      · try dsimp only
        omega
      · try dsimp only
        intro j hj; by_cases e : j = w
        · subst e; omega
        · exact he j (by omega)
      · first | omega | (dsimp only; omega)
  · refine lx_nil <| wi_false rfl <| wi_exit rfl <| wi_seq <| wi_seq <| wi_reg rfl <| ?_
    have hsQ : Sq p p.length := ⟨rfl, fun j hj => he j (by omega)⟩
    refine lx_assign (.int .i64 0) rfl rfl <| lx_nil <| wi_block <| ?_
    refine wi_loop (σ := Nat) (rngB 22 92 [2, 5, 6, 7]) (fun (x : Nat) => [(5, .int .i64 ((x : Nat) : Int))]) (fun (x : Nat) (hh : Heap) => h = hh ∧ (x ≤ p.length) ∧ (∀ a, a < x → ∀ b, b < p.length → okP p.length (pb p) a b)) (fun (x : Nat) => p.length - x) 0 ⟨rfl, trivial⟩ ⟨rfl, ?_, ?_⟩ ?_
    · try dsimp only
      omega
    · try dsimp only
      intro a ha; omega
    rintro g2 x hh2 ⟨rfl, hx, hA⟩ IH2
    refine wi_seq <| wi_seq <| wi_reg rfl <| lx_move (.int .i64 ((x : Nat) : Int)) rfl rfl <| lx_move (.int .i64 ((hs.length : Nat) : Int)) rfl rfl <| lx_lssS rfl rfl rfl (fun c3 => ?_) (fun c3 => ?_)
    · refine lx_nil <| wi_true rfl <| wi_skip <| wi_seq <| wi_block <| wi_seq <| wi_seq <| wi_reg rfl <| lx_move (vp) rfl rfl <| lx_move (.int .i64 ((x : Nat) : Int)) rfl rfl <| lx_ix (i := x) rfl eT23 hr_vp rfl rfl (by omega) <| lx_ld (i := x) (j := 0) ((gt hs x).v) rfl rfl fl70 hr_vp (by omega) rfl rfl <| lx_move (.int .i64 ((x : Nat) : Int)) rfl rfl <| lx_ix (i := x) rfl eT70 (ht_vp.2 x (by omega)) rfl rfl (by rw [hsQ.2 x (by omega)]; omega) <| lx_ld (i := x) (j := 0) (.bool (gt (gt p x) x)) rfl rfl fl4 (ht_vp.2 x (by omega)) (by rw [hsQ.2 x (by omega)]; omega) rfl rfl <| lx_not rfl rfl <| lx_nil <| wi_condS (t := !(gt (gt p x) x)) rfl (fun c4 => ?_) (fun c4 => ?_)
      · refine wi_seq <| wi_reg rfl <| lx_assign (.bool false) rfl rfl <| lx_nil <| ?_
        -- R2
        refine wi_ret ⟨.bool false, (res_one rfl rfl), ⟨?_, rfl⟩⟩
        · congr 1
          first
          | exact (isT_iff.2 ⟨hsQ, fun a b ha hb => hA a (by omega) b hb⟩).symm
          | exact (bad_sq (i := w) (by omega) (by omega)).symm
          | exact (bad_ok (x := x) (y := x) (by omega) (by omega) (bad_refl rfl (by first | assumption | exact nbf (by assumption) | exact nbt (by assumption)))).symm
          | exact (bad_ok (x := x) (y := y) (by omega) (by omega) (bad_tri (z := z) (by omega) (by first | assumption | exact nbf (by assumption) | exact nbt (by assumption)) (by first | assumption | exact nbf (by assumption) | exact nbt (by assumption)) (by first | assumption | exact nbf (by assumption) | exact nbt (by assumption)))).symm
          | exact (bad_ok (x := x) (y := y) (by omega) (by omega) (bad_anti (by omega) (by first | assumption | exact nbf (by assumption) | exact nbt (by assumption)) (by first | assumption | exact nbf (by assumption) | exact nbt (by assumption)))).symm
      · refine wi_skip <| wi_seq <| wi_reg rfl <| ?_
        have hre : pb p x x = true := nbf (by assumption)
        refine lx_assign (.int .i64 0) rfl rfl <| lx_nil <| wi_block <| ?_
        refine wi_loop (σ := Nat) (rngB 35 92 [2, 6, 7]) (fun (y : Nat) => [(6, .int .i64 ((y : Nat) : Int))]) (fun (y : Nat) (hh : Heap) => h = hh ∧ (y ≤ p.length) ∧ (∀ b, b < y → okP p.length (pb p) x b)) (fun (y : Nat) => p.length - y) 0 ⟨rfl, trivial⟩ ⟨rfl, ?_, ?_⟩ ?_
        · try dsimp only
          omega
        · try dsimp only
          intro b hb; omega
        rintro g3 y hh3 ⟨rfl, hy, hB⟩ IH3
        refine wi_seq <| wi_seq <| wi_reg rfl <| lx_move (.int .i64 ((y : Nat) : Int)) rfl rfl <| lx_move (.int .i64 ((hs.length : Nat) : Int)) rfl rfl <| lx_lssS rfl rfl rfl (fun c5 => ?_) (fun c5 => ?_)
        · refine lx_nil <| wi_true rfl <| wi_skip <| wi_seq <| wi_block <| wi_seq <| wi_seq <| wi_reg rfl <| lx_move (.int .i64 ((x : Nat) : Int)) rfl rfl <| lx_move (.int .i64 ((y : Nat) : Int)) rfl rfl <| lx_neqS rfl rfl rfl (fun c6 => ?_) (fun c6 => ?_)
          · refine lx_move (.bool true) rfl rfl <| lx_move (vp) rfl rfl <| lx_move (.int .i64 ((x : Nat) : Int)) rfl rfl <| lx_ix (i := x) rfl eT23 hr_vp rfl rfl (by omega) <| lx_ld (i := x) (j := 0) ((gt hs x).v) rfl rfl fl70 hr_vp (by omega) rfl rfl <| lx_move (.int .i64 ((y : Nat) : Int)) rfl rfl <| lx_ix (i := y) rfl eT70 (ht_vp.2 x (by omega)) rfl rfl (by rw [hsQ.2 x (by omega)]; omega) <| lx_ld (i := y) (j := 0) (.bool (gt (gt p x) y)) rfl rfl fl4 (ht_vp.2 x (by omega)) (by rw [hsQ.2 x (by omega)]; omega) rfl rfl <| lx_pick true (.bool (gt (gt p x) y)) rfl rfl rfl <| lx_move (.bool (gt (gt p x) y)) rfl rfl <| ?_
            cases c7 : (gt (gt p x) y)
            · refine lx_skip rfl <| lx_skip rfl <| lx_skip rfl <| lx_skip rfl <| lx_skip rfl <| lx_skip rfl <| lx_skip rfl <| lx_pick false (.bool false) rfl rfl rfl <| lx_nil <| wi_false rfl <| wi_skip <| wi_seq <| wi_reg rfl <| lx_assign (.int .i64 0) rfl rfl <| lx_nil <| wi_block <| ?_
              refine wi_loop (σ := Nat) (rngB 61 92 [2, 7]) (fun (z : Nat) => [(7, .int .i64 ((z : Nat) : Int))]) (fun (z : Nat) (hh : Heap) => h = hh ∧ (z ≤ p.length) ∧ (∀ c, c < z → pb p x y = true → pb p y c = true → pb p x c = true)) (fun (z : Nat) => p.length - z) 0 ⟨rfl, trivial⟩ ⟨rfl, ?_, ?_⟩ ?_
              · try dsimp only
                omega
              · try dsimp only
                intro c hc; omega
              rintro g4 z hh4 ⟨rfl, hz, hC⟩ IH4
              refine wi_seq <| wi_seq <| wi_reg rfl <| lx_move (.int .i64 ((z : Nat) : Int)) rfl rfl <| lx_move (.int .i64 ((hs.length : Nat) : Int)) rfl rfl <| lx_lssS rfl rfl rfl (fun c8 => ?_) (fun c8 => ?_)
              · refine lx_nil <| wi_true rfl <| wi_skip <| wi_seq <| wi_block <| wi_seq <| wi_reg rfl <| lx_move (vp) rfl rfl <| lx_move (.int .i64 ((x : Nat) : Int)) rfl rfl <| lx_ix (i := x) rfl eT23 hr_vp rfl rfl (by omega) <| lx_ld (i := x) (j := 0) ((gt hs x).v) rfl rfl fl70 hr_vp (by omega) rfl rfl <| lx_move (.int .i64 ((y : Nat) : Int)) rfl rfl <| lx_ix (i := y) rfl eT70 (ht_vp.2 x (by omega)) rfl rfl (by rw [hsQ.2 x (by omega)]; omega) <| lx_ld (i := y) (j := 0) (.bool false) rfl rfl fl4 (ht_vp.2 x (by omega)) (by rw [hsQ.2 x (by omega)]; omega) (by show some (Value.bool (gt (gt p x) y)) = _; rw [c7]) rfl <| lx_move (.bool false) rfl rfl <| lx_skip rfl <| lx_skip rfl <| lx_skip rfl <| lx_skip rfl <| lx_skip rfl <| lx_skip rfl <| lx_skip rfl <| lx_pick false (.bool false) rfl rfl rfl <| lx_move (.bool false) rfl rfl <| lx_skip rfl <| lx_skip rfl <| lx_skip rfl <| lx_skip rfl <| lx_skip rfl <| lx_skip rfl <| lx_skip rfl <| lx_skip rfl <| lx_pick false (.bool false) rfl rfl rfl <| lx_nil <| wi_false rfl <| wi_skip <| wi_inBlock <| wi_reg rfl <| lx_move (.int .i64 ((z : Nat) : Int)) rfl rfl <| lx_add (((z + 1 : Nat) : Int)) rfl rfl rfl (by omega) (by omega) (by omega) <| lx_assign (.int .i64 ((z + 1 : Nat) : Int)) rfl rfl <| lx_nil <| ?_
                -- L6.1
                refine IH4 _ _ (z + 1) (agree_ups rfl agree_self) ⟨rfl, trivial⟩ ⟨rfl, ?_, ?_⟩ ?_
                · try dsimp only
                  omega
                · try dsimp only
                  intro c hc h1 h2
                  by_cases e : c = z
                  · subst e; first | assumption | exact nbf (by assumption) | exact absurd h1 (ntb (by first | assumption | exact nbt (by assumption))) | exact absurd h2 (ntb (by first | assumption | exact nbt (by assumption)))
                  · exact hC c (by omega) h1 h2
                · first | omega | (dsimp only; omega)
              · refine lx_nil <| wi_false rfl <| wi_exit rfl <| wi_inBlock <| wi_reg rfl <| lx_move (.int .i64 ((y : Nat) : Int)) rfl rfl <| lx_add (((y + 1 : Nat) : Int)) rfl rfl rfl (by omega) (by omega) (by omega) <| lx_assign (.int .i64 ((y + 1 : Nat) : Int)) rfl rfl <| lx_nil <| ?_
                -- L4.1
                refine IH3 _ _ (y + 1) (agree_ups rfl (agree_mix (rngB_sub (by decide) (by decide) rfl) (agree_ups rfl agree_self))) ⟨rfl, trivial⟩ ⟨rfl, ?_, ?_⟩ ?_
                · try dsimp only
                  omega
                · try dsimp only
                  intro b hb
                  by_cases e : b = y
                  · subst e; exact ⟨fun e => (by first | assumption | exact nbf (by assumption) | (subst e; assumption) | (exfalso; omega)), fun h1 h2 => (by first | (exfalso; omega) | assumption | exact nbt (by assumption) | exact absurd h2 (ntb (by assumption))), fun c hc h1 h2 => hC c (by omega) h1 h2⟩
                  · exact hB b (by omega)
                · first | omega | (dsimp only; omega)
            · refine lx_move (vp) rfl rfl <| lx_move (.int .i64 ((y : Nat) : Int)) rfl rfl <| lx_ix (i := y) rfl eT23 hr_vp rfl rfl (by omega) <| lx_ld (i := y) (j := 0) ((gt hs y).v) rfl rfl fl70 hr_vp (by omega) rfl rfl <| lx_move (.int .i64 ((x : Nat) : Int)) rfl rfl <| lx_ix (i := x) rfl eT70 (ht_vp.2 y (by omega)) rfl rfl (by rw [hsQ.2 y (by omega)]; omega) <| lx_ld (i := x) (j := 0) (.bool (gt (gt p y) x)) rfl rfl fl4 (ht_vp.2 y (by omega)) (by rw [hsQ.2 y (by omega)]; omega) rfl rfl <| lx_pick true (.bool (gt (gt p y) x)) rfl rfl rfl <| lx_nil <| wi_condS (t := gt (gt p y) x) rfl (fun c9 => ?_) (fun c9 => ?_)
              · refine wi_seq <| wi_reg rfl <| lx_assign (.bool false) rfl rfl <| lx_nil <| ?_
                -- R3
                refine wi_ret ⟨.bool false, (res_one rfl rfl), ⟨?_, rfl⟩⟩
                · congr 1
                  first
                  | exact (isT_iff.2 ⟨hsQ, fun a b ha hb => hA a (by omega) b hb⟩).symm
                  | exact (bad_sq (i := w) (by omega) (by omega)).symm
                  | exact (bad_ok (x := x) (y := x) (by omega) (by omega) (bad_refl rfl (by first | assumption | exact nbf (by assumption) | exact nbt (by assumption)))).symm
                  | exact (bad_ok (x := x) (y := y) (by omega) (by omega) (bad_tri (z := z) (by omega) (by first | assumption | exact nbf (by assumption) | exact nbt (by assumption)) (by first | assumption | exact nbf (by assumption) | exact nbt (by assumption)) (by first | assumption | exact nbf (by assumption) | exact nbt (by assumption)))).symm
                  | exact (bad_ok (x := x) (y := y) (by omega) (by omega) (bad_anti (by omega) (by first | assumption | exact nbf (by assumption) | exact nbt (by assumption)) (by first | assumption | exact nbf (by assumption) | exact nbt (by assumption)))).symm
              · refine wi_skip <| wi_seq <| wi_reg rfl <| lx_assign (.int .i64 0) rfl rfl <| lx_nil <| wi_block <| ?_
                refine wi_loop (σ := Nat) (rngB 61 92 [2, 7]) (fun (z : Nat) => [(7, .int .i64 ((z : Nat) : Int))]) (fun (z : Nat) (hh : Heap) => h = hh ∧ (z ≤ p.length) ∧ (∀ c, c < z → pb p x y = true → pb p y c = true → pb p x c = true)) (fun (z : Nat) => p.length - z) 0 ⟨rfl, trivial⟩ ⟨rfl, ?_, ?_⟩ ?_
                · try dsimp only
                  omega
                · try dsimp only
                  intro c hc; omega
                rintro g5 z hh5 ⟨rfl, hz, hC⟩ IH5
                refine wi_seq <| wi_seq <| wi_reg rfl <| lx_move (.int .i64 ((z : Nat) : Int)) rfl rfl <| lx_move (.int .i64 ((hs.length : Nat) : Int)) rfl rfl <| lx_lssS rfl rfl rfl (fun c10 => ?_) (fun c10 => ?_)
                · refine lx_nil <| wi_true rfl <| wi_skip <| wi_seq <| wi_block <| wi_seq <| wi_reg rfl <| lx_move (vp) rfl rfl <| lx_move (.int .i64 ((x : Nat) : Int)) rfl rfl <| lx_ix (i := x) rfl eT23 hr_vp rfl rfl (by omega) <| lx_ld (i := x) (j := 0) ((gt hs x).v) rfl rfl fl70 hr_vp (by omega) rfl rfl <| lx_move (.int .i64 ((y : Nat) : Int)) rfl rfl <| lx_ix (i := y) rfl eT70 (ht_vp.2 x (by omega)) rfl rfl (by rw [hsQ.2 x (by omega)]; omega) <| lx_ld (i := y) (j := 0) (.bool true) rfl rfl fl4 (ht_vp.2 x (by omega)) (by rw [hsQ.2 x (by omega)]; omega) (by show some (Value.bool (gt (gt p x) y)) = _; rw [c7]) rfl <| lx_move (.bool true) rfl rfl <| lx_move (vp) rfl rfl <| lx_move (.int .i64 ((y : Nat) : Int)) rfl rfl <| lx_ix (i := y) rfl eT23 hr_vp rfl rfl (by omega) <| lx_ld (i := y) (j := 0) ((gt hs y).v) rfl rfl fl70 hr_vp (by omega) rfl rfl <| lx_move (.int .i64 ((z : Nat) : Int)) rfl rfl <| lx_ix (i := z) rfl eT70 (ht_vp.2 y (by omega)) rfl rfl (by rw [hsQ.2 y (by omega)]; omega) <| lx_ld (i := z) (j := 0) (.bool (gt (gt p y) z)) rfl rfl fl4 (ht_vp.2 y (by omega)) (by rw [hsQ.2 y (by omega)]; omega) rfl rfl <| lx_pick true (.bool (gt (gt p y) z)) rfl rfl rfl <| lx_move (.bool (gt (gt p y) z)) rfl rfl <| ?_
                  cases c11 : (gt (gt p y) z)
                  · refine lx_skip rfl <| lx_skip rfl <| lx_skip rfl <| lx_skip rfl <| lx_skip rfl <| lx_skip rfl <| lx_skip rfl <| lx_skip rfl <| lx_pick false (.bool false) rfl rfl rfl <| lx_nil <| wi_false rfl <| wi_skip <| wi_inBlock <| wi_reg rfl <| lx_move (.int .i64 ((z : Nat) : Int)) rfl rfl <| lx_add (((z + 1 : Nat) : Int)) rfl rfl rfl (by omega) (by omega) (by omega) <| lx_assign (.int .i64 ((z + 1 : Nat) : Int)) rfl rfl <| lx_nil <| ?_
                    -- L6.1
                    refine IH5 _ _ (z + 1) (agree_ups rfl agree_self) ⟨rfl, trivial⟩ ⟨rfl, ?_, ?_⟩ ?_
                    · try dsimp only
                      omega
                    · try dsimp only
                      intro c hc h1 h2
                      by_cases e : c = z
                      · subst e; first | assumption | exact nbf (by assumption) | exact absurd h1 (ntb (by first | assumption | exact nbt (by assumption))) | exact absurd h2 (ntb (by first | assumption | exact nbt (by assumption)))
                      · exact hC c (by omega) h1 h2
                    · first | omega | (dsimp only; omega)
                  · refine lx_move (vp) rfl rfl <| lx_move (.int .i64 ((x : Nat) : Int)) rfl rfl <| lx_ix (i := x) rfl eT23 hr_vp rfl rfl (by omega) <| lx_ld (i := x) (j := 0) ((gt hs x).v) rfl rfl fl70 hr_vp (by omega) rfl rfl <| lx_move (.int .i64 ((z : Nat) : Int)) rfl rfl <| lx_ix (i := z) rfl eT70 (ht_vp.2 x (by omega)) rfl rfl (by rw [hsQ.2 x (by omega)]; omega) <| lx_ld (i := z) (j := 0) (.bool (gt (gt p x) z)) rfl rfl fl4 (ht_vp.2 x (by omega)) (by rw [hsQ.2 x (by omega)]; omega) rfl rfl <| lx_not rfl rfl <| lx_pick true (.bool (!(gt (gt p x) z))) rfl rfl rfl <| lx_nil <| wi_condS (t := !(gt (gt p x) z)) rfl (fun c12 => ?_) (fun c12 => ?_)
                    · refine wi_seq <| wi_reg rfl <| lx_assign (.bool false) rfl rfl <| lx_nil <| ?_
                      -- R4
                      refine wi_ret ⟨.bool false, (res_one rfl rfl), ⟨?_, rfl⟩⟩
                      · congr 1
                        first
                        | exact (isT_iff.2 ⟨hsQ, fun a b ha hb => hA a (by omega) b hb⟩).symm
                        | exact (bad_sq (i := w) (by omega) (by omega)).symm
                        | exact (bad_ok (x := x) (y := x) (by omega) (by omega) (bad_refl rfl (by first | assumption | exact nbf (by assumption) | exact nbt (by assumption)))).symm
                        | exact (bad_ok (x := x) (y := y) (by omega) (by omega) (bad_tri (z := z) (by omega) (by first | assumption | exact nbf (by assumption) | exact nbt (by assumption)) (by first | assumption | exact nbf (by assumption) | exact nbt (by assumption)) (by first | assumption | exact nbf (by assumption) | exact nbt (by assumption)))).symm
                        | exact (bad_ok (x := x) (y := y) (by omega) (by omega) (bad_anti (by omega) (by first | assumption | exact nbf (by assumption) | exact nbt (by assumption)) (by first | assumption | exact nbf (by assumption) | exact nbt (by assumption)))).symm
                    · refine wi_skip <| wi_inBlock <| wi_reg rfl <| lx_move (.int .i64 ((z : Nat) : Int)) rfl rfl <| lx_add (((z + 1 : Nat) : Int)) rfl rfl rfl (by omega) (by omega) (by omega) <| lx_assign (.int .i64 ((z + 1 : Nat) : Int)) rfl rfl <| lx_nil <| ?_
                      -- L6.2
                      refine IH5 _ _ (z + 1) (agree_ups rfl agree_self) ⟨rfl, trivial⟩ ⟨rfl, ?_, ?_⟩ ?_
                      · try dsimp only
                        omega
                      · try dsimp only
                        intro c hc h1 h2
                        by_cases e : c = z
                        · subst e; first | assumption | exact nbf (by assumption) | exact absurd h1 (ntb (by first | assumption | exact nbt (by assumption))) | exact absurd h2 (ntb (by first | assumption | exact nbt (by assumption)))
                        · exact hC c (by omega) h1 h2
                      · first | omega | (dsimp only; omega)
                · refine lx_nil <| wi_false rfl <| wi_exit rfl <| wi_inBlock <| wi_reg rfl <| lx_move (.int .i64 ((y : Nat) : Int)) rfl rfl <| lx_add (((y + 1 : Nat) : Int)) rfl rfl rfl (by omega) (by omega) (by omega) <| lx_assign (.int .i64 ((y + 1 : Nat) : Int)) rfl rfl <| lx_nil <| ?_
                  -- L4.2
                  refine IH3 _ _ (y + 1) (agree_ups rfl (agree_mix (rngB_sub (by decide) (by decide) rfl) (agree_ups rfl agree_self))) ⟨rfl, trivial⟩ ⟨rfl, ?_, ?_⟩ ?_
                  · try dsimp only
                    omega
                  · try dsimp only
                    intro b hb
                    by_cases e : b = y
                    · subst e; exact ⟨fun e => (by first | assumption | exact nbf (by assumption) | (subst e; assumption) | (exfalso; omega)), fun h1 h2 => (by first | (exfalso; omega) | assumption | exact nbt (by assumption) | exact absurd h2 (ntb (by assumption))), fun c hc h1 h2 => hC c (by omega) h1 h2⟩
                    · exact hB b (by omega)
                  · first | omega | (dsimp only; omega)
          · refine lx_move (.bool false) rfl rfl <| lx_skip rfl <| lx_skip rfl <| lx_skip rfl <| lx_skip rfl <| lx_skip rfl <| lx_skip rfl <| lx_skip rfl <| lx_pick false (.bool false) rfl rfl rfl <| lx_move (.bool false) rfl rfl <| lx_skip rfl <| lx_skip rfl <| lx_skip rfl <| lx_skip rfl <| lx_skip rfl <| lx_skip rfl <| lx_skip rfl <| lx_pick false (.bool false) rfl rfl rfl <| lx_nil <| wi_false rfl <| wi_skip <| wi_seq <| wi_reg rfl <| lx_assign (.int .i64 0) rfl rfl <| lx_nil <| wi_block <| ?_
            refine wi_loop (σ := Nat) (rngB 61 92 [2, 7]) (fun (z : Nat) => [(7, .int .i64 ((z : Nat) : Int))]) (fun (z : Nat) (hh : Heap) => h = hh ∧ (z ≤ p.length) ∧ (∀ c, c < z → pb p x y = true → pb p y c = true → pb p x c = true)) (fun (z : Nat) => p.length - z) 0 ⟨rfl, trivial⟩ ⟨rfl, ?_, ?_⟩ ?_
            · try dsimp only
              omega
            · try dsimp only
              intro c hc; omega
            rintro g6 z hh6 ⟨rfl, hz, hC⟩ IH6
            refine wi_seq <| wi_seq <| wi_reg rfl <| lx_move (.int .i64 ((z : Nat) : Int)) rfl rfl <| lx_move (.int .i64 ((hs.length : Nat) : Int)) rfl rfl <| lx_lssS rfl rfl rfl (fun c13 => ?_) (fun c13 => ?_)
            · refine lx_nil <| wi_true rfl <| wi_skip <| wi_seq <| wi_block <| wi_seq <| wi_reg rfl <| lx_move (vp) rfl rfl <| lx_move (.int .i64 ((x : Nat) : Int)) rfl rfl <| lx_ix (i := x) rfl eT23 hr_vp rfl rfl (by omega) <| lx_ld (i := x) (j := 0) ((gt hs x).v) rfl rfl fl70 hr_vp (by omega) rfl rfl <| lx_move (.int .i64 ((y : Nat) : Int)) rfl rfl <| lx_ix (i := y) rfl eT70 (ht_vp.2 x (by omega)) rfl rfl (by rw [hsQ.2 x (by omega)]; omega) <| lx_ld (i := y) (j := 0) (.bool (gt (gt p x) y)) rfl rfl fl4 (ht_vp.2 x (by omega)) (by rw [hsQ.2 x (by omega)]; omega) rfl rfl <| lx_move (.bool (gt (gt p x) y)) rfl rfl <| ?_
              cases c14 : (gt (gt p x) y)
              · refine lx_skip rfl <| lx_skip rfl <| lx_skip rfl <| lx_skip rfl <| lx_skip rfl <| lx_skip rfl <| lx_skip rfl <| lx_pick false (.bool false) rfl rfl rfl <| lx_move (.bool false) rfl rfl <| lx_skip rfl <| lx_skip rfl <| lx_skip rfl <| lx_skip rfl <| lx_skip rfl <| lx_skip rfl <| lx_skip rfl <| lx_skip rfl <| lx_pick false (.bool false) rfl rfl rfl <| lx_nil <| wi_false rfl <| wi_skip <| wi_inBlock <| wi_reg rfl <| lx_move (.int .i64 ((z : Nat) : Int)) rfl rfl <| lx_add (((z + 1 : Nat) : Int)) rfl rfl rfl (by omega) (by omega) (by omega) <| lx_assign (.int .i64 ((z + 1 : Nat) : Int)) rfl rfl <| lx_nil <| ?_
                -- L6.1
                refine IH6 _ _ (z + 1) (agree_ups rfl agree_self) ⟨rfl, trivial⟩ ⟨rfl, ?_, ?_⟩ ?_
                · try dsimp only
                  omega
                · try dsimp only
                  intro c hc h1 h2
                  by_cases e : c = z
                  · subst e; first | assumption | exact nbf (by assumption) | exact absurd h1 (ntb (by first | assumption | exact nbt (by assumption))) | exact absurd h2 (ntb (by first | assumption | exact nbt (by assumption)))
                  · exact hC c (by omega) h1 h2
                · first | omega | (dsimp only; omega)
              · refine lx_move (vp) rfl rfl <| lx_move (.int .i64 ((y : Nat) : Int)) rfl rfl <| lx_ix (i := y) rfl eT23 hr_vp rfl rfl (by omega) <| lx_ld (i := y) (j := 0) ((gt hs y).v) rfl rfl fl70 hr_vp (by omega) rfl rfl <| lx_move (.int .i64 ((z : Nat) : Int)) rfl rfl <| lx_ix (i := z) rfl eT70 (ht_vp.2 y (by omega)) rfl rfl (by rw [hsQ.2 y (by omega)]; omega) <| lx_ld (i := z) (j := 0) (.bool (gt (gt p y) z)) rfl rfl fl4 (ht_vp.2 y (by omega)) (by rw [hsQ.2 y (by omega)]; omega) rfl rfl <| lx_pick true (.bool (gt (gt p y) z)) rfl rfl rfl <| lx_move (.bool (gt (gt p y) z)) rfl rfl <| ?_
                cases c15 : (gt (gt p y) z)
                · refine lx_skip rfl <| lx_skip rfl <| lx_skip rfl <| lx_skip rfl <| lx_skip rfl <| lx_skip rfl <| lx_skip rfl <| lx_skip rfl <| lx_pick false (.bool false) rfl rfl rfl <| lx_nil <| wi_false rfl <| wi_skip <| wi_inBlock <| wi_reg rfl <| lx_move (.int .i64 ((z : Nat) : Int)) rfl rfl <| lx_add (((z + 1 : Nat) : Int)) rfl rfl rfl (by omega) (by omega) (by omega) <| lx_assign (.int .i64 ((z + 1 : Nat) : Int)) rfl rfl <| lx_nil <| ?_
                  -- L6.2
                  refine IH6 _ _ (z + 1) (agree_ups rfl agree_self) ⟨rfl, trivial⟩ ⟨rfl, ?_, ?_⟩ ?_
                  · try dsimp only
                    omega
                  · try dsimp only
                    intro c hc h1 h2
                    by_cases e : c = z
                    · subst e; first | assumption | exact nbf (by assumption) | exact absurd h1 (ntb (by first | assumption | exact nbt (by assumption))) | exact absurd h2 (ntb (by first | assumption | exact nbt (by assumption)))
                    · exact hC c (by omega) h1 h2
                  · first | omega | (dsimp only; omega)
                · refine lx_move (vp) rfl rfl <| lx_move (.int .i64 ((x : Nat) : Int)) rfl rfl <| lx_ix (i := x) rfl eT23 hr_vp rfl rfl (by omega) <| lx_ld (i := x) (j := 0) ((gt hs x).v) rfl rfl fl70 hr_vp (by omega) rfl rfl <| lx_move (.int .i64 ((z : Nat) : Int)) rfl rfl <| lx_ix (i := z) rfl eT70 (ht_vp.2 x (by omega)) rfl rfl (by rw [hsQ.2 x (by omega)]; omega) <| lx_ld (i := z) (j := 0) (.bool (gt (gt p x) z)) rfl rfl fl4 (ht_vp.2 x (by omega)) (by rw [hsQ.2 x (by omega)]; omega) rfl rfl <| lx_not rfl rfl <| lx_pick true (.bool (!(gt (gt p x) z))) rfl rfl rfl <| lx_nil <| wi_condS (t := !(gt (gt p x) z)) rfl (fun c16 => ?_) (fun c16 => ?_)
                  · refine wi_seq <| wi_reg rfl <| lx_assign (.bool false) rfl rfl <| lx_nil <| ?_
                    -- R5
                    refine wi_ret ⟨.bool false, (res_one rfl rfl), ⟨?_, rfl⟩⟩
                    · congr 1
                      first
                      | exact (isT_iff.2 ⟨hsQ, fun a b ha hb => hA a (by omega) b hb⟩).symm
                      | exact (bad_sq (i := w) (by omega) (by omega)).symm
                      | exact (bad_ok (x := x) (y := x) (by omega) (by omega) (bad_refl rfl (by first | assumption | exact nbf (by assumption) | exact nbt (by assumption)))).symm
                      | exact (bad_ok (x := x) (y := y) (by omega) (by omega) (bad_tri (z := z) (by omega) (by first | assumption | exact nbf (by assumption) | exact nbt (by assumption)) (by first | assumption | exact nbf (by assumption) | exact nbt (by assumption)) (by first | assumption | exact nbf (by assumption) | exact nbt (by assumption)))).symm
                      | exact (bad_ok (x := x) (y := y) (by omega) (by omega) (bad_anti (by omega) (by first | assumption | exact nbf (by assumption) | exact nbt (by assumption)) (by first | assumption | exact nbf (by assumption) | exact nbt (by assumption)))).symm
                  · refine wi_skip <| wi_inBlock <| wi_reg rfl <| lx_move (.int .i64 ((z : Nat) : Int)) rfl rfl <| lx_add (((z + 1 : Nat) : Int)) rfl rfl rfl (by omega) (by omega) (by omega) <| lx_assign (.int .i64 ((z + 1 : Nat) : Int)) rfl rfl <| lx_nil <| ?_
                    -- L6.3
                    refine IH6 _ _ (z + 1) (agree_ups rfl agree_self) ⟨rfl, trivial⟩ ⟨rfl, ?_, ?_⟩ ?_
                    · try dsimp only
                      omega
                    · try dsimp only
                      intro c hc h1 h2
                      by_cases e : c = z
                      · subst e; first | assumption | exact nbf (by assumption) | exact absurd h1 (ntb (by first | assumption | exact nbt (by assumption))) | exact absurd h2 (ntb (by first | assumption | exact nbt (by assumption)))
                      · exact hC c (by omega) h1 h2
                    · first | omega | (dsimp only; omega)
            · refine lx_nil <| wi_false rfl <| wi_exit rfl <| wi_inBlock <| wi_reg rfl <| lx_move (.int .i64 ((y : Nat) : Int)) rfl rfl <| lx_add (((y + 1 : Nat) : Int)) rfl rfl rfl (by omega) (by omega) (by omega) <| lx_assign (.int .i64 ((y + 1 : Nat) : Int)) rfl rfl <| lx_nil <| ?_
              -- L4.3
              refine IH3 _ _ (y + 1) (agree_ups rfl (agree_mix (rngB_sub (by decide) (by decide) rfl) (agree_ups rfl agree_self))) ⟨rfl, trivial⟩ ⟨rfl, ?_, ?_⟩ ?_
              · try dsimp only
                omega
              · try dsimp only
                intro b hb
                by_cases e : b = y
                · subst e; exact ⟨fun e => (by first | assumption | exact nbf (by assumption) | (subst e; assumption) | (exfalso; omega)), fun h1 h2 => (by first | (exfalso; omega) | assumption | exact nbt (by assumption) | exact absurd h2 (ntb (by assumption))), fun c hc h1 h2 => hC c (by omega) h1 h2⟩
                · exact hB b (by omega)
              · first | omega | (dsimp only; omega)
        · refine lx_nil <| wi_false rfl <| wi_exit rfl <| wi_inBlock <| wi_reg rfl <| lx_move (.int .i64 ((x : Nat) : Int)) rfl rfl <| lx_add (((x + 1 : Nat) : Int)) rfl rfl rfl (by omega) (by omega) (by omega) <| lx_assign (.int .i64 ((x + 1 : Nat) : Int)) rfl rfl <| lx_nil <| ?_
          -- L2.1
          refine IH2 _ _ (x + 1) (agree_ups rfl (agree_mix (rngB_sub (by decide) (by decide) rfl) (agree_ups rfl agree_self))) ⟨rfl, trivial⟩ ⟨rfl, ?_, ?_⟩ ?_
          · try dsimp only
            omega
          · try dsimp only
            intro a ha b hb
            by_cases e : a = x
            · subst e; exact hB b (by omega)
            · exact hA a (by omega) b hb
          · first | omega | (dsimp only; omega)
    · refine lx_nil <| wi_false rfl <| wi_exit rfl <| wi_seq <| wi_reg rfl <| lx_assign (.bool true) rfl rfl <| lx_nil <| ?_
      -- R6
      refine wi_ret ⟨.bool true, (res_one rfl rfl), ⟨?_, rfl⟩⟩
      · congr 1
        first
        | exact (isT_iff.2 ⟨hsQ, fun a b ha hb => hA a (by omega) b hb⟩).symm
        | exact (bad_sq (i := w) (by omega) (by omega)).symm
        | exact (bad_ok (x := x) (y := x) (by omega) (by omega) (bad_refl rfl (by first | assumption | exact nbf (by assumption) | exact nbt (by assumption)))).symm
        | exact (bad_ok (x := x) (y := y) (by omega) (by omega) (bad_tri (z := z) (by omega) (by first | assumption | exact nbf (by assumption) | exact nbt (by assumption)) (by first | assumption | exact nbf (by assumption) | exact nbt (by assumption)) (by first | assumption | exact nbf (by assumption) | exact nbt (by assumption)))).symm
        | exact (bad_ok (x := x) (y := y) (by omega) (by omega) (bad_anti (by omega) (by first | assumption | exact nbf (by assumption) | exact nbt (by assumption)) (by first | assumption | exact nbf (by assumption) | exact nbt (by assumption)))).symm

set_option maxRecDepth 10000 in
theorem rcheck_spec (h : Heap) (vp : Value) (hs : List Hdr) (p : List (List Bool)) (hr_vp : RdE encHd h vp hs) (ht_vp : RT encB h hs p) (hp1 : p.length ≤ 1000000) (hp2 : ∀ i, i < p.length → (gt p i).length ≤ 1000000) : Fx Try.prog 61 [vp] h (fun v h' => v = .int .i64 (chkT p) ∧ h = h') := by
  have hl_vp := ht_vp.1
  refine fx_intro (n := 16) [(0, vp)] Try.func61 rfl rfl (by simp) ⟨rfl, trivial⟩ fun g0 => ?_
  refine wi_seq <| wi_reg rfl <| lx_assign (.int .i64 0) rfl rfl <| lx_nil <| wi_seq <| wi_seq <| wi_reg rfl <| lx_move (vp) rfl rfl <| lx_len rfl Try.underlying23 hr_vp rfl <| lx_lssS rfl rfl rfl (fun c1 => ?_) (fun c1 => ?_)
  · refine lx_move (.bool true) rfl rfl <| lx_skip rfl <| lx_skip rfl <| lx_skip rfl <| lx_pick true (.bool true) rfl rfl rfl <| lx_move (.bool true) rfl rfl <| lx_skip rfl <| lx_skip rfl <| lx_skip rfl <| lx_pick true (.bool true) rfl rfl rfl <| lx_nil <| wi_true rfl <| wi_seq <| wi_reg rfl <| lx_assign (.int .i64 90) rfl rfl <| lx_nil <| ?_
    -- R1
    refine wi_ret ⟨.int .i64 90, (res_one rfl rfl), ⟨?_, rfl⟩⟩
    · congr 1
      first
      | rw [chkT_size (by omega)]
      | (rw [chkT_bad (by first | assumption | exact nbt (by assumption))]; done)
      | (rw [ok_chkT (by omega) (by omega) (by first | assumption | exact nbf (by assumption))]; done)
  · refine lx_move (.bool false) rfl rfl <| lx_move (vp) rfl rfl <| lx_len rfl Try.underlying23 hr_vp rfl <| lx_gtrS rfl rfl rfl (fun c2 => ?_) (fun c2 => ?_)
    · refine lx_pick false (.bool true) rfl rfl rfl <| lx_move (.bool true) rfl rfl <| lx_skip rfl <| lx_skip rfl <| lx_skip rfl <| lx_pick true (.bool true) rfl rfl rfl <| lx_nil <| wi_true rfl <| wi_seq <| wi_reg rfl <| lx_assign (.int .i64 90) rfl rfl <| lx_nil <| ?_
      -- R2
      refine wi_ret ⟨.int .i64 90, (res_one rfl rfl), ⟨?_, rfl⟩⟩
      · congr 1
        first
        | rw [chkT_size (by omega)]
        | (rw [chkT_bad (by first | assumption | exact nbt (by assumption))]; done)
        | (rw [ok_chkT (by omega) (by omega) (by first | assumption | exact nbf (by assumption))]; done)
    · refine lx_pick false (.bool false) rfl rfl rfl <| lx_move (.bool false) rfl rfl <| lx_move (vp) rfl rfl <| lx_call [vp] rfl rfl Try.call112 rfl (risorder_spec h vp hs p hr_vp ht_vp (by omega) (by first | with_reducible assumption | omega)) (fun _ _ _ => trivial) ?_
      rintro _ h1 ⟨rfl, rfl⟩
      refine lx_not rfl rfl <| lx_pick false (.bool (!(isT p))) rfl rfl rfl <| lx_nil <| wi_condS (t := !(isT p)) rfl (fun c3 => ?_) (fun c3 => ?_)
      · refine wi_seq <| wi_reg rfl <| lx_assign (.int .i64 90) rfl rfl <| lx_nil <| ?_
        -- R3
        refine wi_ret ⟨.int .i64 90, (res_one rfl rfl), ⟨?_, rfl⟩⟩
        · congr 1
          first
          | rw [chkT_size (by omega)]
          | (rw [chkT_bad (by first | assumption | exact nbt (by assumption))]; done)
          | (rw [ok_chkT (by omega) (by omega) (by first | assumption | exact nbf (by assumption))]; done)
      · refine wi_skip <| wi_seq <| wi_reg rfl <| lx_assign (.int .i64 0) rfl rfl <| lx_nil <| ?_
        -- R4
        refine wi_ret ⟨.int .i64 0, (res_one rfl rfl), ⟨?_, rfl⟩⟩
        · congr 1
          first
          | rw [chkT_size (by omega)]
          | (rw [chkT_bad (by first | assumption | exact nbt (by assumption))]; done)
          | (rw [ok_chkT (by omega) (by omega) (by first | assumption | exact nbf (by assumption))]; done)

end Go.Proofs.Ytdokijbdnajhgaa
namespace Go.Proofs.Ytdokijbdnajhgaa
open Go Go.X

set_option maxRecDepth 10000 in
theorem rclosure_spec (h : Heap) (n : Nat) (vl : Value) (ls : List (Int × Int)) (hr_vl : RdE encP h vl ls) (hp1 : n ≤ 12) (hp2 : ls.length ≤ 4611686018427387904) (hp3 : ∀ j, j < ls.length → inR n (gt ls j) = true) : Fx Try.prog 64 [.int .i64 ((n : Nat) : Int), vl] h (fun v h' => ∃ (s : Value) (hs : List Hdr), v = .tuple #[s, .bool (ordB n (closW n ls))] ∧ OwE encHd h' h.size 70 s hs ∧ OT encB h' h.size 4 hs (tabF n (closW n ls)) ∧ Ext h.size h h') := by
  refine fx_intro (n := 96) [(0, .int .i64 ((n : Nat) : Int)), (1, vl)] Try.func64 rfl rfl (by simp) ⟨rfl, rfl, trivial⟩ fun g0 => ?_
  refine wi_seq <| wi_reg rfl <| lx_assign (.slice none 0 0) rfl rfl <| lx_assign (.bool false) rfl rfl <| lx_nil <| wi_seq <| wi_reg rfl <| lx_assign (.slice none 0 0) rfl rfl <| lx_nil <| wi_seq <| wi_seq <| wi_reg rfl <| lx_assign (.int .i64 0) rfl rfl <| lx_nil <| wi_block <| ?_
  refine wi_loop (σ := Nat × Value × (List Hdr) × (List (List Bool))) (rngB 13 27 [6, 7, 8]) (fun (ss : Nat × Value × (List Hdr) × (List (List Bool))) => [(7, .int .i64 ((ss.1 : Nat) : Int)), (6, ss.2.1)]) (fun (ss : Nat × Value × (List Hdr) × (List (List Bool))) (hh : Heap) => OwE encHd hh h.size 70 ss.2.1 ss.2.2.1 ∧ OT encB hh h.size 4 ss.2.2.1 ss.2.2.2 ∧ Ext h.size h hh ∧ (ss.1 ≤ n) ∧ (ss.2.2.2.length = ss.1) ∧ (∀ i, i < ss.1 → gt ss.2.2.2 i = rowF n fun j => decide (i = j))) (fun (ss : Nat × Value × (List Hdr) × (List (List Bool))) => n - ss.1) (0, .slice none 0 0, [], []) ⟨rfl, rfl, trivial⟩ ⟨?_, ?_, (Ext.refl _ _), ?_, ?_, ?_⟩ ?_
  · first | exact (owE_nil encHd _ h.size 70) | (simpa using (owE_nil encHd _ h.size 70))
  · first | exact (OT.nil encB _ h.size 4) | (simpa using (OT.nil encB _ h.size 4))
  · try dsimp only
    omega
  · try dsimp only
    first | done | rfl
  · try dsimp only
    intro i hi; omega
  rintro g1 ⟨x, v, hs, r⟩ hh1 ⟨ho1, hot1, hx0_1, hx, hrl, hrw⟩ IH1
  dsimp only at *
  have hl_hot1 := hot1.1
  refine wi_seq <| wi_seq <| wi_reg rfl <| lx_move (.int .i64 ((x : Nat) : Int)) rfl rfl <| lx_move (.int .i64 ((n : Nat) : Int)) rfl rfl <| lx_lssS rfl rfl rfl (fun c1 => ?_) (fun c1 => ?_)
  · refine lx_nil <| wi_true rfl <| wi_skip <| wi_seq <| wi_block <| wi_seq <| wi_reg rfl <| lx_move (.int .i64 ((n : Nat) : Int)) rfl rfl <| lx_make (E := encB) (n := n) (B := hh1.size) false rfl rfl Try.underlying70 (eZ70) rfl rfl (by omega) (by omega) (Nat.le_refl _) (fun _ _ => trivial) fun v1 h1 ho2 hx1 hvb1 => ?_
    have hx0_2 := hx0_1.trans2 hx1 hx0_1.size
    have ho3 := ho1.extS hx1
    have hot2 := hot1.extS hx1
    have ho4 := ho2.base hx0_1.size
    refine lx_assign (v1) rfl rfl <| lx_nil <| wi_seq <| wi_reg rfl <| lx_move (v1) rfl rfl <| lx_move (.int .i64 ((x : Nat) : Int)) rfl rfl <| lx_ix (i := x) rfl eT70 ho4.rd rfl rfl (by first | omega | (simp only [List.length_set, List.length_append, List.length_cons, List.length_nil, List.length_replicate, List.length_take, swp_length, exch_length]; omega)) <| lx_st (i := x) true rfl rfl Try.sizeOf4 ho4 (by first | omega | (simp only [List.length_set, List.length_append, List.length_cons, List.length_nil, List.length_replicate, List.length_take, swp_length, exch_length]; omega)) rfl rfl (fun _ _ _ _ _ => trivial) fun h2 ho5 hc1 hsz1 => ?_
    have hx0_3 := hx0_2.trans (ho4.ext hc1 hx0_2.size)
    have ho6 := ho3.chg hc1 (dj_new ho1 ho2)
    have hot3 := hot2.chg hc1 (djt_new hot1 ho2)
    have hot4 : OT encB h2 h.size 4 (hs ++ [hdrOf v1]) (r ++ [(List.replicate n false).set x true]) := OT.snoc hot3 ho5 (djt_new hot1 ho2)
    refine lx_nil <| wi_reg rfl <| lx_move (v) rfl rfl <| lx_move (v1) rfl rfl <| lx_appendL (E := encHd) (B := h.size) [hdrOf v1] [v1] rfl rfl (fun _ => rfl) rfl eT23 rfl rfl (hdr_cells1 ho5.rd) rfl ho6 (fun _ => rfl) (by show hs.length + 1 ≤ _; omega) (by show (hs.length + 1) * 24 ≤ _; omega) hx0_3.size (fun _ _ => trivial) fun u1 v2 h3 ho7 hc2 hg1 => ?_
    have hx0_4 := hx0_3.trans (ho6.ext hc2 hx0_3.size)
    have hot5 : OT encB h3 h.size 4 (hs ++ [hdrOf v1]) (r ++ [(List.replicate n false).set x true]) := hot4.chg hc2 (djt_ty hot4 ho6 (by decide))
    have hl_hot5 := hot5.1
    refine lx_assign (v2) rfl rfl <| lx_nil <| wi_inBlock <| wi_reg rfl <| lx_move (.int .i64 ((x : Nat) : Int)) rfl rfl <| lx_add (((x + 1 : Nat) : Int)) rfl rfl rfl (by omega) (by omega) (by omega) <| lx_assign (.int .i64 ((x + 1 : Nat) : Int)) rfl rfl <| lx_nil <| ?_
    -- L0.1
    refine IH1 _ _ (x + 1, v2, hs ++ [hdrOf v1], r ++ [(List.replicate n false).set x true]) (agree_ups rfl agree_self) ⟨rfl, rfl, trivial⟩ ⟨?_, ?_, hx0_4, ?_, ?_, ?_⟩ ?_
    · first | exact ho7 | (simpa using ho7)
    · first | exact hot5 | (simpa using hot5)
    · try dsimp only
      omega
    · try dsimp only
      simp [hrl]
    · try dsimp only
      intro i hi
      by_cases e : i < x
      · rw [gt_append_left (by omega)]; exact hrw i e
      · rw [show i = r.length from by omega, gt_append_right, show x = r.length from by omega]; exact id_row (by omega)
    · first | omega | (dsimp only; omega)
  · refine lx_nil <| wi_false rfl <| wi_exit rfl <| wi_seq <| wi_seq <| wi_reg rfl <| ?_
    have hrr : r = tabF n (fun x y => decide (x = y)) := tab_rows (by omega) (fun j hj => hrw j (by omega))
    have hq0 : Sq r n := by rw [hrr]; exact tabF_sq _ _
    refine lx_assign (.int .i64 0) rfl rfl <| lx_nil <| wi_block <| ?_
    refine wi_loop (σ := Nat × (List (List Bool))) (rngB 27 47 [9]) (fun (ss : Nat × (List (List Bool))) => [(9, .int .i64 ((ss.1 : Nat) : Int))]) (fun (ss : Nat × (List (List Bool))) (hh : Heap) => OwE encHd hh h.size 70 v hs ∧ OT encB hh h.size 4 hs ss.2 ∧ Ext h.size h hh ∧ (ss.1 ≤ ls.length) ∧ (Sq ss.2 n) ∧ (∀ x y, x < n → y < n → pb ss.2 x y = pairW ls ss.1 x y)) (fun (ss : Nat × (List (List Bool))) => ls.length - ss.1) (0, r) ⟨rfl, trivial⟩ ⟨?_, ?_, hx0_1, ?_, ?_, ?_⟩ ?_
    · first | exact ho1 | (simpa using ho1)
    · first | exact hot1 | (simpa using hot1)
    · try dsimp only
      omega
    · try dsimp only
      exact hq0
    · try dsimp only
      intro x y hx hy; rw [hrr, pb_tabF hx hy, pairW_zero]
    rintro g2 ⟨i, r⟩ hh2 ⟨ho8, hot6, hx0_5, hi, hq, hp⟩ IH2
    dsimp only at *
    have hq1 := hq.1
    have hl_hot6 := hot6.1
    refine wi_seq <| wi_seq <| wi_reg rfl <| lx_move (.int .i64 ((i : Nat) : Int)) rfl rfl <| lx_move (vl) rfl rfl <| lx_len rfl Try.underlying22 hr_vl rfl <| lx_lssS rfl rfl rfl (fun c2 => ?_) (fun c2 => ?_)
    · refine lx_nil <| wi_true rfl <| wi_skip <| wi_seq <| wi_block <| wi_draw mo rfl (by decide +kernel) <| ?_
      obtain ⟨h91, h92, h93, h94⟩ := inR_iff.1 (hp3 i (by omega))
      obtain ⟨a, b, hgc, ha, hb⟩ : ∃ a b : Nat, gt ls i = ((a : Int), (b : Int)) ∧ a < n ∧ b < n := ⟨(gt ls i).1.toNat, (gt ls i).2.toNat, Prod.ext (by show _ = ((_ : Nat) : Int); omega) (by show _ = ((_ : Nat) : Int); omega), by omega, by omega⟩
      refine lx_move (v) rfl rfl <| lx_move (vl) rfl rfl <| lx_move (.int .i64 ((i : Nat) : Int)) rfl rfl <| lx_ix (i := i) rfl eT22 hr_vl rfl rfl (by omega) <| lx_ixP (i := i) (c := 0) rfl Try.underlying85 Try.sizeOf3 hr_vl (by omega) rfl rfl (by decide) <| lx_ld (i := i) (j := 0) (.int .i64 ((a : Nat) : Int)) rfl rfl fl3 (hr_vl.extS hx0_5) (by omega) (by rw [hgc]; rfl) rfl <| lx_ix (i := a) rfl eT23 ho8.rd rfl rfl (by omega) <| lx_ld (i := a) (j := 0) ((gt hs a).v) rfl rfl fl70 ho8.rd (by omega) rfl rfl <| lx_move (vl) rfl rfl <| lx_move (.int .i64 ((i : Nat) : Int)) rfl rfl <| lx_ix (i := i) rfl eT22 hr_vl rfl rfl (by omega) <| lx_ixP (i := i) (c := 1) rfl Try.underlying85 Try.sizeOf3 hr_vl (by omega) rfl rfl (by decide) <| lx_ld (i := i) (j := 1) (.int .i64 ((b : Nat) : Int)) rfl rfl fl3 (hr_vl.extS hx0_5) (by omega) (by rw [hgc]; rfl) rfl <| lx_ix (i := b) rfl eT70 (hot6.2.1 a (by omega)).rd rfl rfl (by rw [hq.2 a (by omega)]; omega) <| lx_st (i := b) true rfl rfl Try.sizeOf4 (hot6.2.1 a (by omega)) (by rw [hq.2 a (by omega)]; omega) rfl rfl (fun _ _ _ _ _ => trivial) fun h4 ho9 hc3 hsz2 => ?_
      have hx0_6 := hx0_5.trans ((hot6.2.1 a (by omega)).ext hc3 hx0_5.size)
      have ho10 := ho8.chg hc3 (Dj.symm ((djt_ty hot6 ho8 (by decide)) a (by rw [hot6.1]; exact (by omega))))
      have hot7 := OT.cell hot6 (by omega) hc3 ho9
      have hl_hot7 := hot7.1
      refine lx_nil <| wi_inBlock <| wi_reg rfl <| lx_move (.int .i64 ((i : Nat) : Int)) rfl rfl <| lx_add (((i + 1 : Nat) : Int)) rfl rfl rfl (by omega) (by omega) (by omega) <| lx_assign (.int .i64 ((i + 1 : Nat) : Int)) rfl rfl <| lx_nil <| ?_
      -- L2.1
      refine IH2 _ _ (i + 1, r.set a ((gt r a).set b true)) (agree_ups rfl agree_self) ⟨rfl, trivial⟩ ⟨?_, ?_, hx0_6, ?_, ?_, ?_⟩ ?_
      · first | exact ho10 | (simpa using ho10)
      · first | exact hot7 | (simpa using hot7)
      · try dsimp only
        omega
      · try dsimp only
        exact sq_set hq (by omega)
      · try dsimp only
        exact pairW_step (by omega) hq ha hb hgc hp
      · first | omega | (dsimp only; omega)
    · refine lx_nil <| wi_false rfl <| wi_exit rfl <| wi_seq <| wi_seq <| wi_reg rfl <| lx_assign (.int .i64 0) rfl rfl <| lx_nil <| wi_block <| ?_
      refine wi_loop (σ := Nat × (List (List Bool))) (rngB 47 93 [10, 11, 12]) (fun (ss : Nat × (List (List Bool))) => [(10, .int .i64 ((ss.1 : Nat) : Int))]) (fun (ss : Nat × (List (List Bool))) (hh : Heap) => OwE encHd hh h.size 70 v hs ∧ OT encB hh h.size 4 hs ss.2 ∧ Ext h.size h hh ∧ (ss.1 ≤ n) ∧ (Sq ss.2 n) ∧ (∀ a c, a < n → c < n → pb ss.2 a c = warN (pairW ls ls.length) ss.1 a c)) (fun (ss : Nat × (List (List Bool))) => n - ss.1) (0, r) ⟨rfl, trivial⟩ ⟨?_, ?_, hx0_5, ?_, ?_, ?_⟩ ?_
      · first | exact ho8 | (simpa using ho8)
      · first | exact hot6 | (simpa using hot6)
      · try dsimp only
        omega
      · try dsimp only
        exact hq
      · try dsimp only
        rw [show ls.length = i from by omega]; exact hp
      rintro g3 ⟨y, r⟩ hh3 ⟨ho11, hot8, hx0_7, hy, hq, hr⟩ IH3
      dsimp only at *
      have hq1 := hq.1
      have hl_hot8 := hot8.1
      refine wi_seq <| wi_seq <| wi_reg rfl <| lx_move (.int .i64 ((y : Nat) : Int)) rfl rfl <| lx_move (.int .i64 ((n : Nat) : Int)) rfl rfl <| lx_lssS rfl rfl rfl (fun c3 => ?_) (fun c3 => ?_)
      · refine lx_nil <| wi_true rfl <| wi_skip <| wi_seq <| wi_block <| wi_seq <| wi_reg rfl <| lx_assign (.int .i64 0) rfl rfl <| lx_nil <| wi_block <| ?_
        refine wi_loop (σ := Nat × (List (List Bool))) (rngB 52 93 [11, 12]) (fun (ss : Nat × (List (List Bool))) => [(11, .int .i64 ((ss.1 : Nat) : Int))]) (fun (ss : Nat × (List (List Bool))) (hh : Heap) => OwE encHd hh h.size 70 v hs ∧ OT encB hh h.size 4 hs ss.2 ∧ Ext h.size h hh ∧ (ss.1 ≤ n) ∧ (Sq ss.2 n) ∧ (∀ a c, a < n → c < n → pb ss.2 a c = warS (warN (pairW ls ls.length) y) y ss.1 0 a c)) (fun (ss : Nat × (List (List Bool))) => n - ss.1) (0, r) ⟨rfl, trivial⟩ ⟨?_, ?_, hx0_7, ?_, ?_, ?_⟩ ?_
        · first | exact ho11 | (simpa using ho11)
        · first | exact hot8 | (simpa using hot8)
        · try dsimp only
          omega
        · try dsimp only
          exact hq
        · try dsimp only
          intro a c ha hc; rw [warS_zero]; exact hr a c ha hc
        rintro g4 ⟨x, r⟩ hh4 ⟨ho12, hot9, hx0_8, hx, hq, hr⟩ IH4
        dsimp only at *
        have hq1 := hq.1
        have hl_hot9 := hot9.1
        refine wi_seq <| wi_seq <| wi_reg rfl <| lx_move (.int .i64 ((x : Nat) : Int)) rfl rfl <| lx_move (.int .i64 ((n : Nat) : Int)) rfl rfl <| lx_lssS rfl rfl rfl (fun c4 => ?_) (fun c4 => ?_)
        · refine lx_nil <| wi_true rfl <| wi_skip <| wi_seq <| wi_block <| wi_seq <| wi_reg rfl <| lx_assign (.int .i64 0) rfl rfl <| lx_nil <| wi_block <| ?_
          refine wi_loop (σ := Nat × (List (List Bool))) (rngB 57 93 [12]) (fun (ss : Nat × (List (List Bool))) => [(12, .int .i64 ((ss.1 : Nat) : Int))]) (fun (ss : Nat × (List (List Bool))) (hh : Heap) => OwE encHd hh h.size 70 v hs ∧ OT encB hh h.size 4 hs ss.2 ∧ Ext h.size h hh ∧ (ss.1 ≤ n) ∧ (Sq ss.2 n) ∧ (∀ a c, a < n → c < n → pb ss.2 a c = warS (warN (pairW ls ls.length) y) y x ss.1 a c)) (fun (ss : Nat × (List (List Bool))) => n - ss.1) (0, r) ⟨rfl, trivial⟩ ⟨?_, ?_, hx0_8, ?_, ?_, ?_⟩ ?_
          · first | exact ho12 | (simpa using ho12)
          · first | exact hot9 | (simpa using hot9)
          · try dsimp only
            omega
          · try dsimp only
            exact hq
          · try dsimp only
            exact hr
          rintro g5 ⟨z, r⟩ hh5 ⟨ho13, hot10, hx0_9, hz, hq, hr⟩ IH5
          dsimp only at *
          have hq1 := hq.1
          have hl_hot10 := hot10.1
          refine wi_seq <| wi_seq <| wi_reg rfl <| lx_move (.int .i64 ((z : Nat) : Int)) rfl rfl <| lx_move (.int .i64 ((n : Nat) : Int)) rfl rfl <| lx_lssS rfl rfl rfl (fun c5 => ?_) (fun c5 => ?_)
          · refine lx_nil <| wi_true rfl <| wi_skip <| wi_seq <| wi_block <| wi_draw mo rfl (by decide +kernel) <| lx_move (v) rfl rfl <| lx_move (.int .i64 ((x : Nat) : Int)) rfl rfl <| lx_ix (i := x) rfl eT23 ho13.rd rfl rfl (by omega) <| lx_ld (i := x) (j := 0) ((gt hs x).v) rfl rfl fl70 ho13.rd (by omega) rfl rfl <| lx_move (.int .i64 ((z : Nat) : Int)) rfl rfl <| lx_move (v) rfl rfl <| lx_move (.int .i64 ((x : Nat) : Int)) rfl rfl <| lx_ix (i := x) rfl eT23 ho13.rd rfl rfl (by omega) <| lx_ld (i := x) (j := 0) ((gt hs x).v) rfl rfl fl70 ho13.rd (by omega) rfl rfl <| lx_move (.int .i64 ((z : Nat) : Int)) rfl rfl <| lx_ix (i := z) rfl eT70 (hot10.2.1 x (by omega)).rd rfl rfl (by rw [hq.2 x (by omega)]; omega) <| lx_ld (i := z) (j := 0) (.bool (gt (gt r x) z)) rfl rfl fl4 (hot10.2.1 x (by omega)).rd (by rw [hq.2 x (by omega)]; omega) rfl rfl <| lx_move (.bool (gt (gt r x) z)) rfl rfl <| ?_
            cases c6 : (gt (gt r x) z)
            · refine lx_move (v) rfl rfl <| lx_move (.int .i64 ((x : Nat) : Int)) rfl rfl <| lx_ix (i := x) rfl eT23 ho13.rd rfl rfl (by omega) <| lx_ld (i := x) (j := 0) ((gt hs x).v) rfl rfl fl70 ho13.rd (by omega) rfl rfl <| lx_move (.int .i64 ((y : Nat) : Int)) rfl rfl <| lx_ix (i := y) rfl eT70 (hot10.2.1 x (by omega)).rd rfl rfl (by rw [hq.2 x (by omega)]; omega) <| lx_ld (i := y) (j := 0) (.bool (gt (gt r x) y)) rfl rfl fl4 (hot10.2.1 x (by omega)).rd (by rw [hq.2 x (by omega)]; omega) rfl rfl <| lx_move (.bool (gt (gt r x) y)) rfl rfl <| ?_
              cases c7 : (gt (gt r x) y)
              · refine lx_skip rfl <| lx_skip rfl <| lx_skip rfl <| lx_skip rfl <| lx_skip rfl <| lx_skip rfl <| lx_skip rfl <| lx_pick false (.bool false) rfl rfl rfl <| lx_pick false (.bool false) rfl rfl rfl <| lx_ix (i := z) rfl eT70 (hot10.2.1 x (by omega)).rd rfl rfl (by rw [hq.2 x (by omega)]; omega) <| lx_st (i := z) false rfl rfl Try.sizeOf4 (hot10.2.1 x (by omega)) (by rw [hq.2 x (by omega)]; omega) rfl rfl (fun _ _ _ _ _ => trivial) fun h5 ho14 hc4 hsz3 => ?_
                have hx0_10 := hx0_9.trans ((hot10.2.1 x (by omega)).ext hc4 hx0_9.size)
                have ho15 := ho13.chg hc4 (Dj.symm ((djt_ty hot10 ho13 (by decide)) x (by rw [hot10.1]; exact (by omega))))
                have hot11 := OT.cell hot10 (by omega) hc4 ho14
                have hl_hot11 := hot11.1
                refine lx_nil <| wi_inBlock <| wi_reg rfl <| lx_move (.int .i64 ((z : Nat) : Int)) rfl rfl <| lx_add (((z + 1 : Nat) : Int)) rfl rfl rfl (by omega) (by omega) (by omega) <| lx_assign (.int .i64 ((z + 1 : Nat) : Int)) rfl rfl <| lx_nil <| ?_
                -- L8.1
                refine IH5 _ _ (z + 1, r.set x ((gt r x).set z false)) (agree_ups rfl agree_self) ⟨rfl, trivial⟩ ⟨?_, ?_, hx0_10, ?_, ?_, ?_⟩ ?_
                · first | exact ho15 | (simpa using ho15)
                · first | exact hot11 | (simpa using hot11)
                · try dsimp only
                  omega
                · try dsimp only
                  exact sq_set hq (by omega)
                · try dsimp only
                  exact warS_step hq (by omega) (by omega) hr (by rw [warS_val (r := r) (by omega) (by omega) (by omega) hr]; first | exact or_t (by with_reducible assumption) | exact or_f (by with_reducible assumption) (by with_reducible assumption) | exact or_v (by with_reducible assumption) (by with_reducible assumption))
                · first | omega | (dsimp only; omega)
              · refine lx_move (v) rfl rfl <| lx_move (.int .i64 ((y : Nat) : Int)) rfl rfl <| lx_ix (i := y) rfl eT23 ho13.rd rfl rfl (by omega) <| lx_ld (i := y) (j := 0) ((gt hs y).v) rfl rfl fl70 ho13.rd (by omega) rfl rfl <| lx_move (.int .i64 ((z : Nat) : Int)) rfl rfl <| lx_ix (i := z) rfl eT70 (hot10.2.1 y (by omega)).rd rfl rfl (by rw [hq.2 y (by omega)]; omega) <| lx_ld (i := z) (j := 0) (.bool (gt (gt r y) z)) rfl rfl fl4 (hot10.2.1 y (by omega)).rd (by rw [hq.2 y (by omega)]; omega) rfl rfl <| lx_pick true (.bool (gt (gt r y) z)) rfl rfl rfl <| lx_pick false (.bool (gt (gt r y) z)) rfl rfl rfl <| lx_ix (i := z) rfl eT70 (hot10.2.1 x (by omega)).rd rfl rfl (by rw [hq.2 x (by omega)]; omega) <| lx_st (i := z) (gt (gt r y) z) rfl rfl Try.sizeOf4 (hot10.2.1 x (by omega)) (by rw [hq.2 x (by omega)]; omega) rfl rfl (fun _ _ _ _ _ => trivial) fun h6 ho16 hc5 hsz4 => ?_
                have hx0_11 := hx0_9.trans ((hot10.2.1 x (by omega)).ext hc5 hx0_9.size)
                have ho17 := ho13.chg hc5 (Dj.symm ((djt_ty hot10 ho13 (by decide)) x (by rw [hot10.1]; exact (by omega))))
                have hot12 := OT.cell hot10 (by omega) hc5 ho16
                have hl_hot12 := hot12.1
                refine lx_nil <| wi_inBlock <| wi_reg rfl <| lx_move (.int .i64 ((z : Nat) : Int)) rfl rfl <| lx_add (((z + 1 : Nat) : Int)) rfl rfl rfl (by omega) (by omega) (by omega) <| lx_assign (.int .i64 ((z + 1 : Nat) : Int)) rfl rfl <| lx_nil <| ?_
                -- L8.2
                refine IH5 _ _ (z + 1, r.set x ((gt r x).set z (gt (gt r y) z))) (agree_ups rfl agree_self) ⟨rfl, trivial⟩ ⟨?_, ?_, hx0_11, ?_, ?_, ?_⟩ ?_
                · first | exact ho17 | (simpa using ho17)
                · first | exact hot12 | (simpa using hot12)
                · try dsimp only
                  omega
                · try dsimp only
                  exact sq_set hq (by omega)
                · try dsimp only
                  exact warS_step hq (by omega) (by omega) hr (by rw [warS_val (r := r) (by omega) (by omega) (by omega) hr]; first | exact or_t (by with_reducible assumption) | exact or_f (by with_reducible assumption) (by with_reducible assumption) | exact or_v (by with_reducible assumption) (by with_reducible assumption))
                · first | omega | (dsimp only; omega)
            · refine lx_skip rfl <| lx_skip rfl <| lx_skip rfl <| lx_skip rfl <| lx_skip rfl <| lx_skip rfl <| lx_skip rfl <| lx_skip rfl <| lx_skip rfl <| lx_skip rfl <| lx_skip rfl <| lx_skip rfl <| lx_skip rfl <| lx_skip rfl <| lx_skip rfl <| lx_skip rfl <| lx_pick true (.bool true) rfl rfl rfl <| lx_ix (i := z) rfl eT70 (hot10.2.1 x (by omega)).rd rfl rfl (by rw [hq.2 x (by omega)]; omega) <| lx_st (i := z) true rfl rfl Try.sizeOf4 (hot10.2.1 x (by omega)) (by rw [hq.2 x (by omega)]; omega) rfl rfl (fun _ _ _ _ _ => trivial) fun h7 ho18 hc6 hsz5 => ?_
              have hx0_12 := hx0_9.trans ((hot10.2.1 x (by omega)).ext hc6 hx0_9.size)
              have ho19 := ho13.chg hc6 (Dj.symm ((djt_ty hot10 ho13 (by decide)) x (by rw [hot10.1]; exact (by omega))))
              have hot13 := OT.cell hot10 (by omega) hc6 ho18
              have hl_hot13 := hot13.1
              refine lx_nil <| wi_inBlock <| wi_reg rfl <| lx_move (.int .i64 ((z : Nat) : Int)) rfl rfl <| lx_add (((z + 1 : Nat) : Int)) rfl rfl rfl (by omega) (by omega) (by omega) <| lx_assign (.int .i64 ((z + 1 : Nat) : Int)) rfl rfl <| lx_nil <| ?_
              -- L8.3
              refine IH5 _ _ (z + 1, r.set x ((gt r x).set z true)) (agree_ups rfl agree_self) ⟨rfl, trivial⟩ ⟨?_, ?_, hx0_12, ?_, ?_, ?_⟩ ?_
              · first | exact ho19 | (simpa using ho19)
              · first | exact hot13 | (simpa using hot13)
              · try dsimp only
                omega
              · try dsimp only
                exact sq_set hq (by omega)
              · try dsimp only
                exact warS_step hq (by omega) (by omega) hr (by rw [warS_val (r := r) (by omega) (by omega) (by omega) hr]; first | exact or_t (by with_reducible assumption) | exact or_f (by with_reducible assumption) (by with_reducible assumption) | exact or_v (by with_reducible assumption) (by with_reducible assumption))
              · first | omega | (dsimp only; omega)
          · refine lx_nil <| wi_false rfl <| wi_exit rfl <| wi_inBlock <| wi_reg rfl <| lx_move (.int .i64 ((x : Nat) : Int)) rfl rfl <| lx_add (((x + 1 : Nat) : Int)) rfl rfl rfl (by omega) (by omega) (by omega) <| lx_assign (.int .i64 ((x + 1 : Nat) : Int)) rfl rfl <| lx_nil <| ?_
            -- L6.1
            refine IH4 _ _ (x + 1, r) (agree_ups rfl (agree_mix (rngB_sub (by decide) (by decide) rfl) (agree_ups rfl agree_self))) ⟨rfl, trivial⟩ ⟨?_, ?_, hx0_9, ?_, ?_, ?_⟩ ?_
            · first | exact ho13 | (simpa using ho13)
            · first | exact hot10 | (simpa using hot10)
            · try dsimp only
              omega
            · try dsimp only
              exact hq
            · try dsimp only
              intro a c ha hc; rw [hr a c ha hc, show z = n from by omega]; exact warS_next _ hc
            · first | omega | (dsimp only; omega)
        · refine lx_nil <| wi_false rfl <| wi_exit rfl <| wi_inBlock <| wi_reg rfl <| lx_move (.int .i64 ((y : Nat) : Int)) rfl rfl <| lx_add (((y + 1 : Nat) : Int)) rfl rfl rfl (by omega) (by omega) (by omega) <| lx_assign (.int .i64 ((y + 1 : Nat) : Int)) rfl rfl <| lx_nil <| ?_
          -- L4.1
          refine IH3 _ _ (y + 1, r) (agree_ups rfl (agree_mix (rngB_sub (by decide) (by decide) rfl) (agree_ups rfl agree_self))) ⟨rfl, trivial⟩ ⟨?_, ?_, hx0_8, ?_, ?_, ?_⟩ ?_
          · first | exact ho12 | (simpa using ho12)
          · first | exact hot9 | (simpa using hot9)
          · try dsimp only
            omega
          · try dsimp only
            exact hq
          · try dsimp only
            intro a c ha hc; rw [hr a c ha hc, show x = n from by omega]; exact warS_end _ ha
          · first | omega | (dsimp only; omega)
      · refine lx_nil <| wi_false rfl <| wi_exit rfl <| wi_seq <| wi_reg rfl <| ?_
        have hrt : r = tabF n (closW n ls) := tab_ext hq (fun a c ha hc => by rw [hr a c ha hc, show y = n from by omega]; rfl)
        refine lx_move (v) rfl rfl <| lx_move (v) rfl rfl <| lx_call [v] rfl rfl Try.call112 rfl (risorder_spec hh3 v hs r ho11.rd hot8.rt (by omega) (fun i hi => by rw [hq.2 i (by rw [← hq.1]; exact hi)]; omega)) (fun _ _ _ => trivial) ?_
        rintro _ h8 ⟨rfl, rfl⟩
        have hit : isT r = ordB n (closW n ls) := isT_tab hrt
        rw [hit]
        refine lx_assign (v) rfl rfl <| lx_assign (.bool (ordB n (closW n ls))) rfl rfl <| lx_nil <| ?_
        -- R1
        refine wi_ret ⟨.tuple #[v, .bool (ordB n (closW n ls))], (res_two rfl rfl rfl), ⟨v, hs, rfl, ?_, ?_, hx0_7⟩⟩
        · exact ho11
        · rw [← hrt]; exact hot8

end Go.Proofs.Ytdokijbdnajhgaa
namespace Go.X
open Go.ChangeShapes Go.WideShapes Go.RowKit

theorem lift_rows {H : Type} {enc : TypeId × Value → H} {P : Program} {W : World} {t e q : TypeId} {v : Value} {d : DataW H} {ps : List MemPlace} (ht : P.underlying t = some (.slice e)) (he : P.underlying e = some (.slice q)) (hq : P.underlying q = some .bool) (hc : P.cellsOf e = 1) (hc1 : P.cellsOf q = 1)
    (hv : Value.okWide P W .any 0 t v) (h : DataW.Trod enc P W 0 (fun _ => true) true t v d ps) :
    ∃ (hs : List Hdr) (xs : List (List Bool)), RdE encHd W.heap v hs ∧ RT encB W.heap hs xs ∧ xs.length ≤ 9223372036854775807 ∧ ∀ i, i < xs.length → (gt xs i).length ≤ 9223372036854775807 := by
  obtain ⟨a0, len0, cap0, rfl⟩ := okWide_slice ht hv
  obtain ⟨fuel, hf⟩ := h
  rcases Deep.open_bool_rows ht he hq hc hc1 hf with ⟨hcs, _⟩ | ⟨a, len, cap, A, L, C, B, hcs, _, hl, hm, _, hx⟩
  · simp [Value.cells] at hcs
    obtain ⟨rfl, rfl, rfl⟩ := hcs
    exact ⟨[], [], rd_nil _, rt_nil _ _, by simp, fun i hi => absurd hi (by simp)⟩
  · simp [Value.cells] at hcs
    obtain ⟨rfl, rfl, rfl⟩ := hcs
    have hl1 : ((List.range len0).map fun r => (⟨A r, L r, C r⟩ : Hdr)).length = len0 := by simp
    have hg1 : ∀ i, i < len0 → gt ((List.range len0).map fun r => (⟨A r, L r, C r⟩ : Hdr)) i = ⟨A i, L i, C i⟩ := fun i hi => by rw [gt_eq (by simpa using hi)]; simp
    have hl2 : ((List.range len0).map fun r => (List.range (L r)).map (B r)).length = len0 := by simp
    have hg2 : ∀ i, i < len0 → gt ((List.range len0).map fun r => (List.range (L r)).map (B r)) i = (List.range (L i)).map (B i) := fun i hi => by rw [gt_eq (by simpa using hi)]; simp
    refine ⟨(List.range len0).map fun r => (⟨A r, L r, C r⟩ : Hdr), (List.range len0).map fun r => (List.range (L r)).map (B r), rdE_mk hl hl1 fun i hi j hj u hu => ?_, ⟨by rw [hl1, hl2], fun i hi => ?_⟩, ?_, fun i hi => ?_⟩
    · have : j = 0 := by simp only [encHd] at hj; omega
      subst this
      rw [hg1 i hi] at hu
      simp [encHd] at hu
      subst hu
      have := (hx i (by omega)).1
      simpa [encHd] using this
    · rw [hl2] at hi
      rw [hg1 i hi, hg2 i hi]
      obtain ⟨_, h2, h3, h4, h5⟩ := hx i (by omega)
      show RdE encB W.heap (.slice (A i) (L i) (C i)) _
      cases ha : A i with
      | none =>
        have hC := h4 ha
        have hL : L i = 0 := by omega
        rw [hC, hL]; exact rd_nil _
      | some a' =>
        obtain ⟨_, h6⟩ := h5 a' ha
        refine rdE_mk h2 (by simp) fun c hc' j hj u hu => ?_
        have : j = 0 := by simp only [encB] at hj; omega
        subst this
        rw [gt_eq (by simpa using hc')] at hu
        simp [encB] at hu
        subst hu
        have := h6 c (by omega)
        simpa [encB] using this
    · rw [hl2]; unfold maxLen at hm; omega
    · rw [hl2] at hi
      rw [hg2 i hi]
      have h2 := (hx i (by omega)).2.1
      have h3 := (hx i (by omega)).2.2.1
      unfold maxLen at h3
      rw [List.length_map, List.length_range]; omega
end Go.X
namespace Go.Proofs.Ytdokijbdnajhgaa
open Go.Shelf
def Try.lays189_ren : Go.Shelf.Ren := ⟨fun | 189 => 82 | 125 => 127 | 257 => 126 | 128 => 166 | 129 => 167 | 294 => 158 | 295 => 159 | 296 => 160 | 297 => 161 | 298 => 162 | 299 => 163 | 216 => 128 | 300 => 164 | 301 => 165 | 328 => 177 | 329 => 178 | 330 => 179 | 331 => 180 | 332 => 181 | 215 => 168 | 343 => 185 | n => n, fun | 28 => 25 | 3 => 3 | 46 => 45 | 0 => 0 | 51 => 163 | 53 => 149 | 4 => 4 | 183 => 184 | 182 => 183 | 131 => 113 | 5 => 5 | 9 => 9 | 218 => 194 | 222 => 198 | 228 => 203 | 229 => 77 | n => n, fun | n => n⟩
theorem Try.lays189 : Go.Proofs.Lays.n189 Try.prog Try.lays189_ren := {
  mixed := by kernel_rfl
  f125 := Try.func127.trans (congrArg some (by kernel_rfl))
  f128 := Try.func166.trans (congrArg some (by kernel_rfl))
  f129 := Try.func167.trans (congrArg some (by kernel_rfl))
  f189 := Try.func82.trans (congrArg some (by kernel_rfl))
  f215 := Try.func168.trans (congrArg some (by kernel_rfl))
  f216 := Try.func128.trans (congrArg some (by kernel_rfl))
  f257 := Try.func126.trans (congrArg some (by kernel_rfl))
  f294 := Try.func158.trans (congrArg some (by kernel_rfl))
  f295 := Try.func159.trans (congrArg some (by kernel_rfl))
  f296 := Try.func160.trans (congrArg some (by kernel_rfl))
  f297 := Try.func161.trans (congrArg some (by kernel_rfl))
  f298 := Try.func162.trans (congrArg some (by kernel_rfl))
  f299 := Try.func163.trans (congrArg some (by kernel_rfl))
  f300 := Try.func164.trans (congrArg some (by kernel_rfl))
  f301 := Try.func165.trans (congrArg some (by kernel_rfl))
  f328 := Try.func177.trans (congrArg some (by kernel_rfl))
  f329 := Try.func178.trans (congrArg some (by kernel_rfl))
  f330 := Try.func179.trans (congrArg some (by kernel_rfl))
  f331 := Try.func180.trans (congrArg some (by kernel_rfl))
  f332 := Try.func181.trans (congrArg some (by kernel_rfl))
  f343 := Try.func185.trans (congrArg some (by kernel_rfl))
  t0 := Try.underlying0
  a0 := Try.isAgg0
  z0 := Try.sizeOf0
  v0 := Try.zeroValue0
  t3 := Try.underlying3
  a3 := Try.isAgg3
  z3 := Try.sizeOf3
  v3 := Try.zeroValue3
  t4 := Try.underlying4
  a4 := Try.isAgg4
  z4 := Try.sizeOf4
  v4 := Try.zeroValue4
  t5 := Try.underlying5
  a5 := Try.isAgg5
  z5 := Try.sizeOf5
  v5 := Try.zeroValue5
  t9 := Try.underlying9
  a9 := Try.isAgg9
  z9 := Try.sizeOf9
  v9 := Try.zeroValue9
  t28 := Try.underlying25
  a28 := Try.isAgg25
  z28 := Try.sizeOf25
  v28 := Try.zeroValue25
  t46 := Try.underlying45
  a46 := Try.isAgg45
  z46 := Try.sizeOf45
  v46 := Try.zeroValue45
  t51 := Try.underlying163
  a51 := Try.isAgg163
  z51 := Try.sizeOf163
  v51 := Try.zeroValue163
  t53 := Try.underlying149
  a53 := Try.isAgg149
  z53 := Try.sizeOf149
  v53 := Try.zeroValue149
  t131 := Try.underlying113
  a131 := Try.isAgg113
  z131 := Try.sizeOf113
  v131 := Try.zeroValue113
  t182 := Try.underlying183
  a182 := Try.isAgg183
  z182 := Try.sizeOf183
  v182 := Try.zeroValue183
  t183 := Try.underlying184
  a183 := Try.isAgg184
  z183 := Try.sizeOf184
  v183 := Try.zeroValue184
  t218 := Try.underlying194
  a218 := Try.isAgg194
  z218 := Try.sizeOf194
  v218 := Try.zeroValue194
  t222 := Try.underlying198
  a222 := Try.isAgg198
  z222 := Try.sizeOf198
  v222 := Try.zeroValue198
  t228 := Try.underlying203
  a228 := Try.isAgg203
  z228 := Try.sizeOf203
  v228 := Try.zeroValue203
  t229 := Try.underlying77
  a229 := Try.isAgg77
  z229 := Try.sizeOf77
  v229 := Try.zeroValue77 }
open Go.Sort Go.RowKit in
theorem Try.slices_Sort_int (blk off cap : Nat) (zs : List Int) (w : World) (hH : Holds (Value.int .i64) w blk off zs.toArray) (hblk : blk < w.heap.size) (hsz : zs.length < 4611686018427387904) :
    Calls Try.prog 82 #[.slice (some ⟨blk, off, none⟩) zs.length cap] w fun e w' =>
      e = .returned (.tuple #[]) ∧ ∃ n os, w' = grow (putRow (Value.int .i64) (Sort.ahead w n) blk off (zs.mergeSort fun x y => decide (x ≤ y)).toArray) os := Any.slices_Sort_int Try.lays189 blk off cap zs w hH hblk hsz
def Try.laysNm220_ren : Go.Shelf.Ren := ⟨fun | 20 => 123 | n => n, fun | 22 => 25 | 3 => 3 | 4 => 4 | 0 => 0 | n => n, fun | n => n⟩
theorem Try.laysNm220 : Go.Proofs.Lays2.n20 Try.prog Try.laysNm220_ren := {
  mixed := by kernel_rfl
  f20 := Try.func123.trans (congrArg some (by kernel_rfl))
  t0 := Try.underlying0
  a0 := Try.isAgg0
  z0 := Try.sizeOf0
  v0 := Try.zeroValue0
  t3 := Try.underlying3
  a3 := Try.isAgg3
  z3 := Try.sizeOf3
  v3 := Try.zeroValue3
  t4 := Try.underlying4
  a4 := Try.isAgg4
  z4 := Try.sizeOf4
  v4 := Try.zeroValue4
  t22 := Try.underlying25
  a22 := Try.isAgg25
  z22 := Try.sizeOf25
  v22 := Try.zeroValue25
  i3 := by kernel_rfl }
open Go.RowKit Go.Lib Go.Sort in
theorem Try.slices_Compact_int (blk off cap : Nat) (zs : List Int) (w : World) (hH : Holds (Value.int .i64) w blk off zs.toArray) (hsz : zs.length ≤ 9223372036854775807) (hcap : zs.length ≤ cap) :
    Calls Try.prog 123 #[.slice (some ⟨blk, off, none⟩) zs.length cap] w fun e w' => e = .returned (.slice (some ⟨blk, off, none⟩) (Lib.compact zs).length cap) ∧ ∃ q, w' = putRow (Value.int .i64) (Sort.ahead w q) blk off (Lib.compact zs ++ List.replicate (zs.length - (Lib.compact zs).length) 0).toArray := Any.slices_Compact_int Try.laysNm220 blk off cap zs w hH hsz hcap
end Go.Proofs.Ytdokijbdnajhgaa
namespace Go.Proofs.Ytdokijbdnajhgaa
open Go Go.X Go.Sort
/-- The name, here. -/
abbrev encI : Enc Int := Go.X.encI
theorem flat_encI (xs : List Int) : xs.flatMap encI.f = xs.map (Value.int .i64) := by
  induction xs with
  | nil => rfl
  | cons x xs ih => rw [List.flatMap_cons, ih]; rfl
theorem put_take (d : List Int) (c : Array Value) (k : Nat) (hk : k ≤ d.length) (hc : d.length ≤ c.size) : (putCells (Value.int .i64) 0 d.toArray c).toList.take k = (d.take k).map (Value.int .i64) := by
  apply List.ext_getElem?
  intro i
  unfold putCells
  rw [List.getElem?_take]
  by_cases hi : i < k
  · rw [if_pos hi, Array.getElem?_toList, Array.getElem?_mapIdx, List.getElem?_map, List.getElem?_take, if_pos hi]
    rw [Array.getElem?_eq_getElem (by omega : i < c.size), List.getElem?_eq_getElem (by omega : i < d.length)]
    simp only [Option.map_some, Nat.sub_zero, Nat.zero_add, Nat.zero_le, true_and, List.size_toArray]
    rw [if_pos (by omega), getElem!_pos d.toArray i (by simpa using (by omega : i < d.length))]
    simp
  · rw [if_neg hi, List.getElem?_map, List.getElem?_take, if_neg hi]; rfl
/-- What the heap is when a row's cells have been written and blocks have come. -/
theorem put_own {h h' : Heap} {B : Nat} {e : TypeId} {g cap : Nat} {cur : Array Value} {d : List Int} {os : Array Obj} (hB : B ≤ g) (hg : h[g]? = some (.cells cur e (0, 0))) (hd : d.length ≤ cap) (hcap : cap ≤ maxLen) (hcur : cur.size = cap * 1)
    (hh : h' = (h.modify g (onCells (putCells (Value.int .i64) 0 d.toArray))) ++ os) (k : Nat) (hk : k ≤ d.length) :
    OwE encI h' B e (.slice (some ⟨g, 0, none⟩) k cap) (d.take k) ∧ Chg (.slice (some ⟨g, 0, none⟩) d.length cap) h h' := by
  have hgl : g < h.size := (Array.getElem?_eq_some_iff.1 hg).1
  have hsz : (h.modify g (onCells (putCells (Value.int .i64) 0 d.toArray))).size = h.size := by simp
  have e1 : h'[g]? = some (.cells (putCells (Value.int .i64) 0 d.toArray cur) e (0, 0)) := by
    rw [hh, Array.getElem?_append_left (by omega), Array.getElem?_modify, if_pos rfl, hg]; rfl
  refine ⟨⟨by rw [flat_encI, List.length_map]; exact (Nat.mul_one _).symm, .inr ⟨g, cap, putCells (Value.int .i64) 0 d.toArray cur, ?_, hB, e1, ?_, hcap, ?_, ?_⟩⟩, ⟨?_, fun i hi hne => ?_⟩⟩
  · rw [List.length_take, Nat.min_eq_left hk]
  · rw [List.length_take]; omega
  · unfold putCells; rw [Array.size_mapIdx]; exact hcur
  · rw [List.length_take, Nat.min_eq_left hk, flat_encI, show k * encI.k = k from Nat.mul_one k]
    exact put_take d cur k hk (by omega)
  · rw [hh, Array.size_append]; omega
  · have hig : g ≠ i := fun e' => hne (by rw [e']; rfl)
    rw [hh, Array.getElem?_append_left (by omega), Array.getElem?_modify, if_neg hig]
theorem own_parts {h : Heap} {B : Nat} {e : TypeId} {v : Value} {xs : List Int} (ho : OwE encI h B e v xs) (hne : xs ≠ []) :
    ∃ g cap cur, v = .slice (some ⟨g, 0, none⟩) xs.length cap ∧ B ≤ g ∧ h[g]? = some (.cells cur e (0, 0)) ∧ xs.length ≤ cap ∧ cap ≤ maxLen ∧ cur.size = cap * 1 ∧ cur.toList.take xs.length = xs.map (Value.int .i64) := by
  obtain ⟨_, h1 | ⟨g, cap, cur, hv, hB, hg, hn, hm, hs, ht⟩⟩ := ho
  · exact absurd (List.length_eq_zero_iff.1 h1.2) hne
  · rw [flat_encI, show xs.length * encI.k = xs.length from Nat.mul_one _] at ht
    exact ⟨g, cap, cur, hv, hB, hg, hn, hm, hs, ht⟩
theorem own_holds {w : World} {B : Nat} {e : TypeId} {xs : List Int} {g cap : Nat} {cur : Array Value} (hg : w.heap[g]? = some (.cells cur e (0, 0))) (ht : cur.toList.take xs.length = xs.map (Value.int .i64)) : Holds (Value.int .i64) w g 0 xs.toArray := by
  intro j hj
  have hj' : j < xs.length := by simpa using hj
  have hc : cur[j]? = some (Value.int .i64 xs[j]) := by
    have := congrArg (fun l => l[j]?) ht
    simp only [List.getElem?_take, List.getElem?_map] at this
    rw [if_pos hj', Array.getElem?_toList] at this
    rw [this, List.getElem?_eq_getElem hj']; rfl
  constructor
  · rw [cell_eq]
    unfold cellA
    rw [hg]
    simp only [Nat.zero_add, hc]
    rw [getElem!_pos xs.toArray j (by simpa using hj')]
    simp
  · unfold World.frozen?
    rw [hg]
    simp
theorem lsort_gen {t : TypeId} (h : Heap) (B : Nat) (v : Value) (xs : List Int) (ho : OwE encI h B t v xs) (_ : B ≤ h.size) (hne : xs ≠ []) (hl : xs.length ≤ 1000000) :
    Fx Try.prog 82 [v] h (fun r h' => r = .tuple #[] ∧ OwE encI h' B t v (xs.mergeSort fun x y => decide (x ≤ y)) ∧ Chg v h h') := by
  obtain ⟨g, cap, cur, rfl, hB, hg, hn, hm, hs, ht⟩ := own_parts ho hne
  intro w hw
  subst hw
  have hgl : g < w.heap.size := (Array.getElem?_eq_some_iff.1 hg).1
  refine (Try.slices_Sort_int g 0 cap xs w (own_holds (B := B) (cap := cap) hg ht) hgl (by omega)).mono ?_
  rintro e w' ⟨rfl, n, os, hw'⟩
  have hlen : (xs.mergeSort fun x y => decide (x ≤ y)).length = xs.length := List.length_mergeSort _
  have hh : w'.heap = (w.heap.modify g (onCells (putCells (Value.int .i64) 0 (xs.mergeSort fun x y => decide (x ≤ y)).toArray))) ++ os := by rw [hw']; rfl
  have := put_own (d := xs.mergeSort fun x y => decide (x ≤ y)) hB hg (by omega) hm hs hh xs.length (by omega)
  rw [List.take_of_length_le (by omega), hlen] at this
  exact ⟨_, rfl, by subst hw'; exact ⟨rfl, rfl, rfl⟩, rfl, this.1, this.2⟩
theorem lcompact_gen {t : TypeId} (h : Heap) (B : Nat) (v : Value) (xs : List Int) (ho : OwE encI h B t v xs) (_ : B ≤ h.size) (hne : xs ≠ []) (hl : xs.length ≤ 1000000) :
    Fx Try.prog 123 [v] h (fun r h' => ∃ s, r = s ∧ OwE encI h' B t s (Lib.compact xs) ∧ Chg v h h') := by
  obtain ⟨g, cap, cur, rfl, hB, hg, hn, hm, hs, ht⟩ := own_parts ho hne
  intro w hw
  subst hw
  have hgl : g < w.heap.size := (Array.getElem?_eq_some_iff.1 hg).1
  refine (Try.slices_Compact_int g 0 cap xs w (own_holds (B := B) (cap := cap) hg ht) (by omega) hn).mono ?_
  rintro e w' ⟨rfl, q, hw'⟩
  have hcl : (Lib.compact xs).length ≤ xs.length := by
    unfold Lib.compact Lib.compactUpTo
    rw [List.length_map]
    exact Nat.le_trans (List.length_filter_le ..) (by simp)
  have hdl : (Lib.compact xs ++ List.replicate (xs.length - (Lib.compact xs).length) 0).length = xs.length := by simp; omega
  have hh : w'.heap = (w.heap.modify g (onCells (putCells (Value.int .i64) 0 (Lib.compact xs ++ List.replicate (xs.length - (Lib.compact xs).length) 0).toArray))) ++ #[] := by rw [hw', Array.append_empty]; rfl
  have := put_own hB hg (by omega) hm hs hh (Lib.compact xs).length (by omega)
  rw [List.take_left', hdl] at this
  · exact ⟨_, rfl, by subst hw'; exact ⟨rfl, rfl, rfl⟩, _, rfl, this.1, this.2⟩
  · rfl
end Go.Proofs.Ytdokijbdnajhgaa
namespace Go.Proofs.Ytdokijbdnajhgaa
open Go.Shelf
def Try.lays113_ren : Go.Shelf.Ren := ⟨fun | 113 => 98 | n => n, fun | 28 => 25 | 3 => 3 | 4 => 4 | 9 => 9 | 20 => 20 | 0 => 0 | n => n, fun | n => n⟩
theorem Try.lays113 : Go.Proofs.Lays.n113 Try.prog Try.lays113_ren := {
  mixed := by kernel_rfl
  f113 := Try.func98.trans (congrArg some (by kernel_rfl))
  t0 := Try.underlying0
  a0 := Try.isAgg0
  z0 := Try.sizeOf0
  v0 := Try.zeroValue0
  t3 := Try.underlying3
  a3 := Try.isAgg3
  z3 := Try.sizeOf3
  v3 := Try.zeroValue3
  t4 := Try.underlying4
  a4 := Try.isAgg4
  z4 := Try.sizeOf4
  v4 := Try.zeroValue4
  t9 := Try.underlying9
  a9 := Try.isAgg9
  z9 := Try.sizeOf9
  v9 := Try.zeroValue9
  t20 := Try.underlying20
  a20 := Try.isAgg20
  z20 := Try.sizeOf20
  v20 := Try.zeroValue20
  t28 := Try.underlying25
  a28 := Try.isAgg25
  z28 := Try.sizeOf25
  v28 := Try.zeroValue25 }
open Go.Lib in
theorem Try.slices_Max_int (b off n c : Nat) (zs : List Int) (w : World) (hn : 0 < n) (hz : n ≤ zs.length) (hbig : n ≤ 9223372036854775807) (hc : ∀ j, j < zs.length → w.cell? ⟨b, off + j, none⟩ = some (.int .i64 (zs.getD j 0))) :
    Calls Try.prog 98 #[.slice (some ⟨b, off, none⟩) n c] w fun e w' => e = .returned (.int .i64 (Lib.maxOf (zs.take n))) ∧ w' = w := Any.slices_Max_int Try.lays113 b off n c zs w hn hz hbig hc
def Try.lays114_ren : Go.Shelf.Ren := ⟨fun | 114 => 97 | n => n, fun | 28 => 25 | 3 => 3 | 4 => 4 | 9 => 9 | 20 => 20 | 0 => 0 | n => n, fun | n => n⟩
theorem Try.lays114 : Go.Proofs.Lays.n114 Try.prog Try.lays114_ren := {
  mixed := by kernel_rfl
  f114 := Try.func97.trans (congrArg some (by kernel_rfl))
  t0 := Try.underlying0
  a0 := Try.isAgg0
  z0 := Try.sizeOf0
  v0 := Try.zeroValue0
  t3 := Try.underlying3
  a3 := Try.isAgg3
  z3 := Try.sizeOf3
  v3 := Try.zeroValue3
  t4 := Try.underlying4
  a4 := Try.isAgg4
  z4 := Try.sizeOf4
  v4 := Try.zeroValue4
  t9 := Try.underlying9
  a9 := Try.isAgg9
  z9 := Try.sizeOf9
  v9 := Try.zeroValue9
  t20 := Try.underlying20
  a20 := Try.isAgg20
  z20 := Try.sizeOf20
  v20 := Try.zeroValue20
  t28 := Try.underlying25
  a28 := Try.isAgg25
  z28 := Try.sizeOf25
  v28 := Try.zeroValue25 }
open Go.Lib in
theorem Try.slices_Min_int (b off n c : Nat) (zs : List Int) (w : World) (hn : 0 < n) (hz : n ≤ zs.length) (hbig : n ≤ 9223372036854775807) (hc : ∀ j, j < zs.length → w.cell? ⟨b, off + j, none⟩ = some (.int .i64 (zs.getD j 0))) :
    Calls Try.prog 97 #[.slice (some ⟨b, off, none⟩) n c] w fun e w' => e = .returned (.int .i64 (Lib.minOf (zs.take n))) ∧ w' = w := Any.slices_Min_int Try.lays114 b off n c zs w hn hz hbig hc
end Go.Proofs.Ytdokijbdnajhgaa
namespace Go.X
section
variable {P : Program} {S : Heap → Prop} {kd : Oper → Kd} {ops : Array Oper} {rest : List Oper} {K : Env → Heap → Prop} {L : List (Nat × Value)} {b : Env} {h : Heap}
variable {d : Nat} {t ty : TypeId} {p : String} {af : Array Edge} {g : Option (Nat × Bool)} {x : Operand}
theorem lx_sliceA {m k1 bn : Nat} {el : TypeId} (hw : Region.wanted ⟨some d, .slice t x none none none, ty, p, af, g⟩ (yieldE ops (ups L b)) = true) (hu : P.underlying t = some (.array m el)) (hs : ∀ w, (sizeOf el).run P w = .ok k1 w)
    (hx : ev (ups L b) x = .pointer (some ⟨bn, 0, none⟩))
    (hn : Lx P S kd ops rest K (ups ((d, .slice (some ⟨bn, 0, none⟩) m m) :: L) b) h) : Lx P S kd ops (⟨some d, .slice t x none none none, ty, p, af, g⟩ :: rest) K (ups L b) h :=
  lx_free _ hw (fun w _ => by
    have e0 : (if m = 0 then (⟨bn, 0, none⟩ : Addr) else (⟨bn, 0, none⟩ : Addr).add (0 * k1)) = ⟨bn, 0, none⟩ := by
      split
      · rfl
      · rw [Nat.zero_mul]; exact add_zero _
    simp [execOp, hx, Instr.sliceAt, Instr.sliceBounds, run_underlying hu, hs, Instr.sureAddr, add_zero]) hn
end
theorem own_of_blk {h : Heap} {B bn : Nat} {t : TypeId} {xs : List Int} (hb : Blk h bn (ic xs) t) (hB : B ≤ bn) (hl : xs.length ≤ 1000000) : OwE encI h B t (.slice (some ⟨bn, 0, none⟩) xs.length xs.length) xs := by
  have hf : xs.flatMap encI.f = xs.map (Value.int .i64) := Go.Proofs.Ytdokijbdnajhgaa.flat_encI xs
  refine ⟨by rw [hf, List.length_map]; exact (Nat.mul_one _).symm, .inr ⟨bn, xs.length, ic xs, rfl, hB, hb, Nat.le_refl _, Nat.le_trans hl (by decide), by rw [ic_size]; exact (Nat.mul_one _).symm, ?_⟩⟩
  rw [hf, show xs.length * encI.k = xs.length from Nat.mul_one _]
  show (xs.map _).toArray.toList.take _ = _
  rw [List.take_of_length_le (by simp)]
end Go.X
namespace Go.Proofs.Ytdokijbdnajhgaa
open Go Go.X
theorem rd_parts {h : Heap} {v : Value} {xs : List Int} (hr : RdE encI h v xs) (hne : xs ≠ []) : ∃ b off c, v = .slice (some ⟨b, off, none⟩) xs.length c ∧ ∀ j, j < xs.length → cellA h ⟨b, off + j, none⟩ = some (.int .i64 (xs.getD j 0)) := by
  obtain ⟨a, cap, rfl, h1, h2, h3⟩ := hr
  have hpos : 0 < xs.length := List.length_pos_iff.2 hne
  have hget : ∀ j, j < xs.length → (xs.flatMap Go.X.encI.f)[j]? = some (Value.int .i64 (xs.getD j 0)) := fun j hj => by
    rw [flat_encI, List.getElem?_map, List.getElem?_eq_getElem hj]
    simp [List.getD, List.getElem?_eq_getElem hj]
  obtain ⟨ad, rfl, hc0⟩ := h3 0 _ (hget 0 hpos)
  obtain ⟨b, off, sp⟩ := ad
  have hsp : sp = none := by
    rw [add_zero] at hc0
    unfold cellA at hc0
    split at hc0
    · split at hc0
      · cases hc0
      · rename_i hs
        cases sp with
        | none => rfl
        | some q => exact absurd rfl hs
    · cases hc0
  subst hsp
  refine ⟨b, off, cap, rfl, fun j hj => ?_⟩
  obtain ⟨ad', he, hc⟩ := h3 j _ (hget j hj)
  cases he
  rw [add_lit] at hc
  exact hc
theorem lmin_spec (h : Heap) (v : Value) (xs : List Int) (hr : RdE encI h v xs) (hne : xs ≠ []) (hl : xs.length ≤ 1000000) : Fx Try.prog 97 [v] h (fun r h' => r = .int .i64 (Lib.minOf xs) ∧ h = h') := by
  obtain ⟨b, off, c, rfl, hc⟩ := rd_parts hr hne
  intro w hw
  subst hw
  refine (Try.slices_Min_int b off xs.length c xs w (List.length_pos_iff.2 hne) (Nat.le_refl _) (by omega) hc).mono ?_
  rintro e w' ⟨rfl, rfl⟩
  rw [List.take_length]
  exact ⟨_, rfl, ⟨rfl, rfl, rfl⟩, rfl, rfl⟩
theorem lmax_spec (h : Heap) (v : Value) (xs : List Int) (hr : RdE encI h v xs) (hne : xs ≠ []) (hl : xs.length ≤ 1000000) : Fx Try.prog 98 [v] h (fun r h' => r = .int .i64 (Lib.maxOf xs) ∧ h = h') := by
  obtain ⟨b, off, c, rfl, hc⟩ := rd_parts hr hne
  intro w hw
  subst hw
  refine (Try.slices_Max_int b off xs.length c xs w (List.length_pos_iff.2 hne) (Nat.le_refl _) (by omega) hc).mono ?_
  rintro e w' ⟨rfl, rfl⟩
  rw [List.take_length]
  exact ⟨_, rfl, ⟨rfl, rfl, rfl⟩, rfl, rfl⟩
end Go.Proofs.Ytdokijbdnajhgaa
namespace Go.X
section
variable {P : Program}
theorem bld5 {tx el : TypeId} (hu : P.underlying tx = some (.array 5 el)) (hz : ∀ w, (zeroValue tx).run P w = .ok (.agg #[.int .i64 0, .int .i64 0, .int .i64 0, .int .i64 0, .int .i64 0]) w) (hs : ∀ w, (sizeOf el).run P w = .ok 1 w) (a b c d e : Int) (w : World) :
    (Instr.build tx #[(0, .int .i64 a), (1, .int .i64 b), (2, .int .i64 c), (3, .int .i64 d), (4, .int .i64 e)]).run P w = .ok (.agg #[.int .i64 a, .int .i64 b, .int .i64 c, .int .i64 d, .int .i64 e]) w := by
  have hc : (Value.agg #[Value.int .i64 0, Value.int .i64 0, Value.int .i64 0, Value.int .i64 0, Value.int .i64 0]).cells = #[Value.int .i64 0, Value.int .i64 0, Value.int .i64 0, Value.int .i64 0, Value.int .i64 0] := rfl
  simp [Instr.build, hz, run_underlying hu, hs, Instr.fill, hc, Value.cells]
theorem bld5z {tx el : TypeId} (hu : P.underlying tx = some (.array 5 el)) (hz : ∀ w, (zeroValue tx).run P w = .ok (.agg #[.int .i64 0, .int .i64 0, .int .i64 0, .int .i64 0, .int .i64 0]) w) (hs : ∀ w, (sizeOf el).run P w = .ok 1 w) (w : World) :
    (Instr.build tx #[]).run P w = .ok (.agg #[.int .i64 0, .int .i64 0, .int .i64 0, .int .i64 0, .int .i64 0]) w := by
  have hc : (Value.agg #[Value.int .i64 0, Value.int .i64 0, Value.int .i64 0, Value.int .i64 0, Value.int .i64 0]).cells = #[Value.int .i64 0, Value.int .i64 0, Value.int .i64 0, Value.int .i64 0, Value.int .i64 0] := rfl
  simp [Instr.build, hz, run_underlying hu, hs, Instr.fill, hc]
end
end Go.X
namespace Go.X
theorem adj_lt : ∀ {zs : List Int}, zs.Pairwise (· ≤ ·) → (∀ (j : Nat) (h : j + 1 < zs.length), zs[j] ≠ zs[j + 1]) → zs.Pairwise (· < ·)
  | [], _, _ => List.Pairwise.nil
  | [a], _, _ => List.pairwise_singleton _ _
  | a :: b :: zs, hp, hn => by
    rw [List.pairwise_cons] at hp ⊢
    have ih := adj_lt hp.2 fun j h => hn (j + 1) (by simpa using h)
    have hab : a < b := by
      have h1 := hp.1 b (by simp)
      have h2 := hn 0 (by simp)
      simp at h2
      omega
    refine ⟨fun z hz => ?_, ih⟩
    rcases List.mem_cons.1 hz with rfl | hz
    · exact hab
    · have := (List.pairwise_cons.1 ih).1 z hz
      omega
theorem compact_less {zs : List Int} (hp : zs.Pairwise (· ≤ ·)) : (Lib.compact zs).length < zs.length ↔ ¬ zs.Nodup := by
  have hlen : (Lib.compact zs).length = ((List.range zs.length).filter (Lib.keeps zs.toArray)).length := by unfold Lib.compact Lib.compactUpTo; rw [List.length_map]
  have hle : ((List.range zs.length).filter (Lib.keeps zs.toArray)).length ≤ zs.length := by
    have := List.length_filter_le (Lib.keeps zs.toArray) (List.range zs.length)
    rwa [List.length_range] at this
  have key : ((List.range zs.length).filter (Lib.keeps zs.toArray)).length = zs.length ↔ zs.Nodup := by
    constructor
    · intro h
      have h1 : ∀ j ∈ List.range zs.length, Lib.keeps zs.toArray j = true := by
        rw [← List.length_filter_eq_length_iff, h, List.length_range]
      refine (adj_lt hp fun j hj e => ?_).imp fun h => by omega
      have := h1 (j + 1) (List.mem_range.2 hj)
      unfold Lib.keeps at this
      simp [hj, Nat.lt_of_succ_lt hj] at this
      exact this e.symm
    · intro h
      have h1 : ∀ j ∈ List.range zs.length, Lib.keeps zs.toArray j = true := by
        intro j hj
        rw [List.mem_range] at hj
        unfold Lib.keeps
        rw [decide_eq_true_iff]
        by_cases h0 : j = 0
        · exact .inl h0
        · right
          have hj1 : j - 1 < zs.length := by omega
          simp [hj, hj1]
          intro e
          exact List.pairwise_iff_getElem.1 h (j - 1) j hj1 hj (by omega) e.symm
      rw [List.length_filter_eq_length_iff.2 h1, List.length_range]
  rw [hlen]
  constructor
  · intro h hn; rw [key.2 hn] at h; omega
  · intro h
    rcases Nat.lt_or_ge ((List.range zs.length).filter (Lib.keeps zs.toArray)).length zs.length with h1 | h1
    · exact h1
    · exact absurd (key.1 (by omega)) h
theorem sort_asc5 (xs : List Int) : (xs.mergeSort fun x y => decide (x ≤ y)).Pairwise (· ≤ ·) := by
  have := List.pairwise_mergeSort (le := fun x y : Int => decide (x ≤ y)) (by intro a b c h1 h2; simp at *; omega) (by intro a b; simp; omega) xs
  exact this.imp fun h => by simpa using h
theorem compact_sorted (xs : List Int) : (Lib.compact (xs.mergeSort fun x y => decide (x ≤ y))).length < xs.length ↔ ¬ xs.Nodup := by
  have h1 := compact_less (sort_asc5 xs)
  rw [List.length_mergeSort, List.Perm.nodup_iff (List.mergeSort_perm xs _)] at h1
  exact h1
end Go.X
namespace Go.Proofs.Ytdokijbdnajhgaa
open Go Go.X

def mtB (n : Nat) (f : Nat → Nat → Bool) (x y o i : Nat) : Bool := decide (joinF n f x y = ((i : Nat) : Int)) && decide (meetF n f x y = ((o : Nat) : Int))
theorem mtB_iff {n x y o i : Nat} {f : Nat → Nat → Bool} (ho : IsO n f) (hg : noGap n f) (hx : x < n) (hy : y < n) : mtB n f x y o i = true ↔ mN n f x y = o ∧ jN n f x y = i := by
  unfold mtB
  rw [Bool.and_eq_true, decide_eq_true_iff, decide_eq_true_iff, (jN_at ho hg hx hy).1, (mN_at ho hg hx hy).1]
  omega
theorem nodup5 {o a b c i : Nat} : ([((o : Nat) : Int), ((a : Nat) : Int), ((b : Nat) : Int), ((c : Nat) : Int), ((i : Nat) : Int)]).Nodup ↔ (o ≠ a ∧ o ≠ b ∧ o ≠ c ∧ o ≠ i ∧ a ≠ b ∧ a ≠ c ∧ a ≠ i ∧ b ≠ c ∧ b ≠ i ∧ c ≠ i) := by
  simp only [List.nodup_cons, List.mem_cons, List.not_mem_nil, or_false, not_or, List.nodup_nil, not_false_eq_true, and_true]
  omega
theorem bad_dec {n o a b c i : Nat} {f : Nat → Nat → Bool} (ho : IsO n f) (hg : noGap n f) (ha : a < n) (hb : b < n) (hc : c < n) :
    badP n f o a b c i ↔ ([((o : Nat) : Int), ((a : Nat) : Int), ((b : Nat) : Int), ((c : Nat) : Int), ((i : Nat) : Int)]).Nodup ∧ mtB n f a c o i = true ∧ mtB n f b c o i = true ∧ ((decide (a ≠ b) && f a b) = true ∨ mtB n f a b o i = true) := by
  rw [nodup5, mtB_iff ho hg ha hc, mtB_iff ho hg hb hc, mtB_iff ho hg ha hb, Bool.and_eq_true, decide_eq_true_iff]
  unfold badP
  constructor
  · rintro ⟨h1, h2, h3, h4, h5, h6⟩
    exact ⟨h1, ⟨h2, h3⟩, ⟨h4, h5⟩, h6.imp (fun h => ⟨h1.2.2.2.2.1, h⟩) id⟩
  · rintro ⟨h1, ⟨h2, h3⟩, ⟨h4, h5⟩, h6⟩
    exact ⟨h1, h2, h3, h4, h5, h6.imp (fun h => h.2) id⟩

set_option maxRecDepth 10000 in
theorem meets_spec (h : Heap) (x : Nat) (y : Nat) (n : Nat) (f : Nat → Nat → Bool) (o : Nat) (i : Nat) (vj : Value) (hj : List Hdr) (rj : List (List Int)) (vm : Value) (hm : List Hdr) (rm : List (List Int)) (bl : Nat) (bi : Nat) (bo : Nat) (hb_bl : Blk h bl (#[vj, vm]) 119) (hb_bi : Blk h bi (#[.int .i64 ((i : Nat) : Int)]) 3) (hb_bo : Blk h bo (#[.int .i64 ((o : Nat) : Int)]) 3) (hr_vj : RdE encHd h vj hj) (ht_vj : RT encI h hj rj) (hr_vm : RdE encHd h vm hm) (ht_vm : RT encI h hm rm) (hp1 : n ≤ 12) (hp2 : rj = tabI n (joinF n f)) (hp3 : rm = tabI n (meetF n f)) (hp4 : x < n) (hp5 : y < n) : Fx Try.prog 133 [.int .i64 ((x : Nat) : Int), .int .i64 ((y : Nat) : Int), .pointer (some ⟨bl, 0, none⟩), .pointer (some ⟨bi, 0, none⟩), .pointer (some ⟨bo, 0, none⟩)] h (fun v h' => v = .bool ((decide (joinF n f x y = ((i : Nat) : Int)) && decide (meetF n f x y = ((o : Nat) : Int)))) ∧ h = h') := by
  have hl_vj := ht_vj.1
  have hl_vm := ht_vm.1
  refine fx_intro (n := 30) [(0, .int .i64 ((x : Nat) : Int)), (1, .int .i64 ((y : Nat) : Int)), (2, .pointer (some ⟨bl, 0, none⟩)), (3, .pointer (some ⟨bi, 0, none⟩)), (4, .pointer (some ⟨bo, 0, none⟩))] Try.func133 rfl rfl (by simp) ⟨rfl, rfl, rfl, rfl, rfl, trivial⟩ fun g0 => ?_
  refine wi_seq <| wi_reg rfl <| lx_assign (.bool false) rfl rfl <| lx_nil <| wi_seq <| wi_draw mo rfl (by decide +kernel) <| ?_
  have hjl : rj.length = n := by rw [hp2]; exact tabI_len _ _
  have hml : rm.length = n := by rw [hp3]; exact tabI_len _ _
  have hjr : gt rj x = mapR n (joinF n f x) := by rw [hp2, gt_tabI (by omega)]
  have hmr : gt rm x = mapR n (meetF n f x) := by rw [hp3, gt_tabI (by omega)]
  have hjl2 : (gt rj x).length = n := by rw [hjr]; exact mapR_len _ _
  have hml2 : (gt rm x).length = n := by rw [hmr]; exact mapR_len _ _
  have hje : gt (gt rj x) y = joinF n f x y := by rw [hjr, gt_mapR (by omega)]
  have hme : gt (gt rm x) y = meetF n f x y := by rw [hmr, gt_mapR (by omega)]
  refine lx_fieldL (i := 0) rfl st119 (.inl rfl) rfl <| lx_ldB (vj) rfl rfl fl49 hb_bl rfl rfl <| lx_move (.int .i64 ((x : Nat) : Int)) rfl rfl <| lx_ix (i := x) rfl eT49 hr_vj rfl rfl (by omega) <| lx_ld (i := x) (j := 0) ((gt hj x).v) rfl rfl fl25 hr_vj (by omega) rfl rfl <| lx_move (.int .i64 ((y : Nat) : Int)) rfl rfl <| lx_ix (i := y) rfl eT25 (ht_vj.2 x (by omega)) rfl rfl (by omega) <| lx_ld (i := y) (j := 0) (.int .i64 (gt (gt rj x) y)) rfl rfl fl3 (ht_vj.2 x (by omega)) (by omega) rfl rfl <| lx_ldB (.int .i64 ((i : Nat) : Int)) rfl rfl fl3 hb_bi rfl rfl <| lx_eqlS rfl rfl rfl (fun c1 => ?_) (fun c1 => ?_)
  · refine lx_move (.bool true) rfl rfl <| lx_fieldL (i := 1) rfl st119 (.inr rfl) rfl <| lx_ldB (vm) rfl rfl fl49 hb_bl rfl rfl <| lx_move (.int .i64 ((x : Nat) : Int)) rfl rfl <| lx_ix (i := x) rfl eT49 hr_vm rfl rfl (by omega) <| lx_ld (i := x) (j := 0) ((gt hm x).v) rfl rfl fl25 hr_vm (by omega) rfl rfl <| lx_move (.int .i64 ((y : Nat) : Int)) rfl rfl <| lx_ix (i := y) rfl eT25 (ht_vm.2 x (by omega)) rfl rfl (by omega) <| lx_ld (i := y) (j := 0) (.int .i64 (gt (gt rm x) y)) rfl rfl fl3 (ht_vm.2 x (by omega)) (by omega) rfl rfl <| lx_ldB (.int .i64 ((o : Nat) : Int)) rfl rfl fl3 hb_bo rfl rfl <| lx_eqlS rfl rfl rfl (fun c2 => ?_) (fun c2 => ?_)
    · refine lx_pick true (.bool true) rfl rfl rfl <| lx_assign (.bool true) rfl rfl <| lx_nil <| ?_
      -- R1
      refine wi_ret ⟨.bool true, (res_one rfl rfl), ⟨?_, rfl⟩⟩
      · rw [← hje, ← hme, decide_eq_true (by omega), decide_eq_true (by omega)]; rfl
    · refine lx_pick true (.bool false) rfl rfl rfl <| lx_assign (.bool false) rfl rfl <| lx_nil <| ?_
      -- R2
      refine wi_ret ⟨.bool false, (res_one rfl rfl), ⟨?_, rfl⟩⟩
      · rw [← hje, ← hme, decide_eq_true (by omega), decide_eq_false (by omega)]; rfl
  · refine lx_move (.bool false) rfl rfl <| lx_skip rfl <| lx_skip rfl <| lx_skip rfl <| lx_skip rfl <| lx_skip rfl <| lx_skip rfl <| lx_skip rfl <| lx_skip rfl <| lx_skip rfl <| lx_skip rfl <| lx_pick false (.bool false) rfl rfl rfl <| lx_assign (.bool false) rfl rfl <| lx_nil <| ?_
    -- R3
    refine wi_ret ⟨.bool false, (res_one rfl rfl), ⟨?_, rfl⟩⟩
    · rw [← hje, decide_eq_false (by omega), Bool.false_and]

set_option maxRecDepth 10000 in
theorem isBad_spec (h : Heap) (vp : Value) (hs : List Hdr) (p : List (List Bool)) (o : Nat) (a : Nat) (b : Nat) (c : Nat) (i : Nat) (vj : Value) (hj : List Hdr) (rj : List (List Int)) (vm : Value) (hm : List Hdr) (rm : List (List Int)) (hr_vj : RdE encHd h vj hj) (ht_vj : RT encI h hj rj) (hr_vm : RdE encHd h vm hm) (ht_vm : RT encI h hm rm) (hr_vp : RdE encHd h vp hs) (ht_vp : RT encB h hs p) (hp1 : p.length ≤ 12) (hp2 : Sq p p.length) (hp3 : IsO p.length (pb p)) (hp4 : noGap p.length (pb p)) (hp5 : rj = tabI p.length (joinF p.length (pb p))) (hp6 : rm = tabI p.length (meetF p.length (pb p))) (hp7 : o < p.length) (hp8 : a < p.length) (hp9 : b < p.length) (hp10 : c < p.length) (hp11 : i < p.length) : Fx Try.prog 99 [.agg #[vj, vm], vp, .agg #[.int .i64 ((o : Nat) : Int), .int .i64 ((a : Nat) : Int), .int .i64 ((b : Nat) : Int), .int .i64 ((c : Nat) : Int), .int .i64 ((i : Nat) : Int)]] h (fun v h' => v = .bool (decide (badP p.length (pb p) o a b c i)) ∧ Ext h.size h h') := by
  have hl_vp := ht_vp.1
  have hl_vj := ht_vj.1
  have hl_vm := ht_vm.1
  refine fx_intro (n := 56) [(0, .agg #[vj, vm]), (1, vp), (2, .agg #[.int .i64 ((o : Nat) : Int), .int .i64 ((a : Nat) : Int), .int .i64 ((b : Nat) : Int), .int .i64 ((c : Nat) : Int), .int .i64 ((i : Nat) : Int)])] Try.func99 rfl rfl (by simp) ⟨rfl, rfl, rfl, trivial⟩ fun g0 => ?_
  refine wi_seq <| wi_reg rfl <| lx_box #[vj, vm] rfl rfl rfl (fun _ _ _ => trivial) fun bn1 h1 hbn1 hbk1 hx1 hsz1 => ?_
  have hbb1 : h.size ≤ bn1 := by have := (Nat.le_refl h.size); omega
  refine lx_box #[.int .i64 ((o : Nat) : Int), .int .i64 ((a : Nat) : Int), .int .i64 ((b : Nat) : Int), .int .i64 ((c : Nat) : Int), .int .i64 ((i : Nat) : Int)] rfl rfl rfl (fun _ _ _ => trivial) fun bn2 h2 hbn2 hbk2 hx2 hsz2 => ?_
  have hbb2 : h.size ≤ bn2 := by have := hx1.size; omega
  have hne1 : bn2 ≠ bn1 := by have := hbk1.lt; omega
  have hx0_1 := hx1.trans2 hx2 hx1.size
  have hb1 := hbk1.extS hx2
  refine lx_assign (.bool false) rfl rfl <| lx_nil <| wi_seq <| wi_draw2 10 (fun h9 => Blk h9 bn2 #[.int .i64 ((o : Nat) : Int), .int .i64 ((a : Nat) : Int), .int .i64 ((b : Nat) : Int), .int .i64 ((c : Nat) : Int), .int .i64 ((i : Nat) : Int)] 48) (fun o => match o.dst with | some 15 | some 17 | some 19 | some 21 | some 23 => .free | _ => kindOf o) mo rfl (by decide +kernel) hbk2 <| lx_ixB (i := 0) (0) rfl Try.underlying48 Try.sizeOf3 rfl rfl (by omega) rfl <| lx_ldBF (.int .i64 ((o : Nat) : Int)) rfl fl3 (fun _ hs => hs) rfl rfl <| lx_ixB (i := 1) (1) rfl Try.underlying48 Try.sizeOf3 rfl rfl (by omega) rfl <| lx_ldBF (.int .i64 ((a : Nat) : Int)) rfl fl3 (fun _ hs => hs) rfl rfl <| lx_ixB (i := 2) (2) rfl Try.underlying48 Try.sizeOf3 rfl rfl (by omega) rfl <| lx_ldBF (.int .i64 ((b : Nat) : Int)) rfl fl3 (fun _ hs => hs) rfl rfl <| lx_ixB (i := 3) (3) rfl Try.underlying48 Try.sizeOf3 rfl rfl (by omega) rfl <| lx_ldBF (.int .i64 ((c : Nat) : Int)) rfl fl3 (fun _ hs => hs) rfl rfl <| lx_ixB (i := 4) (4) rfl Try.underlying48 Try.sizeOf3 rfl rfl (by omega) rfl <| lx_ldBF (.int .i64 ((i : Nat) : Int)) rfl fl3 (fun _ hs => hs) rfl rfl <| lx_nil <| ⟨?_, ?_⟩
  · refine lx_alloc rfl rfl Try.zeroValue3 (fun hs _ hx => Blk.extS hs hx) fun bn3 h3 hbn3 hbk3 hx3 hsz3 => ?_
    have hbb3 : h.size ≤ bn3 := by have := hx0_1.size; omega
    have hne2 : bn3 ≠ bn1 := by have := hb1.lt; omega
    have hne3 : bn3 ≠ bn2 := by have := hbk2.lt; omega
    have hx0_2 := hx0_1.trans2 hx3 hx0_1.size
    have hb2 := hb1.extS hx3
    have hb3 := hbk2.extS hx3
    have hbk3 : Blk h3 bn3 #[.int .i64 0] 3 := hbk3
    refine lx_alloc rfl rfl Try.zeroValue3 (fun hs _ hx => Blk.extS hs hx) fun bn4 h4 hbn4 hbk4 hx4 hsz4 => ?_
    have hbb4 : h.size ≤ bn4 := by have := hx0_2.size; omega
    have hne4 : bn4 ≠ bn1 := by have := hb2.lt; omega
    have hne5 : bn4 ≠ bn2 := by have := hb3.lt; omega
    have hne6 : bn4 ≠ bn3 := by have := hbk3.lt; omega
    have hx0_3 := hx0_2.trans2 hx4 hx0_2.size
    have hb4 := hb2.extS hx4
    have hb5 := hb3.extS hx4
    have hb6 := hbk3.extS hx4
    have hbk4 : Blk h4 bn4 #[.int .i64 0] 3 := hbk4
    refine lx_stB (.int .i64 ((o : Nat) : Int)) rfl rfl Try.sizeOf3 hb6 (by simp) rfl rfl rfl rfl (fun hs _ _ hc => ChgB.blk hc hs (by omega)) fun h5 hbk5 hc1 => ?_
    have hx0_4 := hx0_3.trans (hc1.ext hbb3)
    have hb7 := hc1.blk hb4 (Ne.symm hne2)
    have hb8 := hc1.blk hb5 (Ne.symm hne3)
    have hb9 := hc1.blk hbk4 hne6
    have hbk5 : Blk h5 bn3 #[.int .i64 ((o : Nat) : Int)] 3 := hbk5
    refine lx_assign (.int .i64 ((a : Nat) : Int)) rfl rfl <| lx_assign (.int .i64 ((b : Nat) : Int)) rfl rfl <| lx_assign (.int .i64 ((c : Nat) : Int)) rfl rfl <| lx_stB (.int .i64 ((i : Nat) : Int)) rfl rfl Try.sizeOf3 hb9 (by simp) rfl rfl rfl rfl (fun hs _ _ hc => ChgB.blk hc hs (by omega)) fun h6 hbk6 hc2 => ?_
    have hx0_5 := hx0_4.trans (hc2.ext hbb4)
    have hb10 := hc2.blk hb7 (Ne.symm hne4)
    have hb11 := hc2.blk hb8 (Ne.symm hne5)
    have hb12 := hc2.blk hbk5 (Ne.symm hne6)
    have hbk6 : Blk h6 bn4 #[.int .i64 ((i : Nat) : Int)] 3 := hbk6
    refine lx_nil <| wi_seq <| wi_reg rfl <| lx_makeFunc [] [.pointer (some ⟨bn1, 0, none⟩), .pointer (some ⟨bn4, 0, none⟩), .pointer (some ⟨bn3, 0, none⟩)] rfl rfl rfl <| lx_assign (.func (.func 133) #[] #[.pointer (some ⟨bn1, 0, none⟩), .pointer (some ⟨bn4, 0, none⟩), .pointer (some ⟨bn3, 0, none⟩)]) rfl rfl <| lx_nil <| wi_seq <| wi_reg rfl <| lx_ldBA rfl rfl wd48 hb11 rfl rfl <| lx_alloc rfl rfl Try.zeroValue48 (fun _ _ _ => trivial) fun bn5 h7 hbn5 hbk7 hx5 hsz5 => ?_
    have hbb5 : h.size ≤ bn5 := by have := hx0_5.size; omega
    have hne7 : bn5 ≠ bn1 := by have := hb10.lt; omega
    have hne8 : bn5 ≠ bn2 := by have := hb11.lt; omega
    have hne9 : bn5 ≠ bn3 := by have := hb12.lt; omega
    have hne10 : bn5 ≠ bn4 := by have := hbk6.lt; omega
    have hx0_6 := hx0_5.trans2 hx5 hx0_5.size
    have hb13 := hb10.extS hx5
    have hb14 := hb11.extS hx5
    have hb15 := hb12.extS hx5
    have hb16 := hbk6.extS hx5
    have hbk7 : Blk h7 bn5 #[.int .i64 0, .int .i64 0, .int .i64 0, .int .i64 0, .int .i64 0] 48 := hbk7
    refine lx_stBA (#[.int .i64 ((o : Nat) : Int), .int .i64 ((a : Nat) : Int), .int .i64 ((b : Nat) : Int), .int .i64 ((c : Nat) : Int), .int .i64 ((i : Nat) : Int)]) rfl rfl Try.sizeOf48 hbk7 rfl rfl rfl rfl (by simp [Value.oneCell']) (fun _ _ _ _ => trivial) fun h8 hbk8 hc3 => ?_
    have hx0_7 := hx0_6.trans (hc3.ext hbb5)
    have hb17 := hc3.blk hb13 (Ne.symm hne7)
    have hb18 := hc3.blk hb14 (Ne.symm hne8)
    have hb19 := hc3.blk hb15 (Ne.symm hne9)
    have hb20 := hc3.blk hb16 (Ne.symm hne10)
    refine lx_nil <| wi_seq <| wi_reg rfl <| lx_sliceA rfl Try.underlying48 Try.sizeOf3 rfl <| ?_
    have ho1 : OwE encI h8 h.size 48 (.slice (some ⟨bn5, 0, none⟩) 5 5) ([((o : Nat) : Int), ((a : Nat) : Int), ((b : Nat) : Int), ((c : Nat) : Int), ((i : Nat) : Int)]) := own_of_blk (xs := [((o : Nat) : Int), ((a : Nat) : Int), ((b : Nat) : Int), ((c : Nat) : Int), ((i : Nat) : Int)]) hbk8 hbb5 (by simp)
    have hdj1 : Value.ownBlock (.slice (some ⟨bn5, 0, none⟩) 5 5) ≠ some bn1 := fun e => (Ne.symm hne7) (Option.some.inj e).symm
    have hdj2 : Value.ownBlock (.slice (some ⟨bn5, 0, none⟩) 5 5) ≠ some bn2 := fun e => (Ne.symm hne8) (Option.some.inj e).symm
    have hdj3 : Value.ownBlock (.slice (some ⟨bn5, 0, none⟩) 5 5) ≠ some bn3 := fun e => (Ne.symm hne9) (Option.some.inj e).symm
    have hdj4 : Value.ownBlock (.slice (some ⟨bn5, 0, none⟩) 5 5) ≠ some bn4 := fun e => (Ne.symm hne10) (Option.some.inj e).symm
    refine lx_call [(.slice (some ⟨bn5, 0, none⟩) 5 5)] rfl rfl Try.call82 rfl (lsort_gen (t := 48) h8 h.size ((.slice (some ⟨bn5, 0, none⟩) 5 5)) ([((o : Nat) : Int), ((a : Nat) : Int), ((b : Nat) : Int), ((c : Nat) : Int), ((i : Nat) : Int)]) ho1 hx0_7.size (by simp) (by simp)) (fun _ _ _ => trivial) ?_
    rintro _ h9 ⟨rfl, ho2, hx6⟩
    have hx0_8 := hx0_7.trans (ho1.ext hx6 hx0_7.size)
    have hb21 := hb17.chg hx6 hdj1
    have hb22 := hb18.chg hx6 hdj2
    have hb23 := hb19.chg hx6 hdj3
    have hb24 := hb20.chg hx6 hdj4
    refine lx_nil <| wi_seq <| wi_seq <| wi_reg rfl <| lx_sliceA rfl Try.underlying48 Try.sizeOf3 rfl <| ?_
    refine lx_call [(.slice (some ⟨bn5, 0, none⟩) 5 5)] rfl rfl Try.call123 rfl (lcompact_gen (t := 48) h9 h.size ((.slice (some ⟨bn5, 0, none⟩) 5 5)) ((([((o : Nat) : Int), ((a : Nat) : Int), ((b : Nat) : Int), ((c : Nat) : Int), ((i : Nat) : Int)]).mergeSort fun x y => decide (x ≤ y))) ho2 hx0_8.size (fun e => by have := congrArg List.length e; simp at this) (by simp)) (fun _ _ _ => trivial) ?_
    rintro v1 h10 ⟨_, rfl, ho3, hx7⟩
    have hx0_9 := hx0_8.trans (ho2.ext hx7 hx0_8.size)
    have hb25 := hb21.chg hx7 hdj1
    have hb26 := hb22.chg hx7 hdj2
    have hb27 := hb23.chg hx7 hdj3
    have hb28 := hb24.chg hx7 hdj4
    refine lx_len rfl Try.underlying25 ho3.rd rfl <| lx_lssS rfl rfl rfl (fun c1 => ?_) (fun c1 => ?_)
    · refine lx_move (.bool true) rfl rfl <| lx_skip rfl <| lx_skip rfl <| lx_skip rfl <| lx_skip rfl <| lx_skip rfl <| lx_pick true (.bool true) rfl rfl rfl <| lx_move (.bool true) rfl rfl <| lx_skip rfl <| lx_skip rfl <| lx_skip rfl <| lx_skip rfl <| lx_skip rfl <| lx_pick true (.bool true) rfl rfl rfl <| lx_nil <| wi_true rfl <| wi_seq <| wi_reg rfl <| lx_assign (.bool false) rfl rfl <| lx_nil <| ?_
      -- R1
      refine wi_ret ⟨.bool false, (res_one rfl rfl), ⟨?_, hx0_9⟩⟩
      · congr 1; exact (decide_eq_false fun hb => absurd ((bad_dec hp3 hp4 (by omega) (by omega) (by omega)).1 hb).1 ((compact_sorted [((o : Nat) : Int), ((a : Nat) : Int), ((b : Nat) : Int), ((c : Nat) : Int), ((i : Nat) : Int)]).1 (by simp only [List.length_cons, List.length_nil]; omega))).symm
    · refine lx_move (.bool false) rfl rfl <| lx_move (.func (.func 133) #[] #[.pointer (some ⟨bn1, 0, none⟩), .pointer (some ⟨bn4, 0, none⟩), .pointer (some ⟨bn3, 0, none⟩)]) rfl rfl <| lx_move (.int .i64 ((a : Nat) : Int)) rfl rfl <| lx_move (.int .i64 ((c : Nat) : Int)) rfl rfl <| lx_callV [] [.pointer (some ⟨bn1, 0, none⟩), .pointer (some ⟨bn4, 0, none⟩), .pointer (some ⟨bn3, 0, none⟩)] [.int .i64 ((a : Nat) : Int), .int .i64 ((c : Nat) : Int)] rfl rfl Try.call133 rfl rfl (meets_spec h10 a c p.length ((pb p)) o i vj hj rj vm hm rm bn1 bn4 bn3 hb25 hb28 hb27 (hr_vj.extS hx0_9) (ht_vj.extS hx0_9) (hr_vm.extS hx0_9) (ht_vm.extS hx0_9) (by omega) (by omega) (by omega) (by omega) (by omega)) (fun _ _ _ => trivial) ?_
      rintro _ h11 ⟨rfl, rfl⟩
      refine lx_not rfl rfl <| lx_pick false (.bool (!((decide (joinF p.length ((pb p)) a c = ((i : Nat) : Int)) && decide (meetF p.length ((pb p)) a c = ((o : Nat) : Int)))))) rfl rfl rfl <| lx_move (.bool (!((decide (joinF p.length ((pb p)) a c = ((i : Nat) : Int)) && decide (meetF p.length ((pb p)) a c = ((o : Nat) : Int)))))) rfl rfl <| ?_
      cases c2 : ((decide (joinF p.length ((pb p)) a c = ((i : Nat) : Int)) && decide (meetF p.length ((pb p)) a c = ((o : Nat) : Int))))
      · refine lx_skip rfl <| lx_skip rfl <| lx_skip rfl <| lx_skip rfl <| lx_skip rfl <| lx_pick true (.bool true) rfl rfl rfl <| lx_nil <| wi_true rfl <| wi_seq <| wi_reg rfl <| lx_assign (.bool false) rfl rfl <| lx_nil <| ?_
        -- R2
        refine wi_ret ⟨.bool false, (res_one rfl rfl), ⟨?_, hx0_9⟩⟩
        · congr 1; exact (decide_eq_false fun hb => by have := ((bad_dec hp3 hp4 (by omega) (by omega) (by omega)).1 hb).2.1; unfold mtB at this; rw [c2] at this; cases this).symm
      · refine lx_move (.func (.func 133) #[] #[.pointer (some ⟨bn1, 0, none⟩), .pointer (some ⟨bn4, 0, none⟩), .pointer (some ⟨bn3, 0, none⟩)]) rfl rfl <| lx_move (.int .i64 ((b : Nat) : Int)) rfl rfl <| lx_move (.int .i64 ((c : Nat) : Int)) rfl rfl <| lx_callV [] [.pointer (some ⟨bn1, 0, none⟩), .pointer (some ⟨bn4, 0, none⟩), .pointer (some ⟨bn3, 0, none⟩)] [.int .i64 ((b : Nat) : Int), .int .i64 ((c : Nat) : Int)] rfl rfl Try.call133 rfl rfl (meets_spec h10 b c p.length ((pb p)) o i vj hj rj vm hm rm bn1 bn4 bn3 hb25 hb28 hb27 (hr_vj.extS hx0_9) (ht_vj.extS hx0_9) (hr_vm.extS hx0_9) (ht_vm.extS hx0_9) (by omega) (by omega) (by omega) (by omega) (by omega)) (fun _ _ _ => trivial) ?_
        rintro _ h12 ⟨rfl, rfl⟩
        refine lx_not rfl rfl <| lx_pick false (.bool (!((decide (joinF p.length ((pb p)) b c = ((i : Nat) : Int)) && decide (meetF p.length ((pb p)) b c = ((o : Nat) : Int)))))) rfl rfl rfl <| lx_nil <| wi_condS (t := !((decide (joinF p.length ((pb p)) b c = ((i : Nat) : Int)) && decide (meetF p.length ((pb p)) b c = ((o : Nat) : Int))))) rfl (fun c3 => ?_) (fun c3 => ?_)
        · refine wi_seq <| wi_reg rfl <| lx_assign (.bool false) rfl rfl <| lx_nil <| ?_
          -- R3
          refine wi_ret ⟨.bool false, (res_one rfl rfl), ⟨?_, hx0_9⟩⟩
          · congr 1; exact (decide_eq_false fun hb => by have := ((bad_dec hp3 hp4 (by omega) (by omega) (by omega)).1 hb).2.2.1; unfold mtB at this; rw [this] at c3; cases c3).symm
        · refine wi_skip <| wi_seq <| wi_reg rfl <| lx_move (vp) rfl rfl <| lx_move (.int .i64 ((a : Nat) : Int)) rfl rfl <| lx_move (.int .i64 ((b : Nat) : Int)) rfl rfl <| lx_call [vp, .int .i64 ((a : Nat) : Int), .int .i64 ((b : Nat) : Int)] rfl rfl Try.call106 rfl (below_spec h10 vp hs p a b (hr_vp.extS hx0_9) (ht_vp.extS hx0_9) (by omega) (by first | with_reducible assumption | omega) (by omega) (by omega)) (fun _ _ _ => trivial) ?_
          rintro _ h13 ⟨rfl, rfl⟩
          refine lx_move (.bool (decide (a ≠ b) && pb p a b)) rfl rfl <| ?_
          cases c4 : (decide (a ≠ b) && pb p a b)
          · refine lx_move (.func (.func 133) #[] #[.pointer (some ⟨bn1, 0, none⟩), .pointer (some ⟨bn4, 0, none⟩), .pointer (some ⟨bn3, 0, none⟩)]) rfl rfl <| lx_move (.int .i64 ((a : Nat) : Int)) rfl rfl <| lx_move (.int .i64 ((b : Nat) : Int)) rfl rfl <| lx_callV [] [.pointer (some ⟨bn1, 0, none⟩), .pointer (some ⟨bn4, 0, none⟩), .pointer (some ⟨bn3, 0, none⟩)] [.int .i64 ((a : Nat) : Int), .int .i64 ((b : Nat) : Int)] rfl rfl Try.call133 rfl rfl (meets_spec h10 a b p.length ((pb p)) o i vj hj rj vm hm rm bn1 bn4 bn3 hb25 hb28 hb27 (hr_vj.extS hx0_9) (ht_vj.extS hx0_9) (hr_vm.extS hx0_9) (ht_vm.extS hx0_9) (by omega) (by omega) (by omega) (by omega) (by omega)) (fun _ _ _ => trivial) ?_
            rintro _ h14 ⟨rfl, rfl⟩
            refine lx_pick false (.bool ((decide (joinF p.length ((pb p)) a b = ((i : Nat) : Int)) && decide (meetF p.length ((pb p)) a b = ((o : Nat) : Int))))) rfl rfl rfl <| lx_assign (.bool ((decide (joinF p.length ((pb p)) a b = ((i : Nat) : Int)) && decide (meetF p.length ((pb p)) a b = ((o : Nat) : Int))))) rfl rfl <| lx_nil <| ?_
            -- R4
            refine wi_ret ⟨.bool ((decide (joinF p.length ((pb p)) a b = ((i : Nat) : Int)) && decide (meetF p.length ((pb p)) a b = ((o : Nat) : Int)))), (res_one rfl rfl), ⟨?_, hx0_9⟩⟩
            · congr 1
              rw [Bool.eq_iff_iff, decide_eq_true_iff, (bad_dec hp3 hp4 (by omega) (by omega) (by omega))]
              exact ⟨fun h => ⟨Classical.byContradiction fun hn => c1 (by have := (compact_sorted [((o : Nat) : Int), ((a : Nat) : Int), ((b : Nat) : Int), ((c : Nat) : Int), ((i : Nat) : Int)]).2 hn; simp only [List.length_cons, List.length_nil] at this; omega), c2, by unfold mtB; simpa using c3, .inr h⟩, fun h => h.2.2.2.resolve_left (by rw [c4]; simp)⟩
          · refine lx_skip rfl <| lx_skip rfl <| lx_skip rfl <| lx_skip rfl <| lx_pick true (.bool true) rfl rfl rfl <| lx_assign (.bool true) rfl rfl <| lx_nil <| ?_
            -- R5
            refine wi_ret ⟨.bool true, (res_one rfl rfl), ⟨?_, hx0_9⟩⟩
            · congr 1
              symm
              rw [decide_eq_true_iff, (bad_dec hp3 hp4 (by omega) (by omega) (by omega))]
              exact ⟨Classical.byContradiction fun hn => c1 (by have := (compact_sorted [((o : Nat) : Int), ((a : Nat) : Int), ((b : Nat) : Int), ((c : Nat) : Int), ((i : Nat) : Int)]).2 hn; simp only [List.length_cons, List.length_nil] at this; omega), c2, by unfold mtB; simpa using c3, .inl c4⟩
  · refine lx_alloc rfl rfl Try.zeroValue3 (fun hs _ hx => Blk.extS hs hx) fun bn6 h15 hbn6 hbk9 hx8 hsz6 => ?_
    have hbb6 : h.size ≤ bn6 := by have := hx0_1.size; omega
    have hne11 : bn6 ≠ bn1 := by have := hb1.lt; omega
    have hne12 : bn6 ≠ bn2 := by have := hbk2.lt; omega
    have hx0_10 := hx0_1.trans2 hx8 hx0_1.size
    have hb29 := hb1.extS hx8
    have hb30 := hbk2.extS hx8
    have hbk9 : Blk h15 bn6 #[.int .i64 0] 3 := hbk9
    refine lx_alloc rfl rfl Try.zeroValue3 (fun hs _ hx => Blk.extS hs hx) fun bn7 h16 hbn7 hbk10 hx9 hsz7 => ?_
    have hbb7 : h.size ≤ bn7 := by have := hx0_10.size; omega
    have hne13 : bn7 ≠ bn1 := by have := hb29.lt; omega
    have hne14 : bn7 ≠ bn2 := by have := hb30.lt; omega
    have hne15 : bn7 ≠ bn6 := by have := hbk9.lt; omega
    have hx0_11 := hx0_10.trans2 hx9 hx0_10.size
    have hb31 := hb29.extS hx9
    have hb32 := hb30.extS hx9
    have hb33 := hbk9.extS hx9
    have hbk10 : Blk h16 bn7 #[.int .i64 0] 3 := hbk10
    refine lx_stB (.int .i64 ((o : Nat) : Int)) rfl rfl Try.sizeOf3 hbk10 (by simp) rfl rfl rfl rfl (fun hs _ _ hc => ChgB.blk hc hs (by omega)) fun h17 hbk11 hc4 => ?_
    have hx0_12 := hx0_11.trans (hc4.ext hbb7)
    have hb34 := hc4.blk hb31 (Ne.symm hne13)
    have hb35 := hc4.blk hb32 (Ne.symm hne14)
    have hb36 := hc4.blk hb33 (Ne.symm hne15)
    have hbk11 : Blk h17 bn7 #[.int .i64 ((o : Nat) : Int)] 3 := hbk11
    refine lx_assign (.int .i64 ((a : Nat) : Int)) rfl rfl <| lx_assign (.int .i64 ((b : Nat) : Int)) rfl rfl <| lx_assign (.int .i64 ((c : Nat) : Int)) rfl rfl <| lx_stB (.int .i64 ((i : Nat) : Int)) rfl rfl Try.sizeOf3 hb36 (by simp) rfl rfl rfl rfl (fun hs _ _ hc => ChgB.blk hc hs (by omega)) fun h18 hbk12 hc5 => ?_
    have hx0_13 := hx0_12.trans (hc5.ext hbb6)
    have hb37 := hc5.blk hb34 (Ne.symm hne11)
    have hb38 := hc5.blk hb35 (Ne.symm hne12)
    have hb39 := hc5.blk hbk11 hne15
    have hbk12 : Blk h18 bn6 #[.int .i64 ((i : Nat) : Int)] 3 := hbk12
    refine lx_nil <| wi_seq <| wi_reg rfl <| lx_makeFunc [] [.pointer (some ⟨bn1, 0, none⟩), .pointer (some ⟨bn6, 0, none⟩), .pointer (some ⟨bn7, 0, none⟩)] rfl rfl rfl <| lx_assign (.func (.func 133) #[] #[.pointer (some ⟨bn1, 0, none⟩), .pointer (some ⟨bn6, 0, none⟩), .pointer (some ⟨bn7, 0, none⟩)]) rfl rfl <| lx_nil <| wi_seq <| wi_reg rfl <| lx_ldBA rfl rfl wd48 hb38 rfl rfl <| lx_alloc rfl rfl Try.zeroValue48 (fun _ _ _ => trivial) fun bn8 h19 hbn8 hbk13 hx10 hsz8 => ?_
    have hbb8 : h.size ≤ bn8 := by have := hx0_13.size; omega
    have hne16 : bn8 ≠ bn1 := by have := hb37.lt; omega
    have hne17 : bn8 ≠ bn2 := by have := hb38.lt; omega
    have hne18 : bn8 ≠ bn6 := by have := hbk12.lt; omega
    have hne19 : bn8 ≠ bn7 := by have := hb39.lt; omega
    have hx0_14 := hx0_13.trans2 hx10 hx0_13.size
    have hb40 := hb37.extS hx10
    have hb41 := hb38.extS hx10
    have hb42 := hbk12.extS hx10
    have hb43 := hb39.extS hx10
    have hbk13 : Blk h19 bn8 #[.int .i64 0, .int .i64 0, .int .i64 0, .int .i64 0, .int .i64 0] 48 := hbk13
    refine lx_stBA (#[.int .i64 ((o : Nat) : Int), .int .i64 ((a : Nat) : Int), .int .i64 ((b : Nat) : Int), .int .i64 ((c : Nat) : Int), .int .i64 ((i : Nat) : Int)]) rfl rfl Try.sizeOf48 hbk13 rfl rfl rfl rfl (by simp [Value.oneCell']) (fun _ _ _ _ => trivial) fun h20 hbk14 hc6 => ?_
    have hx0_15 := hx0_14.trans (hc6.ext hbb8)
    have hb44 := hc6.blk hb40 (Ne.symm hne16)
    have hb45 := hc6.blk hb41 (Ne.symm hne17)
    have hb46 := hc6.blk hb42 (Ne.symm hne18)
    have hb47 := hc6.blk hb43 (Ne.symm hne19)
    refine lx_nil <| wi_seq <| wi_reg rfl <| lx_sliceA rfl Try.underlying48 Try.sizeOf3 rfl <| ?_
    have ho4 : OwE encI h20 h.size 48 (.slice (some ⟨bn8, 0, none⟩) 5 5) ([((o : Nat) : Int), ((a : Nat) : Int), ((b : Nat) : Int), ((c : Nat) : Int), ((i : Nat) : Int)]) := own_of_blk (xs := [((o : Nat) : Int), ((a : Nat) : Int), ((b : Nat) : Int), ((c : Nat) : Int), ((i : Nat) : Int)]) hbk14 hbb8 (by simp)
    have hdj5 : Value.ownBlock (.slice (some ⟨bn8, 0, none⟩) 5 5) ≠ some bn1 := fun e => (Ne.symm hne16) (Option.some.inj e).symm
    have hdj6 : Value.ownBlock (.slice (some ⟨bn8, 0, none⟩) 5 5) ≠ some bn2 := fun e => (Ne.symm hne17) (Option.some.inj e).symm
    have hdj7 : Value.ownBlock (.slice (some ⟨bn8, 0, none⟩) 5 5) ≠ some bn6 := fun e => (Ne.symm hne18) (Option.some.inj e).symm
    have hdj8 : Value.ownBlock (.slice (some ⟨bn8, 0, none⟩) 5 5) ≠ some bn7 := fun e => (Ne.symm hne19) (Option.some.inj e).symm
    refine lx_call [(.slice (some ⟨bn8, 0, none⟩) 5 5)] rfl rfl Try.call82 rfl (lsort_gen (t := 48) h20 h.size ((.slice (some ⟨bn8, 0, none⟩) 5 5)) ([((o : Nat) : Int), ((a : Nat) : Int), ((b : Nat) : Int), ((c : Nat) : Int), ((i : Nat) : Int)]) ho4 hx0_15.size (by simp) (by simp)) (fun _ _ _ => trivial) ?_
    rintro _ h21 ⟨rfl, ho5, hx11⟩
    have hx0_16 := hx0_15.trans (ho4.ext hx11 hx0_15.size)
    have hb48 := hb44.chg hx11 hdj5
    have hb49 := hb45.chg hx11 hdj6
    have hb50 := hb46.chg hx11 hdj7
    have hb51 := hb47.chg hx11 hdj8
    refine lx_nil <| wi_seq <| wi_seq <| wi_reg rfl <| lx_sliceA rfl Try.underlying48 Try.sizeOf3 rfl <| ?_
    refine lx_call [(.slice (some ⟨bn8, 0, none⟩) 5 5)] rfl rfl Try.call123 rfl (lcompact_gen (t := 48) h21 h.size ((.slice (some ⟨bn8, 0, none⟩) 5 5)) ((([((o : Nat) : Int), ((a : Nat) : Int), ((b : Nat) : Int), ((c : Nat) : Int), ((i : Nat) : Int)]).mergeSort fun x y => decide (x ≤ y))) ho5 hx0_16.size (fun e => by have := congrArg List.length e; simp at this) (by simp)) (fun _ _ _ => trivial) ?_
    rintro v2 h22 ⟨_, rfl, ho6, hx12⟩
    have hx0_17 := hx0_16.trans (ho5.ext hx12 hx0_16.size)
    have hb52 := hb48.chg hx12 hdj5
    have hb53 := hb49.chg hx12 hdj6
    have hb54 := hb50.chg hx12 hdj7
    have hb55 := hb51.chg hx12 hdj8
    refine lx_len rfl Try.underlying25 ho6.rd rfl <| lx_lssS rfl rfl rfl (fun c5 => ?_) (fun c5 => ?_)
    · refine lx_move (.bool true) rfl rfl <| lx_skip rfl <| lx_skip rfl <| lx_skip rfl <| lx_skip rfl <| lx_skip rfl <| lx_pick true (.bool true) rfl rfl rfl <| lx_move (.bool true) rfl rfl <| lx_skip rfl <| lx_skip rfl <| lx_skip rfl <| lx_skip rfl <| lx_skip rfl <| lx_pick true (.bool true) rfl rfl rfl <| lx_nil <| wi_true rfl <| wi_seq <| wi_reg rfl <| lx_assign (.bool false) rfl rfl <| lx_nil <| ?_
      -- R6
      refine wi_ret ⟨.bool false, (res_one rfl rfl), ⟨?_, hx0_17⟩⟩
      · congr 1; exact (decide_eq_false fun hb => absurd ((bad_dec hp3 hp4 (by omega) (by omega) (by omega)).1 hb).1 ((compact_sorted [((o : Nat) : Int), ((a : Nat) : Int), ((b : Nat) : Int), ((c : Nat) : Int), ((i : Nat) : Int)]).1 (by simp only [List.length_cons, List.length_nil]; omega))).symm
    · refine lx_move (.bool false) rfl rfl <| lx_move (.func (.func 133) #[] #[.pointer (some ⟨bn1, 0, none⟩), .pointer (some ⟨bn6, 0, none⟩), .pointer (some ⟨bn7, 0, none⟩)]) rfl rfl <| lx_move (.int .i64 ((a : Nat) : Int)) rfl rfl <| lx_move (.int .i64 ((c : Nat) : Int)) rfl rfl <| lx_callV [] [.pointer (some ⟨bn1, 0, none⟩), .pointer (some ⟨bn6, 0, none⟩), .pointer (some ⟨bn7, 0, none⟩)] [.int .i64 ((a : Nat) : Int), .int .i64 ((c : Nat) : Int)] rfl rfl Try.call133 rfl rfl (meets_spec h22 a c p.length ((pb p)) o i vj hj rj vm hm rm bn1 bn6 bn7 hb52 hb54 hb55 (hr_vj.extS hx0_17) (ht_vj.extS hx0_17) (hr_vm.extS hx0_17) (ht_vm.extS hx0_17) (by omega) (by omega) (by omega) (by omega) (by omega)) (fun _ _ _ => trivial) ?_
      rintro _ h23 ⟨rfl, rfl⟩
      refine lx_not rfl rfl <| lx_pick false (.bool (!((decide (joinF p.length ((pb p)) a c = ((i : Nat) : Int)) && decide (meetF p.length ((pb p)) a c = ((o : Nat) : Int)))))) rfl rfl rfl <| lx_move (.bool (!((decide (joinF p.length ((pb p)) a c = ((i : Nat) : Int)) && decide (meetF p.length ((pb p)) a c = ((o : Nat) : Int)))))) rfl rfl <| ?_
      cases c6 : ((decide (joinF p.length ((pb p)) a c = ((i : Nat) : Int)) && decide (meetF p.length ((pb p)) a c = ((o : Nat) : Int))))
      · refine lx_skip rfl <| lx_skip rfl <| lx_skip rfl <| lx_skip rfl <| lx_skip rfl <| lx_pick true (.bool true) rfl rfl rfl <| lx_nil <| wi_true rfl <| wi_seq <| wi_reg rfl <| lx_assign (.bool false) rfl rfl <| lx_nil <| ?_
        -- R7
        refine wi_ret ⟨.bool false, (res_one rfl rfl), ⟨?_, hx0_17⟩⟩
        · congr 1; exact (decide_eq_false fun hb => by have := ((bad_dec hp3 hp4 (by omega) (by omega) (by omega)).1 hb).2.1; unfold mtB at this; rw [c6] at this; cases this).symm
      · refine lx_move (.func (.func 133) #[] #[.pointer (some ⟨bn1, 0, none⟩), .pointer (some ⟨bn6, 0, none⟩), .pointer (some ⟨bn7, 0, none⟩)]) rfl rfl <| lx_move (.int .i64 ((b : Nat) : Int)) rfl rfl <| lx_move (.int .i64 ((c : Nat) : Int)) rfl rfl <| lx_callV [] [.pointer (some ⟨bn1, 0, none⟩), .pointer (some ⟨bn6, 0, none⟩), .pointer (some ⟨bn7, 0, none⟩)] [.int .i64 ((b : Nat) : Int), .int .i64 ((c : Nat) : Int)] rfl rfl Try.call133 rfl rfl (meets_spec h22 b c p.length ((pb p)) o i vj hj rj vm hm rm bn1 bn6 bn7 hb52 hb54 hb55 (hr_vj.extS hx0_17) (ht_vj.extS hx0_17) (hr_vm.extS hx0_17) (ht_vm.extS hx0_17) (by omega) (by omega) (by omega) (by omega) (by omega)) (fun _ _ _ => trivial) ?_
        rintro _ h24 ⟨rfl, rfl⟩
        refine lx_not rfl rfl <| lx_pick false (.bool (!((decide (joinF p.length ((pb p)) b c = ((i : Nat) : Int)) && decide (meetF p.length ((pb p)) b c = ((o : Nat) : Int)))))) rfl rfl rfl <| lx_nil <| wi_condS (t := !((decide (joinF p.length ((pb p)) b c = ((i : Nat) : Int)) && decide (meetF p.length ((pb p)) b c = ((o : Nat) : Int))))) rfl (fun c7 => ?_) (fun c7 => ?_)
        · refine wi_seq <| wi_reg rfl <| lx_assign (.bool false) rfl rfl <| lx_nil <| ?_
          -- R8
          refine wi_ret ⟨.bool false, (res_one rfl rfl), ⟨?_, hx0_17⟩⟩
          · congr 1; exact (decide_eq_false fun hb => by have := ((bad_dec hp3 hp4 (by omega) (by omega) (by omega)).1 hb).2.2.1; unfold mtB at this; rw [this] at c7; cases c7).symm
        · refine wi_skip <| wi_seq <| wi_reg rfl <| lx_move (vp) rfl rfl <| lx_move (.int .i64 ((a : Nat) : Int)) rfl rfl <| lx_move (.int .i64 ((b : Nat) : Int)) rfl rfl <| lx_call [vp, .int .i64 ((a : Nat) : Int), .int .i64 ((b : Nat) : Int)] rfl rfl Try.call106 rfl (below_spec h22 vp hs p a b (hr_vp.extS hx0_17) (ht_vp.extS hx0_17) (by omega) (by first | with_reducible assumption | omega) (by omega) (by omega)) (fun _ _ _ => trivial) ?_
          rintro _ h25 ⟨rfl, rfl⟩
          refine lx_move (.bool (decide (a ≠ b) && pb p a b)) rfl rfl <| ?_
          cases c8 : (decide (a ≠ b) && pb p a b)
          · refine lx_move (.func (.func 133) #[] #[.pointer (some ⟨bn1, 0, none⟩), .pointer (some ⟨bn6, 0, none⟩), .pointer (some ⟨bn7, 0, none⟩)]) rfl rfl <| lx_move (.int .i64 ((a : Nat) : Int)) rfl rfl <| lx_move (.int .i64 ((b : Nat) : Int)) rfl rfl <| lx_callV [] [.pointer (some ⟨bn1, 0, none⟩), .pointer (some ⟨bn6, 0, none⟩), .pointer (some ⟨bn7, 0, none⟩)] [.int .i64 ((a : Nat) : Int), .int .i64 ((b : Nat) : Int)] rfl rfl Try.call133 rfl rfl (meets_spec h22 a b p.length ((pb p)) o i vj hj rj vm hm rm bn1 bn6 bn7 hb52 hb54 hb55 (hr_vj.extS hx0_17) (ht_vj.extS hx0_17) (hr_vm.extS hx0_17) (ht_vm.extS hx0_17) (by omega) (by omega) (by omega) (by omega) (by omega)) (fun _ _ _ => trivial) ?_
            rintro _ h26 ⟨rfl, rfl⟩
            refine lx_pick false (.bool ((decide (joinF p.length ((pb p)) a b = ((i : Nat) : Int)) && decide (meetF p.length ((pb p)) a b = ((o : Nat) : Int))))) rfl rfl rfl <| lx_assign (.bool ((decide (joinF p.length ((pb p)) a b = ((i : Nat) : Int)) && decide (meetF p.length ((pb p)) a b = ((o : Nat) : Int))))) rfl rfl <| lx_nil <| ?_
            -- R9
            refine wi_ret ⟨.bool ((decide (joinF p.length ((pb p)) a b = ((i : Nat) : Int)) && decide (meetF p.length ((pb p)) a b = ((o : Nat) : Int)))), (res_one rfl rfl), ⟨?_, hx0_17⟩⟩
            · congr 1
              rw [Bool.eq_iff_iff, decide_eq_true_iff, (bad_dec hp3 hp4 (by omega) (by omega) (by omega))]
              exact ⟨fun h => ⟨Classical.byContradiction fun hn => c5 (by have := (compact_sorted [((o : Nat) : Int), ((a : Nat) : Int), ((b : Nat) : Int), ((c : Nat) : Int), ((i : Nat) : Int)]).2 hn; simp only [List.length_cons, List.length_nil] at this; omega), c6, by unfold mtB; simpa using c7, .inr h⟩, fun h => h.2.2.2.resolve_left (by rw [c8]; simp)⟩
          · refine lx_skip rfl <| lx_skip rfl <| lx_skip rfl <| lx_skip rfl <| lx_pick true (.bool true) rfl rfl rfl <| lx_assign (.bool true) rfl rfl <| lx_nil <| ?_
            -- R10
            refine wi_ret ⟨.bool true, (res_one rfl rfl), ⟨?_, hx0_17⟩⟩
            · congr 1
              symm
              rw [decide_eq_true_iff, (bad_dec hp3 hp4 (by omega) (by omega) (by omega))]
              exact ⟨Classical.byContradiction fun hn => c5 (by have := (compact_sorted [((o : Nat) : Int), ((a : Nat) : Int), ((b : Nat) : Int), ((c : Nat) : Int), ((i : Nat) : Int)]).2 hn; simp only [List.length_cons, List.length_nil] at this; omega), c6, by unfold mtB; simpa using c7, .inl c8⟩

end Go.Proofs.Ytdokijbdnajhgaa
