/-
  Texts in one: QG.
-/
import Derived.Test.YtdokijbdnajhgaaMCnt9
set_option linter.unusedSimpArgs false
set_option linter.unusedVariables false
namespace Go.Proofs.Ytdokijbdnajhgaa
open Go Go.X

set_option maxRecDepth 10000 in
theorem reuler_spec (h : Heap) (vp : Value) (hs : List Hdr) (p : List (List Bool)) (hr_vp : RdE encHd h vp hs) (ht_vp : RT encB h hs p) (hp1 : p.length ≤ 12) (hp2 : Sq p p.length) (hp3 : IsO p.length (pb p)) : Fx Try.prog 55 [vp] h (fun v h' => v = .int .i64 (eulN p.length (pb p)) ∧ h = h') := by
  have hl_vp := ht_vp.1
  refine fx_intro (n := 71) [(0, vp)] Try.func55 rfl rfl (by simp) ⟨rfl, trivial⟩ fun g0 => ?_
  refine wi_seq <| wi_reg rfl <| lx_assign (.int .i64 0) rfl rfl <| lx_nil <| wi_seq <| wi_reg rfl <| ?_
  have hpe : 2 ^ hs.length = 2 ^ p.length := by rw [hl_vp]
  have hpw := pow12 hp1
  have hpp : 0 < 2 ^ p.length := Nat.pow_pos (by omega)
  refine lx_assign (.int .i64 0) rfl rfl <| lx_nil <| wi_seq <| wi_seq <| wi_reg rfl <| lx_assign (.int .i64 1) rfl rfl <| lx_nil <| wi_block <| ?_
  refine wi_loop (σ := Nat × Int) (rngB 3 70 []) (fun (ss : Nat × Int) => [(4, .int .i64 ((ss.1 : Nat) : Int)), (3, .int .i64 ss.2)]) (fun (ss : Nat × Int) (hh : Heap) => h = hh ∧ (1 ≤ ss.1 ∧ ss.1 ≤ 2 ^ p.length) ∧ (ss.2 = eulS p.length (pb p) ss.1)) (fun (ss : Nat × Int) => 2 ^ p.length - ss.1) (1, 0) ⟨rfl, rfl, trivial⟩ ⟨rfl, ?_, ?_⟩ ?_
  · try dsimp only
    exact ⟨Nat.le_refl _, by omega⟩
  · try dsimp only
    exact (eulS_one _ _).symm
  rintro g1 ⟨s, tot⟩ hh1 ⟨rfl, hs1, htot⟩ IH1
  dsimp only at *
  have htb := eulS_bound (n := p.length) (f := pb p) (t := s)
  rw [← htot] at htb
  refine wi_seq <| wi_seq <| wi_reg rfl <| lx_move (.int .i64 ((s : Nat) : Int)) rfl rfl <| lx_move (vp) rfl rfl <| lx_len rfl Try.underlying23 hr_vp rfl <| lx_conv ((hs.length : Nat) : Int) rfl Try.underlying3 Try.underlying45 rfl (wrap_u64 (by omega) (by omega)) <| lx_shl (m := 1) (n := hs.length) rfl rfl rfl (by show _ ≤ 64; omega) (wrap_i64 (by omega) (by omega)) <| lx_lssS rfl rfl rfl (fun c1 => ?_) (fun c1 => ?_)
  · refine lx_nil <| wi_true rfl <| wi_skip <| wi_seq <| wi_block <| wi_seq <| wi_reg rfl <| lx_assign (.bool true) rfl rfl <| lx_assign (.int .i64 0) rfl rfl <| lx_nil <| wi_seq <| wi_seq <| wi_reg rfl <| lx_assign (.int .i64 0) rfl rfl <| lx_nil <| wi_block <| ?_
    refine wi_loop (σ := Nat × Bool × Nat) (rngB 17 59 [5, 6, 7, 8]) (fun (ss : Nat × Bool × Nat) => [(7, .int .i64 ((ss.1 : Nat) : Int)), (5, .bool ss.2.1), (6, .int .i64 ((ss.2.2 : Nat) : Int))]) (fun (ss : Nat × Bool × Nat) (hh : Heap) => h = hh ∧ (ss.1 ≤ p.length) ∧ (ss.2.1 = chnK (pb p) s ss.1) ∧ (ss.2.2 = cntK s ss.1)) (fun (ss : Nat × Bool × Nat) => p.length - ss.1) (0, true, 0) ⟨rfl, rfl, rfl, trivial⟩ ⟨rfl, ?_, ?_, ?_⟩ ?_
    · try dsimp only
      omega
    · try dsimp only
      first | done | rfl
    · try dsimp only
      first | done | rfl
    rintro g2 ⟨x, b, c⟩ hh2 ⟨rfl, hx, hb, hc⟩ IH2
    dsimp only at *
    have hcl := cntK_le s x
    refine wi_seq <| wi_seq <| wi_reg rfl <| lx_move (.int .i64 ((x : Nat) : Int)) rfl rfl <| lx_move (vp) rfl rfl <| lx_len rfl Try.underlying23 hr_vp rfl <| lx_lssS rfl rfl rfl (fun c2 => ?_) (fun c2 => ?_)
    · refine lx_nil <| wi_true rfl <| wi_skip <| wi_seq <| wi_block <| wi_seq <| wi_seq <| wi_reg rfl <| lx_move (.int .i64 ((s : Nat) : Int)) rfl rfl <| lx_move (.int .i64 ((x : Nat) : Int)) rfl rfl <| lx_call [.int .i64 ((s : Nat) : Int), .int .i64 ((x : Nat) : Int)] rfl rfl Try.call78 rfl (in_spec h s x (by omega) (by omega)) (fun _ _ _ => trivial) ?_
      rintro _ h1 ⟨rfl, rfl⟩
      refine lx_not rfl rfl <| lx_nil <| wi_condS (t := !(s.testBit x)) rfl (fun c3 => ?_) (fun c3 => ?_)
      · refine wi_exit rfl <| wi_reg rfl <| lx_move (.int .i64 ((x : Nat) : Int)) rfl rfl <| lx_add (((x + 1 : Nat) : Int)) rfl rfl rfl (by omega) (by omega) (by omega) <| lx_assign (.int .i64 ((x + 1 : Nat) : Int)) rfl rfl <| lx_nil <| ?_
        -- L2.1
        refine IH2 _ _ (x + 1, b, c) (agree_ups rfl agree_self) ⟨rfl, rfl, rfl, trivial⟩ ⟨rfl, ?_, ?_, ?_⟩ ?_
        · try dsimp only
          omega
        · try dsimp only
          rw [chnK_no (by simpa using ‹(!s.testBit x) = true›)]; exact hb
        · try dsimp only
          rw [cntK_no (by simpa using ‹(!s.testBit x) = true›)]; exact hc
        · first | omega | (dsimp only; omega)
      · refine wi_skip <| wi_seq <| wi_reg rfl <| lx_move (.int .i64 ((c : Nat) : Int)) rfl rfl <| lx_add (((c + 1 : Nat) : Int)) rfl rfl rfl (by omega) (by omega) (by omega) <| lx_assign (.int .i64 ((c + 1 : Nat) : Int)) rfl rfl <| lx_nil <| wi_seq <| wi_reg rfl <| lx_assign (.int .i64 0) rfl rfl <| lx_nil <| wi_block <| ?_
        refine wi_loop (σ := Nat × Bool) (rngB 29 59 [5, 8]) (fun (ss : Nat × Bool) => [(8, .int .i64 ((ss.1 : Nat) : Int)), (5, .bool ss.2)]) (fun (ss : Nat × Bool) (hh : Heap) => h = hh ∧ (ss.1 ≤ x) ∧ (ss.2 = (b && cmpK (pb p) s x ss.1))) (fun (ss : Nat × Bool) => x - ss.1) (0, b) ⟨rfl, rfl, trivial⟩ ⟨rfl, ?_, ?_⟩ ?_
        · try dsimp only
          omega
        · try dsimp only
          unfold cmpK; simp
        rintro g3 ⟨y, d⟩ hh3 ⟨rfl, hy, hd⟩ IH3
        dsimp only at *
        refine wi_seq <| wi_seq <| wi_reg rfl <| lx_move (.int .i64 ((y : Nat) : Int)) rfl rfl <| lx_move (.int .i64 ((x : Nat) : Int)) rfl rfl <| lx_lssS rfl rfl rfl (fun c4 => ?_) (fun c4 => ?_)
        · refine lx_nil <| wi_true rfl <| wi_skip <| wi_seq <| wi_block <| wi_reg rfl <| lx_move (.bool d) rfl rfl <| lx_move (.bool d) rfl rfl <| ?_
          cases c5 : d
          · refine lx_skip rfl <| lx_skip rfl <| lx_skip rfl <| lx_skip rfl <| lx_skip rfl <| lx_skip rfl <| lx_skip rfl <| lx_skip rfl <| lx_skip rfl <| lx_skip rfl <| lx_skip rfl <| lx_skip rfl <| lx_skip rfl <| lx_skip rfl <| lx_skip rfl <| lx_skip rfl <| lx_skip rfl <| lx_skip rfl <| lx_skip rfl <| lx_skip rfl <| lx_skip rfl <| lx_skip rfl <| lx_pick false (.bool false) rfl rfl rfl <| lx_assign (.bool false) rfl rfl <| lx_nil <| wi_inBlock <| wi_reg rfl <| lx_move (.int .i64 ((y : Nat) : Int)) rfl rfl <| lx_add (((y + 1 : Nat) : Int)) rfl rfl rfl (by omega) (by omega) (by omega) <| lx_assign (.int .i64 ((y + 1 : Nat) : Int)) rfl rfl <| lx_nil <| ?_
            -- L4.1
            refine IH3 _ _ (y + 1, false) (agree_ups rfl agree_self) ⟨rfl, rfl, trivial⟩ ⟨rfl, ?_, ?_⟩ ?_
            · try dsimp only
              omega
            · try dsimp only
              rw [cmpK_succ, ← Bool.and_assoc, ← hd]
              first
              | (rw [show d = false from by assumption]; rfl)
              | (rw [show d = true from by assumption, show s.testBit y = false from by assumption]; rfl)
              | (rw [show d = true from by assumption, show s.testBit y = true from by assumption, show pb p x y = true from by assumption]; rfl)
              | (rw [show d = true from by assumption, show s.testBit y = true from by assumption, show pb p x y = false from by assumption]; simp; done)
            · first | omega | (dsimp only; omega)
          · refine lx_move (.int .i64 ((s : Nat) : Int)) rfl rfl <| lx_move (.int .i64 ((y : Nat) : Int)) rfl rfl <| lx_call [.int .i64 ((s : Nat) : Int), .int .i64 ((y : Nat) : Int)] rfl rfl Try.call78 rfl (in_spec h s y (by omega) (by omega)) (fun _ _ _ => trivial) ?_
            rintro _ h2 ⟨rfl, rfl⟩
            refine lx_not rfl rfl <| lx_move (.bool (!(s.testBit y))) rfl rfl <| ?_
            cases c6 : (s.testBit y)
            · refine lx_skip rfl <| lx_skip rfl <| lx_skip rfl <| lx_skip rfl <| lx_skip rfl <| lx_skip rfl <| lx_skip rfl <| lx_pick true (.bool true) rfl rfl rfl <| lx_move (.bool true) rfl rfl <| lx_skip rfl <| lx_skip rfl <| lx_skip rfl <| lx_skip rfl <| lx_skip rfl <| lx_skip rfl <| lx_skip rfl <| lx_pick true (.bool true) rfl rfl rfl <| lx_pick true (.bool true) rfl rfl rfl <| lx_assign (.bool true) rfl rfl <| lx_nil <| wi_inBlock <| wi_reg rfl <| lx_move (.int .i64 ((y : Nat) : Int)) rfl rfl <| lx_add (((y + 1 : Nat) : Int)) rfl rfl rfl (by omega) (by omega) (by omega) <| lx_assign (.int .i64 ((y + 1 : Nat) : Int)) rfl rfl <| lx_nil <| ?_
              -- L4.2
              refine IH3 _ _ (y + 1, true) (agree_ups rfl agree_self) ⟨rfl, rfl, trivial⟩ ⟨rfl, ?_, ?_⟩ ?_
              · try dsimp only
                omega
              · try dsimp only
                rw [cmpK_succ, ← Bool.and_assoc, ← hd]
                first
                | (rw [show d = false from by assumption]; rfl)
                | (rw [show d = true from by assumption, show s.testBit y = false from by assumption]; rfl)
                | (rw [show d = true from by assumption, show s.testBit y = true from by assumption, show pb p x y = true from by assumption]; rfl)
                | (rw [show d = true from by assumption, show s.testBit y = true from by assumption, show pb p x y = false from by assumption]; simp; done)
              · first | omega | (dsimp only; omega)
            · refine lx_move (vp) rfl rfl <| lx_move (.int .i64 ((x : Nat) : Int)) rfl rfl <| lx_ix (i := x) rfl eT23 hr_vp rfl rfl (by omega) <| lx_ld (i := x) (j := 0) ((gt hs x).v) rfl rfl fl70 hr_vp (by omega) rfl rfl <| lx_move (.int .i64 ((y : Nat) : Int)) rfl rfl <| lx_ix (i := y) rfl eT70 (ht_vp.2 x (by omega)) rfl rfl (by rw [hp2.2 x (by omega)]; omega) <| lx_ld (i := y) (j := 0) (.bool (gt (gt p x) y)) rfl rfl fl4 (ht_vp.2 x (by omega)) (by rw [hp2.2 x (by omega)]; omega) rfl rfl <| lx_pick false (.bool (gt (gt p x) y)) rfl rfl rfl <| lx_move (.bool (gt (gt p x) y)) rfl rfl <| ?_
              cases c7 : (gt (gt p x) y)
              · refine lx_move (vp) rfl rfl <| lx_move (.int .i64 ((y : Nat) : Int)) rfl rfl <| lx_ix (i := y) rfl eT23 hr_vp rfl rfl (by omega) <| lx_ld (i := y) (j := 0) ((gt hs y).v) rfl rfl fl70 hr_vp (by omega) rfl rfl <| lx_move (.int .i64 ((x : Nat) : Int)) rfl rfl <| lx_ix (i := x) rfl eT70 (ht_vp.2 y (by omega)) rfl rfl (by rw [hp2.2 y (by omega)]; omega) <| lx_ld (i := x) (j := 0) (.bool (gt (gt p y) x)) rfl rfl fl4 (ht_vp.2 y (by omega)) (by rw [hp2.2 y (by omega)]; omega) rfl rfl <| lx_pick false (.bool (gt (gt p y) x)) rfl rfl rfl <| lx_pick true (.bool (gt (gt p y) x)) rfl rfl rfl <| lx_assign (.bool (gt (gt p y) x)) rfl rfl <| lx_nil <| wi_inBlock <| wi_reg rfl <| lx_move (.int .i64 ((y : Nat) : Int)) rfl rfl <| lx_add (((y + 1 : Nat) : Int)) rfl rfl rfl (by omega) (by omega) (by omega) <| lx_assign (.int .i64 ((y + 1 : Nat) : Int)) rfl rfl <| lx_nil <| ?_
                -- L4.3
                refine IH3 _ _ (y + 1, gt (gt p y) x) (agree_ups rfl agree_self) ⟨rfl, rfl, trivial⟩ ⟨rfl, ?_, ?_⟩ ?_
                · try dsimp only
                  omega
                · try dsimp only
                  rw [cmpK_succ, ← Bool.and_assoc, ← hd]
                  first
                  | (rw [show d = false from by assumption]; rfl)
                  | (rw [show d = true from by assumption, show s.testBit y = false from by assumption]; rfl)
                  | (rw [show d = true from by assumption, show s.testBit y = true from by assumption, show pb p x y = true from by assumption]; rfl)
                  | (rw [show d = true from by assumption, show s.testBit y = true from by assumption, show pb p x y = false from by assumption]; simp; done)
                · first | omega | (dsimp only; omega)
              · refine lx_skip rfl <| lx_skip rfl <| lx_skip rfl <| lx_skip rfl <| lx_skip rfl <| lx_skip rfl <| lx_skip rfl <| lx_pick true (.bool true) rfl rfl rfl <| lx_pick true (.bool true) rfl rfl rfl <| lx_assign (.bool true) rfl rfl <| lx_nil <| wi_inBlock <| wi_reg rfl <| lx_move (.int .i64 ((y : Nat) : Int)) rfl rfl <| lx_add (((y + 1 : Nat) : Int)) rfl rfl rfl (by omega) (by omega) (by omega) <| lx_assign (.int .i64 ((y + 1 : Nat) : Int)) rfl rfl <| lx_nil <| ?_
                -- L4.4
                refine IH3 _ _ (y + 1, true) (agree_ups rfl agree_self) ⟨rfl, rfl, trivial⟩ ⟨rfl, ?_, ?_⟩ ?_
                · try dsimp only
                  omega
                · try dsimp only
                  rw [cmpK_succ, ← Bool.and_assoc, ← hd]
                  first
                  | (rw [show d = false from by assumption]; rfl)
                  | (rw [show d = true from by assumption, show s.testBit y = false from by assumption]; rfl)
                  | (rw [show d = true from by assumption, show s.testBit y = true from by assumption, show pb p x y = true from by assumption]; rfl)
                  | (rw [show d = true from by assumption, show s.testBit y = true from by assumption, show pb p x y = false from by assumption]; simp; done)
                · first | omega | (dsimp only; omega)
        · refine lx_nil <| wi_false rfl <| wi_exit rfl <| wi_inBlock <| wi_reg rfl <| lx_move (.int .i64 ((x : Nat) : Int)) rfl rfl <| lx_add (((x + 1 : Nat) : Int)) rfl rfl rfl (by omega) (by omega) (by omega) <| lx_assign (.int .i64 ((x + 1 : Nat) : Int)) rfl rfl <| lx_nil <| ?_
          -- L2.2
          refine IH2 _ _ (x + 1, d, c + 1) (agree_ups rfl (agree_mix (rngB_sub (by decide) (by decide) rfl) (agree_ups rfl agree_self))) ⟨rfl, rfl, rfl, trivial⟩ ⟨rfl, ?_, ?_, ?_⟩ ?_
          · try dsimp only
            omega
          · try dsimp only
            rw [chnK_yes (by simpa using ‹(!s.testBit x) = false›), ← hb, hd, show y = x from by omega]
          · try dsimp only
            rw [cntK_yes (by simpa using ‹(!s.testBit x) = false›), ← hc]
          · first | omega | (dsimp only; omega)
    · refine lx_nil <| wi_false rfl <| wi_exit rfl <| wi_seq <| wi_reg rfl <| lx_move (.bool b) rfl rfl <| lx_move (.bool b) rfl rfl <| ?_
      cases c8 : b
      · refine lx_skip rfl <| lx_skip rfl <| lx_skip rfl <| lx_pick false (.bool false) rfl rfl rfl <| lx_nil <| wi_false rfl <| wi_seq <| wi_reg rfl <| lx_move (.bool false) rfl rfl <| lx_nil <| wi_false rfl <| wi_skip <| wi_inBlock <| wi_reg rfl <| lx_move (.int .i64 ((s : Nat) : Int)) rfl rfl <| lx_add (((s + 1 : Nat) : Int)) rfl rfl rfl (by omega) (by omega) (by omega) <| lx_assign (.int .i64 ((s + 1 : Nat) : Int)) rfl rfl <| lx_nil <| ?_
        -- L0.1
        refine IH1 _ _ (s + 1, tot) (agree_ups rfl (agree_mix (rngB_sub (by decide) (by decide) rfl) (agree_ups rfl agree_self))) ⟨rfl, rfl, trivial⟩ ⟨rfl, ?_, ?_⟩ ?_
        · try dsimp only
          omega
        · try dsimp only
          rw [eulS_succ hs1.1, ← htot]
          have hxn : x = p.length := by omega
          unfold eulW
          rw [← hxn, ← hb, ← hc]
          first
          | (rw [show b = false from by assumption, if_neg (by simp), Int.add_zero]; done)
          | (rw [show b = true from by assumption, if_pos rfl, if_pos (by omega)]; done)
          | (rw [show b = true from by assumption, if_pos rfl, if_neg (by omega)]; rfl)
        · first | omega | (dsimp only; omega)
      · refine lx_move (.int .i64 ((c : Nat) : Int)) rfl rfl <| lx_rem (m := c) (n := 2) rfl rfl rfl (by omega) <| lx_eqlS rfl rfl rfl (fun c9 => ?_) (fun c9 => ?_)
        · refine lx_pick true (.bool true) rfl rfl rfl <| lx_nil <| wi_true rfl <| wi_reg rfl <| lx_move (.int .i64 tot) rfl rfl <| lx_add (tot + ((1 : Int))) rfl rfl rfl (by omega) (by omega) (by omega) <| lx_assign (.int .i64 (tot + ((1 : Int)))) rfl rfl <| lx_nil <| wi_inBlock <| wi_reg rfl <| lx_move (.int .i64 ((s : Nat) : Int)) rfl rfl <| lx_add (((s + 1 : Nat) : Int)) rfl rfl rfl (by omega) (by omega) (by omega) <| lx_assign (.int .i64 ((s + 1 : Nat) : Int)) rfl rfl <| lx_nil <| ?_
          -- L0.2
          refine IH1 _ _ (s + 1, tot + ((1 : Int))) (agree_ups rfl (agree_mix (rngB_sub (by decide) (by decide) rfl) (agree_ups rfl agree_self))) ⟨rfl, rfl, trivial⟩ ⟨rfl, ?_, ?_⟩ ?_
          · try dsimp only
            omega
          · try dsimp only
            rw [eulS_succ hs1.1, ← htot]
            have hxn : x = p.length := by omega
            unfold eulW
            rw [← hxn, ← hb, ← hc]
            first
            | (rw [show b = false from by assumption, if_neg (by simp), Int.add_zero]; done)
            | (rw [show b = true from by assumption, if_pos rfl, if_pos (by omega)]; done)
            | (rw [show b = true from by assumption, if_pos rfl, if_neg (by omega)]; rfl)
          · first | omega | (dsimp only; omega)
        · refine lx_pick true (.bool false) rfl rfl rfl <| lx_nil <| wi_false rfl <| wi_seq <| wi_reg rfl <| lx_move (.bool true) rfl rfl <| lx_nil <| wi_true rfl <| wi_reg rfl <| lx_move (.int .i64 tot) rfl rfl <| lx_sub (tot - ((1 : Int))) rfl rfl rfl (by omega) (by omega) (by omega) <| lx_assign (.int .i64 (tot - ((1 : Int)))) rfl rfl <| lx_nil <| wi_inBlock <| wi_reg rfl <| lx_move (.int .i64 ((s : Nat) : Int)) rfl rfl <| lx_add (((s + 1 : Nat) : Int)) rfl rfl rfl (by omega) (by omega) (by omega) <| lx_assign (.int .i64 ((s + 1 : Nat) : Int)) rfl rfl <| lx_nil <| ?_
          -- L0.3
          refine IH1 _ _ (s + 1, tot - ((1 : Int))) (agree_ups rfl (agree_mix (rngB_sub (by decide) (by decide) rfl) (agree_ups rfl agree_self))) ⟨rfl, rfl, trivial⟩ ⟨rfl, ?_, ?_⟩ ?_
          · try dsimp only
            omega
          · try dsimp only
            rw [eulS_succ hs1.1, ← htot]
            have hxn : x = p.length := by omega
            unfold eulW
            rw [← hxn, ← hb, ← hc]
            first
            | (rw [show b = false from by assumption, if_neg (by simp), Int.add_zero]; done)
            | (rw [show b = true from by assumption, if_pos rfl, if_pos (by omega)]; done)
            | (rw [show b = true from by assumption, if_pos rfl, if_neg (by omega)]; rfl)
          · first | omega | (dsimp only; omega)
  · refine lx_nil <| wi_false rfl <| wi_exit rfl <| wi_seq <| wi_reg rfl <| lx_move (.int .i64 tot) rfl rfl <| lx_assign (.int .i64 tot) rfl rfl <| lx_nil <| ?_
    -- R1
    refine wi_ret ⟨.int .i64 tot, (res_one rfl rfl), ⟨?_, rfl⟩⟩
    · rw [htot, show s = 2 ^ p.length from by omega, euler_law hp3]

set_option maxRecDepth 10000 in
theorem rlinear_spec (h : Heap) (vp : Value) (hs : List Hdr) (p : List (List Bool)) (hr_vp : RdE encHd h vp hs) (ht_vp : RT encB h hs p) (hp1 : p.length ≤ 12) (hp2 : Sq p p.length) (hp3 : IsO p.length (pb p)) : Fx Try.prog 56 [vp] h (fun v h' => v = .int .i64 (linN p.length (pb p) (2 ^ p.length - 1)) ∧ Ext h.size h h') := by
  have hl_vp := ht_vp.1
  refine fx_intro (n := 82) [(0, vp)] Try.func56 rfl rfl (by simp) ⟨rfl, trivial⟩ fun g0 => ?_
  refine wi_seq <| wi_reg rfl <| lx_assign (.int .i64 0) rfl rfl <| lx_nil <| wi_seq <| wi_reg rfl <| ?_
  have hpe : 2 ^ hs.length = 2 ^ p.length := by rw [hl_vp]
  have hpw := pow12 hp1
  have hpp : 0 < 2 ^ p.length := Nat.pow_pos (by omega)
  refine lx_move (vp) rfl rfl <| lx_len rfl Try.underlying23 hr_vp rfl <| lx_conv ((hs.length : Nat) : Int) rfl Try.underlying3 Try.underlying45 rfl (wrap_u64 (by omega) (by omega)) <| lx_shl (m := 1) (n := hs.length) rfl rfl rfl (by show _ ≤ 64; omega) (wrap_i64 (by omega) (by omega)) <| lx_make (E := encI) (n := 1 * 2 ^ hs.length) (B := h.size) (0 : Int) rfl rfl Try.underlying58 (eZ58) rfl rfl (by omega) (by omega) (Nat.le_refl _) (fun _ _ => trivial) fun v1 h1 ho1 hx1 hvb1 => ?_
  have ho2 := ho1.base (Nat.le_refl h.size)
  refine lx_assign (v1) rfl rfl <| lx_nil <| wi_seq <| wi_reg rfl <| lx_move (v1) rfl rfl <| lx_ix (i := 0) rfl eT58 ho2.rd rfl rfl (by first | omega | (simp only [List.length_set, List.length_append, List.length_cons, List.length_nil, List.length_replicate, List.length_take, swp_length, exch_length]; omega)) <| lx_st (i := 0) ((1 : Int)) rfl rfl Try.sizeOf2 ho2 (by first | omega | (simp only [List.length_set, List.length_append, List.length_cons, List.length_nil, List.length_replicate, List.length_take, swp_length, exch_length]; omega)) rfl rfl (fun _ _ _ _ _ => trivial) fun h2 ho3 hc1 hsz1 => ?_
  have hx0_1 := hx1.trans (ho2.ext hc1 hx1.size)
  refine lx_nil <| wi_seq <| wi_seq <| wi_reg rfl <| lx_assign (.int .i64 0) rfl rfl <| lx_nil <| wi_block <| ?_
  refine wi_loop (σ := Nat × (List Int)) (rngB 16 76 [4, 5, 6, 7, 8]) (fun (ss : Nat × (List Int)) => [(4, .int .i64 ((ss.1 : Nat) : Int))]) (fun (ss : Nat × (List Int)) (hh : Heap) => OwE encI hh h.size 2 v1 ss.2 ∧ Ext h.size h hh ∧ (ss.1 ≤ 2 ^ p.length) ∧ (ss.2 = linR p.length (pb p) ss.1 0)) (fun (ss : Nat × (List Int)) => 2 ^ p.length - ss.1) (0, (List.replicate (1 * 2 ^ hs.length) 0).set 0 1) ⟨rfl, trivial⟩ ⟨?_, hx0_1, ?_, ?_⟩ ?_
  · first | exact ho3 | (simpa using ho3)
  · try dsimp only
    exact Nat.zero_le _
  · try dsimp only
    rw [Nat.one_mul, hl_vp]; exact linR_start _ _
  rintro g1 ⟨s, ws⟩ hh1 ⟨ho4, hx0_2, hss, hws⟩ IH1
  dsimp only at *
  have hwl : ws.length = 2 ^ p.length := by rw [hws]; exact linR_len _ _ _ _
  refine wi_seq <| wi_seq <| wi_reg rfl <| lx_move (.int .i64 ((s : Nat) : Int)) rfl rfl <| lx_move (v1) rfl rfl <| lx_len rfl Try.underlying58 ho4.rd rfl <| lx_lssS rfl rfl rfl (fun c1 => ?_) (fun c1 => ?_)
  · refine lx_nil <| wi_true rfl <| wi_skip <| wi_seq <| wi_block <| wi_seq <| wi_reg rfl <| lx_assign (.int .i64 0) rfl rfl <| lx_nil <| wi_block <| ?_
    refine wi_loop (σ := Nat × (List Int)) (rngB 22 76 [5, 6, 7, 8]) (fun (ss : Nat × (List Int)) => [(5, .int .i64 ((ss.1 : Nat) : Int))]) (fun (ss : Nat × (List Int)) (hh : Heap) => OwE encI hh h.size 2 v1 ss.2 ∧ Ext h.size h hh ∧ (ss.1 ≤ p.length) ∧ (ss.2 = linR p.length (pb p) s ss.1)) (fun (ss : Nat × (List Int)) => p.length - ss.1) (0, ws) ⟨rfl, trivial⟩ ⟨?_, hx0_2, ?_, ?_⟩ ?_
    · first | exact ho4 | (simpa using ho4)
    · try dsimp only
      omega
    · try dsimp only
      exact hws
    rintro g2 ⟨x, ws2⟩ hh2 ⟨ho5, hx0_3, hx, hw2⟩ IH2
    dsimp only at *
    have hwl2 : ws2.length = 2 ^ p.length := by rw [hw2]; exact linR_len _ _ _ _
    refine wi_seq <| wi_seq <| wi_reg rfl <| ?_
    have hgs : gt ws2 s = linV p.length (pb p) s := by rw [hw2]; exact linR_at hp3 hp1 (by omega) (Nat.le_refl _)
    have hvb := linV_bound (n := p.length) (f := pb p) (s := s) hp1
    rw [← hgs] at hvb
    refine lx_move (.int .i64 ((x : Nat) : Int)) rfl rfl <| lx_move (vp) rfl rfl <| lx_len rfl Try.underlying23 hr_vp rfl <| lx_lssS rfl rfl rfl (fun c2 => ?_) (fun c2 => ?_)
    · refine lx_move (.bool true) rfl rfl <| lx_move (v1) rfl rfl <| lx_move (.int .i64 ((s : Nat) : Int)) rfl rfl <| lx_ix (i := s) rfl eT58 ho5.rd rfl rfl (by omega) <| lx_ld (i := s) (j := 0) (.int .i64 (gt ws2 s)) rfl rfl fl2 ho5.rd (by omega) rfl rfl <| lx_gtrS rfl rfl rfl (fun c3 => ?_) (fun c3 => ?_)
      · refine lx_pick true (.bool true) rfl rfl rfl <| lx_nil <| wi_true rfl <| wi_skip <| wi_seq <| wi_block <| wi_seq <| wi_reg rfl <| lx_move (.int .i64 ((s : Nat) : Int)) rfl rfl <| lx_move (.int .i64 ((x : Nat) : Int)) rfl rfl <| lx_call [.int .i64 ((s : Nat) : Int), .int .i64 ((x : Nat) : Int)] rfl rfl Try.call78 rfl (in_spec hh2 s x (by omega) (by omega)) (fun _ _ _ => trivial) ?_
        rintro _ h3 ⟨rfl, rfl⟩
        refine lx_not rfl rfl <| lx_assign (.bool (!(s.testBit x))) rfl rfl <| lx_nil <| wi_seq <| wi_seq <| wi_reg rfl <| lx_assign (.int .i64 0) rfl rfl <| lx_nil <| wi_block <| ?_
        refine wi_loop (σ := Nat × Bool) (rngB 39 58 [6, 7]) (fun (ss : Nat × Bool) => [(7, .int .i64 ((ss.1 : Nat) : Int)), (6, .bool ss.2)]) (fun (ss : Nat × Bool) (hh : Heap) => hh2 = hh ∧ (ss.1 ≤ p.length) ∧ (ss.2 = fretF (pb p) s x ss.1)) (fun (ss : Nat × Bool) => p.length - ss.1) (0, !(s.testBit x)) ⟨rfl, rfl, trivial⟩ ⟨rfl, ?_, ?_⟩ ?_
        · try dsimp only
          omega
        · try dsimp only
          exact (fretF_zero _ _ _).symm
        rintro g3 ⟨y, b⟩ hh3 ⟨rfl, hy, hb⟩ IH3
        dsimp only at *
        refine wi_seq <| wi_seq <| wi_reg rfl <| lx_move (.int .i64 ((y : Nat) : Int)) rfl rfl <| lx_move (vp) rfl rfl <| lx_len rfl Try.underlying23 hr_vp rfl <| lx_lssS rfl rfl rfl (fun c4 => ?_) (fun c4 => ?_)
        · refine lx_nil <| wi_true rfl <| wi_skip <| wi_seq <| wi_block <| wi_reg rfl <| lx_move (.bool b) rfl rfl <| lx_move (.bool b) rfl rfl <| ?_
          cases c5 : b
          · refine lx_skip rfl <| lx_skip rfl <| lx_skip rfl <| lx_skip rfl <| lx_skip rfl <| lx_skip rfl <| lx_skip rfl <| lx_skip rfl <| lx_skip rfl <| lx_skip rfl <| lx_pick false (.bool false) rfl rfl rfl <| lx_assign (.bool false) rfl rfl <| lx_nil <| wi_inBlock <| wi_reg rfl <| lx_move (.int .i64 ((y : Nat) : Int)) rfl rfl <| lx_add (((y + 1 : Nat) : Int)) rfl rfl rfl (by omega) (by omega) (by omega) <| lx_assign (.int .i64 ((y + 1 : Nat) : Int)) rfl rfl <| lx_nil <| ?_
            -- L4.1
            refine IH3 _ _ (y + 1, false) (agree_ups rfl agree_self) ⟨rfl, rfl, trivial⟩ ⟨rfl, ?_, ?_⟩ ?_
            · try dsimp only
              omega
            · try dsimp only
              rw [fretF_succ, ← hb]
              first
              | (rw [show b = false from by assumption]; rfl)
              | (rw [show b = true from by assumption, show blw (pb p) y x = false from by assumption]; rfl)
              | (rw [show b = true from by assumption, show blw (pb p) y x = true from by assumption]; simp; done)
            · first | omega | (dsimp only; omega)
          · refine lx_move (vp) rfl rfl <| lx_move (.int .i64 ((y : Nat) : Int)) rfl rfl <| lx_move (.int .i64 ((x : Nat) : Int)) rfl rfl <| lx_call [vp, .int .i64 ((y : Nat) : Int), .int .i64 ((x : Nat) : Int)] rfl rfl Try.call102 rfl (rbelow_spec hh2 vp hs p y x (hr_vp.extS hx0_3) (ht_vp.extS hx0_3) (by omega) (by first | with_reducible assumption | omega) (by omega) (by omega)) (fun _ _ _ => trivial) ?_
            rintro _ h4 ⟨rfl, rfl⟩
            refine lx_not rfl rfl <| lx_move (.bool (!(decide (y ≠ x) && pb p y x))) rfl rfl <| ?_
            cases c6 : (decide (y ≠ x) && pb p y x)
            · refine lx_skip rfl <| lx_skip rfl <| lx_skip rfl <| lx_pick true (.bool true) rfl rfl rfl <| lx_pick true (.bool true) rfl rfl rfl <| lx_assign (.bool true) rfl rfl <| lx_nil <| wi_inBlock <| wi_reg rfl <| lx_move (.int .i64 ((y : Nat) : Int)) rfl rfl <| lx_add (((y + 1 : Nat) : Int)) rfl rfl rfl (by omega) (by omega) (by omega) <| lx_assign (.int .i64 ((y + 1 : Nat) : Int)) rfl rfl <| lx_nil <| ?_
              -- L4.2
              refine IH3 _ _ (y + 1, true) (agree_ups rfl agree_self) ⟨rfl, rfl, trivial⟩ ⟨rfl, ?_, ?_⟩ ?_
              · try dsimp only
                omega
              · try dsimp only
                rw [fretF_succ, ← hb]
                first
                | (rw [show b = false from by assumption]; rfl)
                | (rw [show b = true from by assumption, show blw (pb p) y x = false from by assumption]; rfl)
                | (rw [show b = true from by assumption, show blw (pb p) y x = true from by assumption]; simp; done)
              · first | omega | (dsimp only; omega)
            · refine lx_move (.int .i64 ((s : Nat) : Int)) rfl rfl <| lx_move (.int .i64 ((y : Nat) : Int)) rfl rfl <| lx_call [.int .i64 ((s : Nat) : Int), .int .i64 ((y : Nat) : Int)] rfl rfl Try.call78 rfl (in_spec hh2 s y (by omega) (by omega)) (fun _ _ _ => trivial) ?_
              rintro _ h5 ⟨rfl, rfl⟩
              refine lx_pick false (.bool (s.testBit y)) rfl rfl rfl <| lx_pick true (.bool (s.testBit y)) rfl rfl rfl <| lx_assign (.bool (s.testBit y)) rfl rfl <| lx_nil <| wi_inBlock <| wi_reg rfl <| lx_move (.int .i64 ((y : Nat) : Int)) rfl rfl <| lx_add (((y + 1 : Nat) : Int)) rfl rfl rfl (by omega) (by omega) (by omega) <| lx_assign (.int .i64 ((y + 1 : Nat) : Int)) rfl rfl <| lx_nil <| ?_
              -- L4.3
              refine IH3 _ _ (y + 1, s.testBit y) (agree_ups rfl agree_self) ⟨rfl, rfl, trivial⟩ ⟨rfl, ?_, ?_⟩ ?_
              · try dsimp only
                omega
              · try dsimp only
                rw [fretF_succ, ← hb]
                first
                | (rw [show b = false from by assumption]; rfl)
                | (rw [show b = true from by assumption, show blw (pb p) y x = false from by assumption]; rfl)
                | (rw [show b = true from by assumption, show blw (pb p) y x = true from by assumption]; simp; done)
              · first | omega | (dsimp only; omega)
        · refine lx_nil <| wi_false rfl <| wi_exit rfl <| wi_seq <| wi_reg rfl <| lx_move (.bool b) rfl rfl <| lx_nil <| wi_condS (t := b) rfl (fun c7 => ?_) (fun c7 => ?_)
          · refine wi_seq <| wi_reg rfl <| ?_
            have hfr : fretF (pb p) s x p.length = true := by rw [show p.length = y from by omega, ← hb]; assumption
            have hpx : 2 ^ x < 2 ^ p.length := Nat.pow_lt_pow_right (by omega) (by omega)
            have hor : s ||| 1 * 2 ^ x < 2 ^ p.length := Nat.or_lt_two_pow (by omega) (by omega)
            have hgn : gt ws2 (s ||| 1 * 2 ^ x) = linT p.length (pb p) s x (s ||| 2 ^ x) := by rw [hw2, Nat.one_mul]; unfold linR; rw [Nat.one_mul] at hor; exact gt_mapR hor
            have hlb := linT_bound (n := p.length) (f := pb p) (s := s) (x := x) (t := s ||| 2 ^ x) hp1
            rw [← hgn] at hlb
            refine lx_move (.int .i64 ((s : Nat) : Int)) rfl rfl <| lx_move (.int .i64 ((x : Nat) : Int)) rfl rfl <| lx_conv ((x : Nat) : Int) rfl Try.underlying3 Try.underlying45 rfl (wrap_u64 (by omega) (by omega)) <| lx_shl (m := 1) (n := x) rfl rfl rfl (by show _ ≤ 64; omega) (wrap_i64 (by omega) (by omega)) <| lx_or (m := s) (n := 1 * 2 ^ x) rfl rfl rfl (by show _ < 2 ^ 64; omega) (by show _ < 2 ^ 64; omega) (wrap_i64 (by omega) (by omega)) <| lx_assign (.int .i64 ((s ||| (1 * 2 ^ x) : Nat) : Int)) rfl rfl <| lx_nil <| wi_draw mo rfl (by decide +kernel) <| lx_move (v1) rfl rfl <| lx_move (.int .i64 ((s ||| (1 * 2 ^ x) : Nat) : Int)) rfl rfl <| lx_move (v1) rfl rfl <| lx_move (.int .i64 ((s ||| (1 * 2 ^ x) : Nat) : Int)) rfl rfl <| lx_ix (i := s ||| (1 * 2 ^ x)) rfl eT58 ho5.rd rfl rfl (by omega) <| lx_ld (i := s ||| (1 * 2 ^ x)) (j := 0) (.int .i64 (gt ws2 (s ||| (1 * 2 ^ x)))) rfl rfl fl2 ho5.rd (by omega) rfl rfl <| lx_move (v1) rfl rfl <| lx_move (.int .i64 ((s : Nat) : Int)) rfl rfl <| lx_ix (i := s) rfl eT58 ho5.rd rfl rfl (by omega) <| lx_ld (i := s) (j := 0) (.int .i64 (gt ws2 s)) rfl rfl fl2 ho5.rd (by omega) rfl rfl <| lx_add ((gt ws2 (s ||| (1 * 2 ^ x))) + (gt ws2 s)) rfl rfl rfl (by omega) (by omega) (by omega) <| lx_ix (i := s ||| (1 * 2 ^ x)) rfl eT58 ho5.rd rfl rfl (by omega) <| lx_st (i := s ||| (1 * 2 ^ x)) ((gt ws2 (s ||| (1 * 2 ^ x))) + (gt ws2 s)) rfl rfl Try.sizeOf2 ho5 (by omega) rfl rfl (fun _ _ _ _ _ => trivial) fun h6 ho6 hc2 hsz2 => ?_
            have hx0_4 := hx0_3.trans (ho5.ext hc2 hx0_3.size)
            refine lx_nil <| wi_inBlock <| wi_reg rfl <| lx_move (.int .i64 ((x : Nat) : Int)) rfl rfl <| lx_add (((x + 1 : Nat) : Int)) rfl rfl rfl (by omega) (by omega) (by omega) <| lx_assign (.int .i64 ((x + 1 : Nat) : Int)) rfl rfl <| lx_nil <| ?_
            -- L2.1
            refine IH2 _ _ (x + 1, ws2.set (s ||| (1 * 2 ^ x)) ((gt ws2 (s ||| (1 * 2 ^ x))) + (gt ws2 s))) (agree_ups rfl (agree_mix (rngB_sub (by decide) (by decide) rfl) (agree_ups rfl agree_self))) ⟨rfl, trivial⟩ ⟨?_, hx0_4, ?_, ?_⟩ ?_
            · first | exact ho6 | (simpa using ho6)
            · try dsimp only
              omega
            · try dsimp only
              rw [hgn, hgs, Nat.one_mul, hw2]; exact linR_yes (by omega) (by rw [Nat.one_mul] at hor; exact hor) hfr
            · first | omega | (dsimp only; omega)
          · refine wi_skip <| wi_inBlock <| wi_reg rfl <| lx_move (.int .i64 ((x : Nat) : Int)) rfl rfl <| lx_add (((x + 1 : Nat) : Int)) rfl rfl rfl (by omega) (by omega) (by omega) <| lx_assign (.int .i64 ((x + 1 : Nat) : Int)) rfl rfl <| lx_nil <| ?_
            -- L2.2
            refine IH2 _ _ (x + 1, ws2) (agree_ups rfl (agree_mix (rngB_sub (by decide) (by decide) rfl) (agree_ups rfl agree_self))) ⟨rfl, trivial⟩ ⟨?_, hx0_3, ?_, ?_⟩ ?_
            · first | exact ho5 | (simpa using ho5)
            · try dsimp only
              omega
            · try dsimp only
              rw [hw2]; exact linR_no (by omega) (by rw [show p.length = y from by omega, ← hb]; assumption)
            · first | omega | (dsimp only; omega)
      · refine lx_pick true (.bool false) rfl rfl rfl <| lx_nil <| wi_false rfl <| wi_exit rfl <| wi_inBlock <| wi_reg rfl <| lx_move (.int .i64 ((s : Nat) : Int)) rfl rfl <| lx_add (((s + 1 : Nat) : Int)) rfl rfl rfl (by omega) (by omega) (by omega) <| lx_assign (.int .i64 ((s + 1 : Nat) : Int)) rfl rfl <| lx_nil <| ?_
        -- L0.1
        refine IH1 _ _ (s + 1, ws2) (agree_ups rfl (agree_mix (rngB_sub (by decide) (by decide) rfl) (agree_ups rfl agree_self))) ⟨rfl, trivial⟩ ⟨?_, hx0_3, ?_, ?_⟩ ?_
        · first | exact ho5 | (simpa using ho5)
        · try dsimp only
          omega
        · try dsimp only
          first
          | (rw [hw2]; exact linR_stop (by omega) (by omega))
          | (rw [hw2, show x = p.length from by omega]; exact linR_next)
        · first | omega | (dsimp only; omega)
    · refine lx_move (.bool false) rfl rfl <| lx_skip rfl <| lx_skip rfl <| lx_skip rfl <| lx_skip rfl <| lx_skip rfl <| lx_pick false (.bool false) rfl rfl rfl <| lx_nil <| wi_false rfl <| wi_exit rfl <| wi_inBlock <| wi_reg rfl <| lx_move (.int .i64 ((s : Nat) : Int)) rfl rfl <| lx_add (((s + 1 : Nat) : Int)) rfl rfl rfl (by omega) (by omega) (by omega) <| lx_assign (.int .i64 ((s + 1 : Nat) : Int)) rfl rfl <| lx_nil <| ?_
      -- L0.2
      refine IH1 _ _ (s + 1, ws2) (agree_ups rfl (agree_mix (rngB_sub (by decide) (by decide) rfl) (agree_ups rfl agree_self))) ⟨rfl, trivial⟩ ⟨?_, hx0_3, ?_, ?_⟩ ?_
      · first | exact ho5 | (simpa using ho5)
      · try dsimp only
        omega
      · try dsimp only
        first
        | (rw [hw2]; exact linR_stop (by omega) (by omega))
        | (rw [hw2, show x = p.length from by omega]; exact linR_next)
      · first | omega | (dsimp only; omega)
  · refine lx_nil <| wi_false rfl <| wi_exit rfl <| wi_seq <| wi_reg rfl <| ?_
    have hse : s = 2 ^ p.length := by omega
    refine lx_move (v1) rfl rfl <| lx_move (v1) rfl rfl <| lx_len rfl Try.underlying58 ho4.rd rfl <| lx_sub (((2 ^ p.length - 1 : Nat) : Int)) rfl rfl rfl (by omega) (by omega) (by omega) <| lx_ix (i := 2 ^ p.length - 1) rfl eT58 ho4.rd rfl rfl (by omega) <| lx_ld (i := 2 ^ p.length - 1) (j := 0) (.int .i64 (linN p.length (pb p) (2 ^ p.length - 1))) rfl rfl fl2 ho4.rd (by omega) (by show some (Value.int .i64 (gt ws (2 ^ p.length - 1))) = _; rw [hws, linR_at hp3 hp1 (by omega) (by omega), linV_all]) rfl <| lx_assign (.int .i64 (linN p.length (pb p) (2 ^ p.length - 1))) rfl rfl <| lx_nil <| ?_
    -- R1
    refine wi_ret ⟨.int .i64 (linN p.length (pb p) (2 ^ p.length - 1)), (res_one rfl rfl), ⟨rfl, hx0_2⟩⟩

end Go.Proofs.Ytdokijbdnajhgaa
