/-
  Walks: what is common.
-/
import Derived.Test.YtdokijbdnajhgaaOG
import Derived.Test.YtdokijbdnajhgaaXComp
import Derived.Test.YtdokijbdnajhgaaXOFindB
set_option linter.unusedSimpArgs false
set_option linter.unusedVariables false
namespace Go.Proofs.Ytdokijbdnajhgaa
open Go Go.X

set_option maxRecDepth 10000 in
theorem common_up_spec (h : Heap) (vp : Value) (hs : List Hdr) (p : List (List Bool)) (t : Nat) (hr_vp : RdE encHd h vp hs) (ht_vp : RT encB h hs p) (hp1 : p.length ≤ 12) (hp2 : Sq p p.length) (hp3 : t < 4096) : Fx Try.prog 79 [vp, .int .i64 ((t : Nat) : Int), .func (.func 80) #[vp] #[]] h (fun v h' => v = .int .i64 ((uppS p.length (pb p) t : Nat) : Int) ∧ h = h') := by
  have hl_vp := ht_vp.1
  refine fx_intro (n := 32) [(0, vp), (1, .int .i64 ((t : Nat) : Int)), (2, .func (.func 80) #[vp] #[])] Try.func79 rfl rfl (by simp) ⟨rfl, rfl, rfl, trivial⟩ fun g0 => ?_
  refine wi_seq <| wi_reg rfl <| lx_assign (.int .i64 0) rfl rfl <| lx_nil <| wi_seq <| wi_reg rfl <| ?_
  have hpw := pow12 hp1
  have hpe : 2 ^ hs.length = 2 ^ p.length := by rw [hl_vp]
  have hp0 := Nat.two_pow_pos p.length
  refine lx_move (vp) rfl rfl <| lx_len rfl Try.underlying29 hr_vp rfl <| lx_conv ((hs.length : Nat) : Int) rfl Try.underlying3 Try.underlying45 rfl (wrap_u64 (by omega) (by omega)) <| lx_shl (m := 1) (n := hs.length) rfl rfl rfl (by show _ ≤ 64; omega) (wrap_i64 (by omega) (by omega)) <| lx_sub (((1 * 2 ^ hs.length - 1 : Nat) : Int)) rfl rfl rfl (by omega) (by omega) (by omega) <| lx_assign (.int .i64 ((1 * 2 ^ hs.length - 1 : Nat) : Int)) rfl rfl <| lx_nil <| wi_seq <| wi_seq <| wi_reg rfl <| lx_move (vp) rfl rfl <| lx_len rfl Try.underlying29 hr_vp rfl <| lx_move (.int .i64 0) rfl rfl <| lx_nil <| wi_block <| ?_
  refine wi_loop (σ := Nat × Nat) (rngB 16 31 [7, 8]) (fun (ss : Nat × Nat) => [(16, .int .i64 ((ss.1 : Nat) : Int)), (7, .int .i64 ((ss.2 : Nat) : Int))]) (fun (ss : Nat × Nat) (hh : Heap) => h = hh ∧ (ss.1 ≤ p.length) ∧ (ss.2 = cmF p.length t (upF p.length (pb p)) ss.1)) (fun (ss : Nat × Nat) => p.length - ss.1) (0, 1 * 2 ^ hs.length - 1) ⟨rfl, rfl, trivial⟩ ⟨rfl, ?_, ?_⟩ ?_
  · try dsimp only
    omega
  · try dsimp only
    rw [cmF_zero, Nat.one_mul, hpe]
  rintro g1 ⟨x, o⟩ hh1 ⟨rfl, hx, ho⟩ IH1
  dsimp only at *
  refine wi_seq <| wi_reg rfl <| lx_lssS rfl rfl rfl (fun c1 => ?_) (fun c1 => ?_)
  · refine lx_nil <| wi_seq <| wi_true rfl <| wi_skip <| wi_seq <| wi_block <| wi_seq <| wi_reg rfl <| lx_move (.int .i64 ((x : Nat) : Int)) rfl rfl <| lx_assign (.int .i64 ((x : Nat) : Int)) rfl rfl <| lx_nil <| wi_seq <| wi_reg rfl <| ?_
    have hbl : t / 2 ^ x &&& 1 ≤ 1 := Nat.and_le_right
    have hdv := Nat.div_le_self t (2 ^ x)
    have hol : o < 2 ^ p.length := by rw [ho]; exact cmF_lt _ _ _ _
    refine lx_move (.int .i64 ((t : Nat) : Int)) rfl rfl <| lx_move (.int .i64 ((x : Nat) : Int)) rfl rfl <| lx_conv ((x : Nat) : Int) rfl Try.underlying3 Try.underlying45 rfl (wrap_u64 (by omega) (by omega)) <| lx_shr (m := t) (n := x) rfl rfl rfl (by show _ ≤ 64; omega) <| lx_and (m := t / 2 ^ x) (n := 1) rfl rfl rfl (by show _ < 2 ^ 64; omega) (by show _ < 2 ^ 64; omega) (wrap_i64 (by omega) (by omega)) <| lx_eqlS rfl rfl rfl (fun c2 => ?_) (fun c2 => ?_)
    · refine lx_nil <| wi_true rfl <| wi_reg rfl <| ?_
      have hul := upF_lt p.length (pb p) x
      have hal : o &&& upF p.length (pb p) x ≤ o := Nat.and_le_left
      refine lx_move (.int .i64 ((o : Nat) : Int)) rfl rfl <| lx_move (.func (.func 80) #[vp] #[]) rfl rfl <| lx_move (.int .i64 ((x : Nat) : Int)) rfl rfl <| lx_callV [vp] [] [.int .i64 ((x : Nat) : Int)] rfl rfl Try.call80 rfl rfl (up_spec h vp hs p x hr_vp ht_vp (by omega) (by first | with_reducible assumption | omega) (by omega)) (fun _ _ _ => trivial) ?_
      rintro _ h1 ⟨rfl, rfl⟩
      refine lx_and (m := o) (n := upF p.length (pb p) x) rfl rfl rfl (by show _ < 2 ^ 64; omega) (by show _ < 2 ^ 64; omega) (wrap_i64 (by omega) (by omega)) <| lx_assign (.int .i64 ((o &&& (upF p.length (pb p) x) : Nat) : Int)) rfl rfl <| lx_nil <| wi_inBlock <| wi_reg rfl <| lx_add (((x + 1 : Nat) : Int)) rfl rfl rfl (by omega) (by omega) (by omega) <| lx_move (.int .i64 ((x + 1 : Nat) : Int)) rfl rfl <| lx_nil <| ?_
      -- L0.1
      refine IH1 _ _ (x + 1, o &&& (upF p.length (pb p) x)) (agree_ups rfl agree_self) ⟨rfl, rfl, trivial⟩ ⟨rfl, ?_, ?_⟩ ?_
      · try dsimp only
        omega
      · try dsimp only
        rw [ho]
        first
        | exact cmF_yes (bit_nz (by omega))
        | exact cmF_no (bit_zero.1 (by omega))
      · first | omega | (dsimp only; omega)
    · refine lx_nil <| wi_false rfl <| wi_skip <| wi_inBlock <| wi_reg rfl <| lx_add (((x + 1 : Nat) : Int)) rfl rfl rfl (by omega) (by omega) (by omega) <| lx_move (.int .i64 ((x + 1 : Nat) : Int)) rfl rfl <| lx_nil <| ?_
      -- L0.2
      refine IH1 _ _ (x + 1, o) (agree_ups rfl agree_self) ⟨rfl, rfl, trivial⟩ ⟨rfl, ?_, ?_⟩ ?_
      · try dsimp only
        omega
      · try dsimp only
        rw [ho]
        first
        | exact cmF_yes (bit_nz (by omega))
        | exact cmF_no (bit_zero.1 (by omega))
      · first | omega | (dsimp only; omega)
  · refine lx_nil <| wi_seq <| wi_false rfl <| wi_exit rfl <| wi_seq <| wi_reg rfl <| lx_move (.int .i64 ((o : Nat) : Int)) rfl rfl <| lx_assign (.int .i64 ((o : Nat) : Int)) rfl rfl <| lx_nil <| ?_
    -- R1
    refine wi_ret ⟨.int .i64 ((o : Nat) : Int), (res_one rfl rfl), ⟨?_, rfl⟩⟩
    · rw [ho, show x = p.length from by omega, cmF_up]

set_option maxRecDepth 10000 in
theorem common_dn_spec (h : Heap) (vp : Value) (hs : List Hdr) (p : List (List Bool)) (t : Nat) (hr_vp : RdE encHd h vp hs) (ht_vp : RT encB h hs p) (hp1 : p.length ≤ 12) (hp2 : Sq p p.length) (hp3 : t < 4096) : Fx Try.prog 79 [vp, .int .i64 ((t : Nat) : Int), .func (.func 81) #[vp] #[]] h (fun v h' => v = .int .i64 ((lowS p.length (pb p) t : Nat) : Int) ∧ h = h') := by
  have hl_vp := ht_vp.1
  refine fx_intro (n := 32) [(0, vp), (1, .int .i64 ((t : Nat) : Int)), (2, .func (.func 81) #[vp] #[])] Try.func79 rfl rfl (by simp) ⟨rfl, rfl, rfl, trivial⟩ fun g0 => ?_
  refine wi_seq <| wi_reg rfl <| lx_assign (.int .i64 0) rfl rfl <| lx_nil <| wi_seq <| wi_reg rfl <| ?_
  have hpw := pow12 hp1
  have hpe : 2 ^ hs.length = 2 ^ p.length := by rw [hl_vp]
  have hp0 := Nat.two_pow_pos p.length
  refine lx_move (vp) rfl rfl <| lx_len rfl Try.underlying29 hr_vp rfl <| lx_conv ((hs.length : Nat) : Int) rfl Try.underlying3 Try.underlying45 rfl (wrap_u64 (by omega) (by omega)) <| lx_shl (m := 1) (n := hs.length) rfl rfl rfl (by show _ ≤ 64; omega) (wrap_i64 (by omega) (by omega)) <| lx_sub (((1 * 2 ^ hs.length - 1 : Nat) : Int)) rfl rfl rfl (by omega) (by omega) (by omega) <| lx_assign (.int .i64 ((1 * 2 ^ hs.length - 1 : Nat) : Int)) rfl rfl <| lx_nil <| wi_seq <| wi_seq <| wi_reg rfl <| lx_move (vp) rfl rfl <| lx_len rfl Try.underlying29 hr_vp rfl <| lx_move (.int .i64 0) rfl rfl <| lx_nil <| wi_block <| ?_
  refine wi_loop (σ := Nat × Nat) (rngB 16 31 [7, 8]) (fun (ss : Nat × Nat) => [(16, .int .i64 ((ss.1 : Nat) : Int)), (7, .int .i64 ((ss.2 : Nat) : Int))]) (fun (ss : Nat × Nat) (hh : Heap) => h = hh ∧ (ss.1 ≤ p.length) ∧ (ss.2 = cmF p.length t (dnF p.length (pb p)) ss.1)) (fun (ss : Nat × Nat) => p.length - ss.1) (0, 1 * 2 ^ hs.length - 1) ⟨rfl, rfl, trivial⟩ ⟨rfl, ?_, ?_⟩ ?_
  · try dsimp only
    omega
  · try dsimp only
    rw [cmF_zero, Nat.one_mul, hpe]
  rintro g1 ⟨x, o⟩ hh1 ⟨rfl, hx, ho⟩ IH1
  dsimp only at *
  refine wi_seq <| wi_reg rfl <| lx_lssS rfl rfl rfl (fun c1 => ?_) (fun c1 => ?_)
  · refine lx_nil <| wi_seq <| wi_true rfl <| wi_skip <| wi_seq <| wi_block <| wi_seq <| wi_reg rfl <| lx_move (.int .i64 ((x : Nat) : Int)) rfl rfl <| lx_assign (.int .i64 ((x : Nat) : Int)) rfl rfl <| lx_nil <| wi_seq <| wi_reg rfl <| ?_
    have hbl : t / 2 ^ x &&& 1 ≤ 1 := Nat.and_le_right
    have hdv := Nat.div_le_self t (2 ^ x)
    have hol : o < 2 ^ p.length := by rw [ho]; exact cmF_lt _ _ _ _
    refine lx_move (.int .i64 ((t : Nat) : Int)) rfl rfl <| lx_move (.int .i64 ((x : Nat) : Int)) rfl rfl <| lx_conv ((x : Nat) : Int) rfl Try.underlying3 Try.underlying45 rfl (wrap_u64 (by omega) (by omega)) <| lx_shr (m := t) (n := x) rfl rfl rfl (by show _ ≤ 64; omega) <| lx_and (m := t / 2 ^ x) (n := 1) rfl rfl rfl (by show _ < 2 ^ 64; omega) (by show _ < 2 ^ 64; omega) (wrap_i64 (by omega) (by omega)) <| lx_eqlS rfl rfl rfl (fun c2 => ?_) (fun c2 => ?_)
    · refine lx_nil <| wi_true rfl <| wi_reg rfl <| ?_
      have hul := dnF_lt p.length (pb p) x
      have hal : o &&& dnF p.length (pb p) x ≤ o := Nat.and_le_left
      refine lx_move (.int .i64 ((o : Nat) : Int)) rfl rfl <| lx_move (.func (.func 81) #[vp] #[]) rfl rfl <| lx_move (.int .i64 ((x : Nat) : Int)) rfl rfl <| lx_callV [vp] [] [.int .i64 ((x : Nat) : Int)] rfl rfl Try.call81 rfl rfl (down_spec h vp hs p x hr_vp ht_vp (by omega) (by first | with_reducible assumption | omega) (by omega)) (fun _ _ _ => trivial) ?_
      rintro _ h1 ⟨rfl, rfl⟩
      refine lx_and (m := o) (n := dnF p.length (pb p) x) rfl rfl rfl (by show _ < 2 ^ 64; omega) (by show _ < 2 ^ 64; omega) (wrap_i64 (by omega) (by omega)) <| lx_assign (.int .i64 ((o &&& (dnF p.length (pb p) x) : Nat) : Int)) rfl rfl <| lx_nil <| wi_inBlock <| wi_reg rfl <| lx_add (((x + 1 : Nat) : Int)) rfl rfl rfl (by omega) (by omega) (by omega) <| lx_move (.int .i64 ((x + 1 : Nat) : Int)) rfl rfl <| lx_nil <| ?_
      -- L0.1
      refine IH1 _ _ (x + 1, o &&& (dnF p.length (pb p) x)) (agree_ups rfl agree_self) ⟨rfl, rfl, trivial⟩ ⟨rfl, ?_, ?_⟩ ?_
      · try dsimp only
        omega
      · try dsimp only
        rw [ho]
        first
        | exact cmF_yes (bit_nz (by omega))
        | exact cmF_no (bit_zero.1 (by omega))
      · first | omega | (dsimp only; omega)
    · refine lx_nil <| wi_false rfl <| wi_skip <| wi_inBlock <| wi_reg rfl <| lx_add (((x + 1 : Nat) : Int)) rfl rfl rfl (by omega) (by omega) (by omega) <| lx_move (.int .i64 ((x + 1 : Nat) : Int)) rfl rfl <| lx_nil <| ?_
      -- L0.2
      refine IH1 _ _ (x + 1, o) (agree_ups rfl agree_self) ⟨rfl, rfl, trivial⟩ ⟨rfl, ?_, ?_⟩ ?_
      · try dsimp only
        omega
      · try dsimp only
        rw [ho]
        first
        | exact cmF_yes (bit_nz (by omega))
        | exact cmF_no (bit_zero.1 (by omega))
      · first | omega | (dsimp only; omega)
  · refine lx_nil <| wi_seq <| wi_false rfl <| wi_exit rfl <| wi_seq <| wi_reg rfl <| lx_move (.int .i64 ((o : Nat) : Int)) rfl rfl <| lx_assign (.int .i64 ((o : Nat) : Int)) rfl rfl <| lx_nil <| ?_
    -- R1
    refine wi_ret ⟨.int .i64 ((o : Nat) : Int), (res_one rfl rfl), ⟨?_, rfl⟩⟩
    · rw [ho, show x = p.length from by omega, cmF_dn]

end Go.Proofs.Ytdokijbdnajhgaa
