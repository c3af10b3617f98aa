/-
  Texts in one: PN, PO, PP.
-/
import Derived.Test.YtdokijbdnajhgaaMLat7
set_option linter.unusedSimpArgs false
set_option linter.unusedVariables false
namespace Go.Proofs.Ytdokijbdnajhgaa
open Go Go.X

/-- The join elements that are at most an element, by their indices. -/
def birK (f : Nat → Nat → Bool) (al : List Int) (k x : Nat) : Nat := colN k fun q => f (gt al q).toNat x
def birF (n : Nat) (f : Nat → Nat → Bool) : List Int := mapR n fun x => ((birK f (jelF n f) (jelF n f).length x : Nat) : Int)
theorem birK_yes {f : Nat → Nat → Bool} {al : List Int} {k x : Nat} (h : f (gt al k).toNat x = true) : birK f al k x ||| 1 * 2 ^ k = birK f al (k + 1) x := colN_set (g := fun q => f (gt al q).toNat x) h
theorem birK_no {f : Nat → Nat → Bool} {al : List Int} {k x : Nat} (h : f (gt al k).toNat x = false) : birK f al k x = birK f al (k + 1) x := colN_skip (g := fun q => f (gt al q).toNat x) h
theorem birK_lt (f : Nat → Nat → Bool) (al : List Int) (k x : Nat) : birK f al k x < 2 ^ k := colN_lt k _
theorem jel_at {n k : Nat} {f : Nat → Nat → Bool} (h : k < (jelF n f).length) : ∃ a : Nat, gt (jelF n f) k = (a : Int) ∧ a < n ∧ jelB n f a = true := filtF_gt h
theorem jel_len (n : Nat) (f : Nat → Nat → Bool) : (jelF n f).length ≤ n := filtF_length _ _
theorem jN_nat {n x y : Nat} {f : Nat → Nat → Bool} (ho : IsO n f) (hg : noGap n f) (hx : x < n) (hy : y < n) : gt (gt (tabI n (joinF n f)) x) y = ((jN n f x y : Nat) : Int) := by
  rw [gt_tabI hx, gt_mapR hy]; exact (jN_at ho hg hx hy).1
theorem mN_nat {n x y : Nat} {f : Nat → Nat → Bool} (ho : IsO n f) (hg : noGap n f) (hx : x < n) (hy : y < n) : gt (gt (tabI n (meetF n f)) x) y = ((mN n f x y : Nat) : Int) := by
  rw [gt_tabI hx, gt_mapR hy]; exact (mN_at ho hg hx hy).1
abbrev disE (p : List (List Bool)) (x y z : Nat) : Prop := mN p.length (pb p) x (jN p.length (pb p) y z) = jN p.length (pb p) (mN p.length (pb p) x y) (mN p.length (pb p) x z)
theorem tabI_row {n x : Nat} {g : Nat → Nat → Int} (hx : x < n) : (gt (tabI n g) x).length = n := by rw [gt_tabI hx, mapR_len]

set_option maxRecDepth 10000 in
theorem rbelow_spec (h : Heap) (vp : Value) (hs : List Hdr) (p : List (List Bool)) (x : Nat) (y : Nat) (hr_vp : RdE encHd h vp hs) (ht_vp : RT encB h hs p) (hp1 : p.length ≤ 12) (hp2 : Sq p p.length) (hp3 : x < p.length) (hp4 : y < p.length) : Fx Try.prog 102 [vp, .int .i64 ((x : Nat) : Int), .int .i64 ((y : Nat) : Int)] h (fun v h' => v = .bool (decide (x ≠ y) && pb p x y) ∧ h = h') := by
  have hl_vp := ht_vp.1
  refine fx_intro (n := 19) [(0, vp), (1, .int .i64 ((x : Nat) : Int)), (2, .int .i64 ((y : Nat) : Int))] Try.func102 rfl rfl (by simp) ⟨rfl, rfl, rfl, trivial⟩ fun g0 => ?_
  refine wi_seq <| wi_reg rfl <| lx_assign (.bool false) rfl rfl <| lx_nil <| wi_seq <| wi_reg rfl <| lx_move (.int .i64 ((x : Nat) : Int)) rfl rfl <| lx_move (.int .i64 ((y : Nat) : Int)) rfl rfl <| lx_neqS rfl rfl rfl (fun c1 => ?_) (fun c1 => ?_)
  · refine lx_move (.bool true) rfl rfl <| lx_move (vp) rfl rfl <| lx_move (.int .i64 ((x : Nat) : Int)) rfl rfl <| lx_ix (i := x) rfl eT23 hr_vp rfl rfl (by omega) <| lx_ld (i := x) (j := 0) ((gt hs x).v) rfl rfl fl70 hr_vp (by omega) rfl rfl <| lx_move (.int .i64 ((y : Nat) : Int)) rfl rfl <| lx_ix (i := y) rfl eT70 (ht_vp.2 x (by omega)) rfl rfl (by rw [hp2.2 x (by omega)]; omega) <| lx_ld (i := y) (j := 0) (.bool (gt (gt p x) y)) rfl rfl fl4 (ht_vp.2 x (by omega)) (by rw [hp2.2 x (by omega)]; omega) rfl rfl <| lx_pick true (.bool (gt (gt p x) y)) rfl rfl rfl <| lx_assign (.bool (gt (gt p x) y)) rfl rfl <| lx_nil <| ?_
    -- R1
    refine wi_ret ⟨.bool (gt (gt p x) y), (res_one rfl rfl), ⟨?_, rfl⟩⟩
    · congr 1
      first
      | (rw [decide_eq_true (show x ≠ y by omega), Bool.true_and]; done)
      | (rw [decide_eq_false (show ¬ x ≠ y by omega)]; rfl)
  · refine lx_move (.bool false) rfl rfl <| lx_skip rfl <| lx_skip rfl <| lx_skip rfl <| lx_skip rfl <| lx_skip rfl <| lx_skip rfl <| lx_skip rfl <| lx_pick false (.bool false) rfl rfl rfl <| lx_assign (.bool false) rfl rfl <| lx_nil <| ?_
    -- R2
    refine wi_ret ⟨.bool false, (res_one rfl rfl), ⟨?_, rfl⟩⟩
    · congr 1
      first
      | (rw [decide_eq_true (show x ≠ y by omega), Bool.true_and]; done)
      | (rw [decide_eq_false (show ¬ x ≠ y by omega)]; rfl)

set_option maxRecDepth 10000 in
theorem rright_spec (h : Heap) (vp : Value) (hs : List Hdr) (p : List (List Bool)) (x : Nat) (y : Nat) (hr_vp : RdE encHd h vp hs) (ht_vp : RT encB h hs p) (hp1 : p.length ≤ 12) (hp2 : Sq p p.length) (hp3 : x < p.length) (hp4 : y < p.length) : Fx Try.prog 103 [vp, .int .i64 ((x : Nat) : Int), .int .i64 ((y : Nat) : Int)] h (fun v h' => v = .bool (rbF p.length (pb p) x y) ∧ h = h') := by
  have hl_vp := ht_vp.1
  refine fx_intro (n := 28) [(0, vp), (1, .int .i64 ((x : Nat) : Int)), (2, .int .i64 ((y : Nat) : Int))] Try.func103 rfl rfl (by simp) ⟨rfl, rfl, rfl, trivial⟩ fun g0 => ?_
  refine wi_seq <| wi_reg rfl <| lx_assign (.bool false) rfl rfl <| lx_nil <| wi_seq <| wi_seq <| wi_reg rfl <| lx_assign (.int .i64 0) rfl rfl <| lx_nil <| wi_block <| ?_
  refine wi_loop (σ := Nat) (rngB 6 24 []) (fun (z : Nat) => [(7, .int .i64 ((z : Nat) : Int))]) (fun (z : Nat) (hh : Heap) => h = hh ∧ (z ≤ p.length) ∧ (∀ w, w < z → ((decide (x ≠ w) && pb p x w) && (decide (w ≠ y) && pb p w y)) = false)) (fun (z : Nat) => p.length - z) 0 ⟨rfl, trivial⟩ ⟨rfl, ?_, ?_⟩ ?_
  · try dsimp only
    omega
  · try dsimp only
    intro w hw; omega
  rintro g1 z hh1 ⟨rfl, hz, ha⟩ IH1
  refine wi_seq <| wi_seq <| wi_reg rfl <| lx_move (.int .i64 ((z : Nat) : Int)) rfl rfl <| lx_move (vp) rfl rfl <| lx_len rfl Try.underlying23 hr_vp rfl <| lx_lssS rfl rfl rfl (fun c1 => ?_) (fun c1 => ?_)
  · refine lx_nil <| wi_true rfl <| wi_skip <| wi_seq <| wi_block <| wi_seq <| wi_reg rfl <| lx_move (vp) rfl rfl <| lx_move (.int .i64 ((x : Nat) : Int)) rfl rfl <| lx_move (.int .i64 ((z : Nat) : Int)) rfl rfl <| lx_call [vp, .int .i64 ((x : Nat) : Int), .int .i64 ((z : Nat) : Int)] rfl rfl Try.call102 rfl (rbelow_spec h vp hs p x z hr_vp ht_vp (by omega) (by first | with_reducible assumption | omega) (by omega) (by omega)) (fun _ _ _ => trivial) ?_
    rintro _ h1 ⟨rfl, rfl⟩
    refine lx_move (.bool (decide (x ≠ z) && pb p x z)) rfl rfl <| ?_
    cases c2 : (decide (x ≠ z) && pb p x z)
    · refine lx_skip rfl <| lx_skip rfl <| lx_skip rfl <| lx_skip rfl <| lx_pick false (.bool false) rfl rfl rfl <| lx_nil <| wi_false rfl <| wi_skip <| wi_inBlock <| wi_reg rfl <| lx_move (.int .i64 ((z : Nat) : Int)) rfl rfl <| lx_add (((z + 1 : Nat) : Int)) rfl rfl rfl (by omega) (by omega) (by omega) <| lx_assign (.int .i64 ((z + 1 : Nat) : Int)) rfl rfl <| lx_nil <| ?_
      -- L0.1
      refine IH1 _ _ (z + 1) (agree_ups rfl agree_self) ⟨rfl, trivial⟩ ⟨rfl, ?_, ?_⟩ ?_
      · try dsimp only
        omega
      · try dsimp only
        intro w hw
        by_cases e : w = z
        · subst e; first | (rw [show (decide (x ≠ w) && pb p x w) = false from by assumption]; rfl) | (rw [show (decide (w ≠ y) && pb p w y) = false from by assumption, Bool.and_false])
        · exact ha w (by omega)
      · first | omega | (dsimp only; omega)
    · refine lx_move (vp) rfl rfl <| lx_move (.int .i64 ((z : Nat) : Int)) rfl rfl <| lx_move (.int .i64 ((y : Nat) : Int)) rfl rfl <| lx_call [vp, .int .i64 ((z : Nat) : Int), .int .i64 ((y : Nat) : Int)] rfl rfl Try.call102 rfl (rbelow_spec h vp hs p z y hr_vp ht_vp (by omega) (by first | with_reducible assumption | omega) (by omega) (by omega)) (fun _ _ _ => trivial) ?_
      rintro _ h2 ⟨rfl, rfl⟩
      refine lx_pick true (.bool (decide (z ≠ y) && pb p z y)) rfl rfl rfl <| lx_nil <| wi_condS (t := decide (z ≠ y) && pb p z y) rfl (fun c3 => ?_) (fun c3 => ?_)
      · refine wi_seq <| wi_reg rfl <| lx_assign (.bool false) rfl rfl <| lx_nil <| ?_
        -- R1
        refine wi_ret ⟨.bool false, (res_one rfl rfl), ⟨?_, rfl⟩⟩
        · congr 1
          first
          | exact (rb_no (z := z) (by omega) (by assumption) (by assumption)).symm
          | exact (rb_yes (fun w hw => ha w (by omega))).symm
      · refine wi_skip <| wi_inBlock <| wi_reg rfl <| lx_move (.int .i64 ((z : Nat) : Int)) rfl rfl <| lx_add (((z + 1 : Nat) : Int)) rfl rfl rfl (by omega) (by omega) (by omega) <| lx_assign (.int .i64 ((z + 1 : Nat) : Int)) rfl rfl <| lx_nil <| ?_
        -- L0.2
        refine IH1 _ _ (z + 1) (agree_ups rfl agree_self) ⟨rfl, trivial⟩ ⟨rfl, ?_, ?_⟩ ?_
        · try dsimp only
          omega
        · try dsimp only
          intro w hw
          by_cases e : w = z
          · subst e; first | (rw [show (decide (x ≠ w) && pb p x w) = false from by assumption]; rfl) | (rw [show (decide (w ≠ y) && pb p w y) = false from by assumption, Bool.and_false])
          · exact ha w (by omega)
        · first | omega | (dsimp only; omega)
  · refine lx_nil <| wi_false rfl <| wi_exit rfl <| wi_seq <| wi_reg rfl <| lx_move (vp) rfl rfl <| lx_move (.int .i64 ((x : Nat) : Int)) rfl rfl <| lx_move (.int .i64 ((y : Nat) : Int)) rfl rfl <| lx_call [vp, .int .i64 ((x : Nat) : Int), .int .i64 ((y : Nat) : Int)] rfl rfl Try.call102 rfl (rbelow_spec h vp hs p x y hr_vp ht_vp (by omega) (by first | with_reducible assumption | omega) (by omega) (by omega)) (fun _ _ _ => trivial) ?_
    rintro _ h3 ⟨rfl, rfl⟩
    refine lx_assign (.bool (decide (x ≠ y) && pb p x y)) rfl rfl <| lx_nil <| ?_
    -- R2
    refine wi_ret ⟨.bool (decide (x ≠ y) && pb p x y), (res_one rfl rfl), ⟨?_, rfl⟩⟩
    · congr 1
      first
      | exact (rb_no (z := z) (by omega) (by assumption) (by assumption)).symm
      | exact (rb_yes (fun w hw => ha w (by omega))).symm

set_option maxRecDepth 10000 in
theorem rjoinEls_spec (h : Heap) (vp : Value) (hs : List Hdr) (p : List (List Bool)) (hr_vp : RdE encHd h vp hs) (ht_vp : RT encB h hs p) (hp1 : p.length ≤ 12) (hp2 : Sq p p.length) : Fx Try.prog 40 [vp] h (fun v h' => ∃ (s : Value), v = s ∧ OwE encI h' h.size 3 s (jelF p.length (pb p)) ∧ Ext h.size h h') := by
  have hl_vp := ht_vp.1
  refine fx_intro (n := 32) [(0, vp)] Try.func40 rfl rfl (by simp) ⟨rfl, trivial⟩ fun g0 => ?_
  refine wi_seq <| wi_reg rfl <| lx_assign (.slice none 0 0) rfl rfl <| lx_nil <| wi_seq <| wi_reg rfl <| lx_assign (.slice none 0 0) rfl rfl <| lx_nil <| wi_seq <| wi_seq <| wi_reg rfl <| lx_assign (.int .i64 0) rfl rfl <| lx_nil <| wi_block <| ?_
  refine wi_loop (σ := Nat × Value × (List Int)) (rngB 3 31 []) (fun (ss : Nat × Value × (List Int)) => [(4, .int .i64 ((ss.1 : Nat) : Int)), (3, ss.2.1)]) (fun (ss : Nat × Value × (List Int)) (hh : Heap) => OwE encI hh h.size 3 ss.2.1 ss.2.2 ∧ Ext h.size h hh ∧ (ss.1 ≤ p.length) ∧ (ss.2.2 = filtF ss.1 (jelB p.length (pb p)))) (fun (ss : Nat × Value × (List Int)) => p.length - ss.1) (0, .slice none 0 0, []) ⟨rfl, rfl, trivial⟩ ⟨?_, (Ext.refl _ _), ?_, ?_⟩ ?_
  · first | exact (owE_nil encI _ h.size 3) | (simpa using (owE_nil encI _ h.size 3))
  · try dsimp only
    omega
  · try dsimp only
    first | done | rfl
  rintro g1 ⟨x, v, xs⟩ hh1 ⟨ho1, hx0_1, hx, hxs⟩ IH1
  dsimp only at *
  have hxl : xs.length ≤ x := by rw [hxs]; exact filtF_length _ _
  refine wi_seq <| wi_seq <| wi_reg rfl <| lx_move (.int .i64 ((x : Nat) : Int)) rfl rfl <| lx_move (vp) rfl rfl <| lx_len rfl Try.underlying23 hr_vp rfl <| lx_lssS rfl rfl rfl (fun c1 => ?_) (fun c1 => ?_)
  · refine lx_nil <| wi_true rfl <| wi_skip <| wi_seq <| wi_block <| wi_seq <| wi_reg rfl <| lx_assign (.int .i64 0) rfl rfl <| lx_nil <| wi_seq <| wi_seq <| wi_reg rfl <| lx_assign (.int .i64 0) rfl rfl <| lx_nil <| wi_block <| ?_
    refine wi_loop (σ := Nat × Nat) (rngB 13 25 [5, 6]) (fun (ss : Nat × Nat) => [(6, .int .i64 ((ss.1 : Nat) : Int)), (5, .int .i64 ((ss.2 : Nat) : Int))]) (fun (ss : Nat × Nat) (hh : Heap) => hh1 = hh ∧ (ss.1 ≤ p.length) ∧ (ss.2 = rbN p.length (pb p) x ss.1)) (fun (ss : Nat × Nat) => p.length - ss.1) (0, 0) ⟨rfl, rfl, trivial⟩ ⟨rfl, ?_, ?_⟩ ?_
    · try dsimp only
      omega
    · try dsimp only
      first | done | rfl
    rintro g2 ⟨y, n⟩ hh2 ⟨rfl, hy, hn⟩ IH2
    dsimp only at *
    have hnl := rbN_le p.length (pb p) x y
    rw [← hn] at hnl
    refine wi_seq <| wi_seq <| wi_reg rfl <| lx_move (.int .i64 ((y : Nat) : Int)) rfl rfl <| lx_move (vp) rfl rfl <| lx_len rfl Try.underlying23 hr_vp rfl <| lx_lssS rfl rfl rfl (fun c2 => ?_) (fun c2 => ?_)
    · refine lx_nil <| wi_true rfl <| wi_skip <| wi_seq <| wi_block <| wi_seq <| wi_reg rfl <| lx_move (vp) rfl rfl <| lx_move (.int .i64 ((y : Nat) : Int)) rfl rfl <| lx_move (.int .i64 ((x : Nat) : Int)) rfl rfl <| lx_call [vp, .int .i64 ((y : Nat) : Int), .int .i64 ((x : Nat) : Int)] rfl rfl Try.call103 rfl (rright_spec hh1 vp hs p y x (hr_vp.extS hx0_1) (ht_vp.extS hx0_1) (by omega) (by first | with_reducible assumption | omega) (by omega) (by omega)) (fun _ _ _ => trivial) ?_
      rintro _ h1 ⟨rfl, rfl⟩
      refine lx_nil <| wi_condS (t := rbF p.length (pb p) y x) rfl (fun c3 => ?_) (fun c3 => ?_)
      · refine wi_reg rfl <| lx_move (.int .i64 ((n : Nat) : Int)) rfl rfl <| lx_add (((n + 1 : Nat) : Int)) rfl rfl rfl (by omega) (by omega) (by omega) <| lx_assign (.int .i64 ((n + 1 : Nat) : Int)) rfl rfl <| lx_nil <| wi_inBlock <| wi_reg rfl <| lx_move (.int .i64 ((y : Nat) : Int)) rfl rfl <| lx_add (((y + 1 : Nat) : Int)) rfl rfl rfl (by omega) (by omega) (by omega) <| lx_assign (.int .i64 ((y + 1 : Nat) : Int)) rfl rfl <| lx_nil <| ?_
        -- L2.1
        refine IH2 _ _ (y + 1, n + 1) (agree_ups rfl agree_self) ⟨rfl, rfl, trivial⟩ ⟨rfl, ?_, ?_⟩ ?_
        · try dsimp only
          omega
        · try dsimp only
          rw [rbN_succ, ← hn]
          first
          | rw [show rbF p.length (pb p) y x = true from by assumption, if_pos rfl]
          | (rw [show rbF p.length (pb p) y x = false from by assumption]; rfl)
        · first | omega | (dsimp only; omega)
      · refine wi_skip <| wi_inBlock <| wi_reg rfl <| lx_move (.int .i64 ((y : Nat) : Int)) rfl rfl <| lx_add (((y + 1 : Nat) : Int)) rfl rfl rfl (by omega) (by omega) (by omega) <| lx_assign (.int .i64 ((y + 1 : Nat) : Int)) rfl rfl <| lx_nil <| ?_
        -- L2.2
        refine IH2 _ _ (y + 1, n) (agree_ups rfl agree_self) ⟨rfl, rfl, trivial⟩ ⟨rfl, ?_, ?_⟩ ?_
        · try dsimp only
          omega
        · try dsimp only
          rw [rbN_succ, ← hn]
          first
          | rw [show rbF p.length (pb p) y x = true from by assumption, if_pos rfl]
          | (rw [show rbF p.length (pb p) y x = false from by assumption]; rfl)
        · first | omega | (dsimp only; omega)
    · refine lx_nil <| wi_false rfl <| wi_exit rfl <| wi_seq <| wi_reg rfl <| lx_move (.int .i64 ((n : Nat) : Int)) rfl rfl <| lx_eqlS rfl rfl rfl (fun c4 => ?_) (fun c4 => ?_)
      · refine lx_nil <| wi_true rfl <| wi_reg rfl <| lx_move (v) rfl rfl <| lx_move (.int .i64 ((x : Nat) : Int)) rfl rfl <| lx_appendL (E := encI) (B := h.size) [((x : Nat) : Int)] [.int .i64 ((x : Nat) : Int)] rfl rfl (fun _ => rfl) rfl eT25 rfl rfl rfl rfl ho1 (fun _ => rfl) (by show xs.length + 1 ≤ _; omega) (by show (xs.length + 1) * 8 ≤ _; omega) hx0_1.size (fun _ _ => trivial) fun u1 v1 h2 ho2 hc1 hg1 => ?_
        have hx0_2 := hx0_1.trans (ho1.ext hc1 hx0_1.size)
        refine lx_assign (v1) rfl rfl <| lx_nil <| wi_inBlock <| wi_reg rfl <| lx_move (.int .i64 ((x : Nat) : Int)) rfl rfl <| lx_add (((x + 1 : Nat) : Int)) rfl rfl rfl (by omega) (by omega) (by omega) <| lx_assign (.int .i64 ((x + 1 : Nat) : Int)) rfl rfl <| lx_nil <| ?_
        -- L0.1
        refine IH1 _ _ (x + 1, v1, xs ++ [((x : Nat) : Int)]) (agree_ups rfl (agree_mix (rngB_sub (by decide) (by decide) rfl) (agree_ups rfl agree_self))) ⟨rfl, rfl, trivial⟩ ⟨?_, hx0_2, ?_, ?_⟩ ?_
        · first | exact ho2 | (simpa using ho2)
        · try dsimp only
          omega
        · try dsimp only
          rw [hxs]
          have hje : jelB p.length (pb p) x = decide (n = 1) := by unfold jelB; rw [hn, show y = p.length from by omega]
          first
          | exact filtF_yes (by rw [hje]; exact decide_eq_true (by omega))
          | exact filtF_no (by rw [hje]; exact decide_eq_false (by omega))
        · first | omega | (dsimp only; omega)
      · refine lx_nil <| wi_false rfl <| wi_skip <| wi_inBlock <| wi_reg rfl <| lx_move (.int .i64 ((x : Nat) : Int)) rfl rfl <| lx_add (((x + 1 : Nat) : Int)) rfl rfl rfl (by omega) (by omega) (by omega) <| lx_assign (.int .i64 ((x + 1 : Nat) : Int)) rfl rfl <| lx_nil <| ?_
        -- L0.2
        refine IH1 _ _ (x + 1, v, xs) (agree_ups rfl (agree_mix (rngB_sub (by decide) (by decide) rfl) (agree_ups rfl agree_self))) ⟨rfl, rfl, trivial⟩ ⟨?_, hx0_1, ?_, ?_⟩ ?_
        · first | exact ho1 | (simpa using ho1)
        · try dsimp only
          omega
        · try dsimp only
          rw [hxs]
          have hje : jelB p.length (pb p) x = decide (n = 1) := by unfold jelB; rw [hn, show y = p.length from by omega]
          first
          | exact filtF_yes (by rw [hje]; exact decide_eq_true (by omega))
          | exact filtF_no (by rw [hje]; exact decide_eq_false (by omega))
        · first | omega | (dsimp only; omega)
  · refine lx_nil <| wi_false rfl <| wi_exit rfl <| wi_seq <| wi_reg rfl <| lx_move (v) rfl rfl <| lx_assign (v) rfl rfl <| lx_nil <| ?_
    -- R1
    refine wi_ret ⟨v, (res_one rfl rfl), ⟨v, rfl, ?_, hx0_1⟩⟩
    · rw [show jelF p.length (pb p) = xs from by rw [hxs, show x = p.length from by omega]; rfl]; exact ho1

set_option maxRecDepth 10000 in
theorem rgap_spec (h : Heap) (vp : Value) (hs : List Hdr) (p : List (List Bool)) (hr_vp : RdE encHd h vp hs) (ht_vp : RT encB h hs p) (hp1 : p.length ≤ 12) (hp2 : Sq p p.length) : Fx Try.prog 31 [vp] h (fun v h' => ∃ (x : Nat) (y : Nat) (b : Bool), v = .tuple #[.int .i64 ((x : Nat) : Int), .int .i64 ((y : Nat) : Int), .bool b] ∧ (gapR p.length (pb p) x y b) ∧ Ext h.size h h') := by
  have hl_vp := ht_vp.1
  refine fx_intro (n := 35) [(0, vp)] Try.func31 rfl rfl (by simp) ⟨rfl, trivial⟩ fun g0 => ?_
  refine wi_seq <| wi_reg rfl <| lx_assign (.int .i64 0) rfl rfl <| lx_assign (.int .i64 0) rfl rfl <| lx_assign (.bool false) rfl rfl <| lx_nil <| wi_seq <| wi_seq <| wi_reg rfl <| lx_assign (.int .i64 0) rfl rfl <| lx_nil <| wi_block <| ?_
  refine wi_loop (σ := Nat) (rngB 2 35 []) (fun (x : Nat) => [(5, .int .i64 ((x : Nat) : Int))]) (fun (x : Nat) (hh : Heap) => Ext h.size h hh ∧ (x ≤ p.length) ∧ (∀ i j, i < j → j < p.length → i < x → gapB p.length (pb p) i j = false)) (fun (x : Nat) => p.length - x) 0 ⟨rfl, trivial⟩ ⟨(Ext.refl _ _), ?_, ?_⟩ ?_
  · try dsimp only
    omega
  · try dsimp only
    intro i j h1 h2 h3; omega
  rintro g1 x hh1 ⟨hx0_1, hx, ha⟩ IH1
  refine wi_seq <| wi_seq <| wi_reg rfl <| lx_move (.int .i64 ((x : Nat) : Int)) rfl rfl <| lx_move (vp) rfl rfl <| lx_len rfl Try.underlying23 hr_vp rfl <| lx_lssS rfl rfl rfl (fun c1 => ?_) (fun c1 => ?_)
  · refine lx_nil <| wi_true rfl <| wi_skip <| wi_seq <| wi_block <| wi_seq <| wi_reg rfl <| lx_move (.int .i64 ((x : Nat) : Int)) rfl rfl <| lx_add (((x + 1 : Nat) : Int)) rfl rfl rfl (by omega) (by omega) (by omega) <| lx_assign (.int .i64 ((x + 1 : Nat) : Int)) rfl rfl <| lx_nil <| wi_block <| ?_
    refine wi_loop (σ := Nat) (rngB 15 35 [2, 3, 4, 6]) (fun (y : Nat) => [(6, .int .i64 ((y : Nat) : Int))]) (fun (y : Nat) (hh : Heap) => Ext h.size h hh ∧ (x < y ∧ y ≤ p.length) ∧ (∀ j, x < j → j < y → gapB p.length (pb p) x j = false)) (fun (y : Nat) => p.length - y) (x + 1) ⟨rfl, trivial⟩ ⟨hx0_1, ?_, ?_⟩ ?_
    · try dsimp only
      omega
    · try dsimp only
      intro j h1 h2; omega
    rintro g2 y hh2 ⟨hx0_2, hy, hb⟩ IH2
    refine wi_seq <| wi_seq <| wi_reg rfl <| lx_move (.int .i64 ((y : Nat) : Int)) rfl rfl <| lx_move (vp) rfl rfl <| lx_len rfl Try.underlying23 hr_vp rfl <| lx_lssS rfl rfl rfl (fun c2 => ?_) (fun c2 => ?_)
    · refine lx_nil <| wi_true rfl <| wi_skip <| wi_seq <| wi_block <| wi_seq <| wi_reg rfl <| lx_move (vp) rfl rfl <| lx_move (.int .i64 ((x : Nat) : Int)) rfl rfl <| lx_move (.int .i64 ((y : Nat) : Int)) rfl rfl <| lx_call [vp, .int .i64 ((x : Nat) : Int), .int .i64 ((y : Nat) : Int)] rfl rfl Try.call88 rfl (join_spec hh2 vp hs p x y (hr_vp.extS hx0_2) (ht_vp.extS hx0_2) (by omega) (by first | with_reducible assumption | omega) (by omega) (by omega)) (fun _ _ _ => trivial) ?_
      rintro _ h1 ⟨rfl, rfl⟩
      refine lx_lssS rfl rfl rfl (fun c3 => ?_) (fun c3 => ?_)
      · refine lx_move (.bool true) rfl rfl <| lx_skip rfl <| lx_skip rfl <| lx_skip rfl <| lx_skip rfl <| lx_skip rfl <| lx_pick true (.bool true) rfl rfl rfl <| lx_nil <| wi_true rfl <| wi_seq <| wi_reg rfl <| lx_move (.int .i64 ((x : Nat) : Int)) rfl rfl <| lx_move (.int .i64 ((y : Nat) : Int)) rfl rfl <| lx_assign (.int .i64 ((x : Nat) : Int)) rfl rfl <| lx_assign (.int .i64 ((y : Nat) : Int)) rfl rfl <| lx_assign (.bool true) rfl rfl <| lx_nil <| ?_
        -- R1
        refine wi_ret ⟨.tuple #[.int .i64 ((x : Nat) : Int), .int .i64 ((y : Nat) : Int), .bool true], (res_three rfl rfl rfl rfl), ⟨x, y, true, rfl, ?_, hx0_2⟩⟩
        · refine .inl ⟨rfl, by omega, by omega, ?_, fun i j h1 h2 h3 => ?_⟩
          · unfold gapB; rw [Bool.or_eq_true, decide_eq_true_iff, decide_eq_true_iff]; omega
          · rcases h3 with h3 | ⟨rfl, h3⟩
            · exact ha i j h1 h2 h3
            · exact hb j h1 h3
      · refine lx_move (.bool false) rfl rfl <| lx_move (vp) rfl rfl <| lx_move (.int .i64 ((x : Nat) : Int)) rfl rfl <| lx_move (.int .i64 ((y : Nat) : Int)) rfl rfl <| lx_call [vp, .int .i64 ((x : Nat) : Int), .int .i64 ((y : Nat) : Int)] rfl rfl Try.call91 rfl (meet_spec hh2 vp hs p x y (hr_vp.extS hx0_2) (ht_vp.extS hx0_2) (by omega) (by first | with_reducible assumption | omega) (by omega) (by omega)) (fun _ _ _ => trivial) ?_
        rintro _ h2 ⟨rfl, hx1⟩
        have hx0_3 := hx0_2.trans2 hx1 hx0_2.size
        refine lx_lssS rfl rfl rfl (fun c4 => ?_) (fun c4 => ?_)
        · refine lx_pick false (.bool true) rfl rfl rfl <| lx_nil <| wi_true rfl <| wi_seq <| wi_reg rfl <| lx_move (.int .i64 ((x : Nat) : Int)) rfl rfl <| lx_move (.int .i64 ((y : Nat) : Int)) rfl rfl <| lx_assign (.int .i64 ((x : Nat) : Int)) rfl rfl <| lx_assign (.int .i64 ((y : Nat) : Int)) rfl rfl <| lx_assign (.bool true) rfl rfl <| lx_nil <| ?_
          -- R2
          refine wi_ret ⟨.tuple #[.int .i64 ((x : Nat) : Int), .int .i64 ((y : Nat) : Int), .bool true], (res_three rfl rfl rfl rfl), ⟨x, y, true, rfl, ?_, hx0_3⟩⟩
          · refine .inl ⟨rfl, by omega, by omega, ?_, fun i j h1 h2 h3 => ?_⟩
            · unfold gapB; rw [Bool.or_eq_true, decide_eq_true_iff, decide_eq_true_iff]; omega
            · rcases h3 with h3 | ⟨rfl, h3⟩
              · exact ha i j h1 h2 h3
              · exact hb j h1 h3
        · refine lx_pick false (.bool false) rfl rfl rfl <| lx_nil <| wi_false rfl <| wi_skip <| wi_inBlock <| wi_reg rfl <| lx_move (.int .i64 ((y : Nat) : Int)) rfl rfl <| lx_add (((y + 1 : Nat) : Int)) rfl rfl rfl (by omega) (by omega) (by omega) <| lx_assign (.int .i64 ((y + 1 : Nat) : Int)) rfl rfl <| lx_nil <| ?_
          -- L2.1
          refine IH2 _ _ (y + 1) (agree_ups rfl agree_self) ⟨rfl, trivial⟩ ⟨hx0_3, ?_, ?_⟩ ?_
          · try dsimp only
            omega
          · try dsimp only
            intro j h1 h2
            by_cases e : j = y
            · subst e; unfold gapB; rw [decide_eq_false (by omega), decide_eq_false (by omega)]; rfl
            · exact hb j h1 (by omega)
          · first | omega | (dsimp only; omega)
    · refine lx_nil <| wi_false rfl <| wi_exit rfl <| wi_inBlock <| wi_reg rfl <| lx_move (.int .i64 ((x : Nat) : Int)) rfl rfl <| lx_add (((x + 1 : Nat) : Int)) rfl rfl rfl (by omega) (by omega) (by omega) <| lx_assign (.int .i64 ((x + 1 : Nat) : Int)) rfl rfl <| lx_nil <| ?_
      -- L0.1
      refine IH1 _ _ (x + 1) (agree_ups rfl (agree_mix (rngB_sub (by decide) (by decide) rfl) (agree_ups rfl agree_self))) ⟨rfl, trivial⟩ ⟨hx0_2, ?_, ?_⟩ ?_
      · try dsimp only
        omega
      · try dsimp only
        intro i j h1 h2 h3
        by_cases e : i = x
        · subst e; exact hb j h1 (by omega)
        · exact ha i j h1 h2 (by omega)
      · first | omega | (dsimp only; omega)
  · refine lx_nil <| wi_false rfl <| wi_exit rfl <| wi_seq <| wi_reg rfl <| lx_assign (.int .i64 0) rfl rfl <| lx_assign (.int .i64 0) rfl rfl <| lx_assign (.bool false) rfl rfl <| lx_nil <| ?_
    -- R3
    refine wi_ret ⟨.tuple #[.int .i64 0, .int .i64 0, .bool false], (res_three rfl rfl rfl rfl), ⟨0, 0, false, ?_, ?_, hx0_1⟩⟩
    · first | rfl | (simp; done) | (simp; omega)
    · exact .inr ⟨rfl, rfl, rfl, fun i j h1 h2 => ha i j h1 h2 (by omega)⟩

set_option maxRecDepth 10000 in
theorem risLattice_spec (h : Heap) (vp : Value) (hs : List Hdr) (p : List (List Bool)) (hr_vp : RdE encHd h vp hs) (ht_vp : RT encB h hs p) (hp1 : p.length ≤ 12) (hp2 : Sq p p.length) : Fx Try.prog 100 [vp] h (fun v h' => v = .bool (ngB p.length (pb p)) ∧ Ext h.size h h') := by
  have hl_vp := ht_vp.1
  refine fx_intro (n := 14) [(0, vp)] Try.func100 rfl rfl (by simp) ⟨rfl, trivial⟩ fun g0 => ?_
  refine wi_seq <| wi_reg rfl <| lx_assign (.bool false) rfl rfl <| lx_nil <| wi_seq <| wi_reg rfl <| lx_move (vp) rfl rfl <| lx_call [vp] rfl rfl Try.call31 rfl (rgap_spec h vp hs p hr_vp ht_vp (by omega) (by first | with_reducible assumption | omega)) (fun _ _ _ => trivial) ?_
  rintro _ h1 ⟨gx, gy, gb, rfl, hgap, hx1⟩
  refine lx_move (.tuple #[.int .i64 ((gx : Nat) : Int), .int .i64 ((gy : Nat) : Int), .bool gb]) rfl rfl <| lx_extract (.int .i64 ((gx : Nat) : Int)) rfl rfl rfl <| lx_extract (.int .i64 ((gy : Nat) : Int)) rfl rfl rfl <| lx_extract (.bool gb) rfl rfl rfl <| lx_assign (.int .i64 ((gx : Nat) : Int)) rfl rfl <| lx_assign (.int .i64 ((gy : Nat) : Int)) rfl rfl <| lx_assign (.bool gb) rfl rfl <| lx_nil <| wi_seq <| wi_reg rfl <| lx_move (.bool gb) rfl rfl <| lx_not rfl rfl <| lx_assign (.bool !gb) rfl rfl <| lx_nil <| ?_
  -- R1
  refine wi_ret ⟨.bool !gb, (res_one rfl rfl), ⟨?_, hx1⟩⟩
  · rw [gapR_ng hgap, Bool.not_not]

set_option maxRecDepth 10000 in
theorem rlattice_spec (h : Heap) (vp : Value) (hs : List Hdr) (p : List (List Bool)) (hr_vp : RdE encHd h vp hs) (ht_vp : RT encB h hs p) (hp1 : p.length ≤ 12) (hp2 : Sq p p.length) : Fx Try.prog 38 [vp] h (fun v h' => ∃ (s1 : Value) (s2 : Value) (h1 : List Hdr) (h2 : List Hdr) (rj : List (List Int)) (rm : List (List Int)), v = .tuple #[s1, s2] ∧ OwE encHd h' h.size 25 s1 h1 ∧ OT encI h' h.size 3 h1 rj ∧ OwE encHd h' h.size 25 s2 h2 ∧ OT encI h' h.size 3 h2 rm ∧ (rj = tabI p.length (joinF p.length (pb p))) ∧ (rm = tabI p.length (meetF p.length (pb p))) ∧ Ext h.size h h') := by
  have hl_vp := ht_vp.1
  refine fx_intro (n := 46) [(0, vp)] Try.func38 rfl rfl (by simp) ⟨rfl, trivial⟩ fun g0 => ?_
  refine wi_seq <| wi_reg rfl <| lx_assign (.slice none 0 0) rfl rfl <| lx_assign (.slice none 0 0) rfl rfl <| lx_nil <| wi_seq <| wi_reg rfl <| lx_assign (.slice none 0 0) rfl rfl <| lx_assign (.slice none 0 0) rfl rfl <| lx_nil <| wi_seq <| wi_seq <| wi_reg rfl <| lx_assign (.int .i64 0) rfl rfl <| lx_nil <| wi_block <| ?_
  refine wi_loop (σ := Nat × Value × (List Hdr) × (List (List Int)) × Value × (List Hdr) × (List (List Int))) (rngB 4 44 []) (fun (ss : Nat × Value × (List Hdr) × (List (List Int)) × Value × (List Hdr) × (List (List Int))) => [(6, .int .i64 ((ss.1 : Nat) : Int)), (4, ss.2.1), (5, ss.2.2.2.2.1)]) (fun (ss : Nat × Value × (List Hdr) × (List (List Int)) × Value × (List Hdr) × (List (List Int))) (hh : Heap) => OwE encHd hh h.size 25 ss.2.1 ss.2.2.1 ∧ OT encI hh h.size 3 ss.2.2.1 ss.2.2.2.1 ∧ OwE encHd hh h.size 25 ss.2.2.2.2.1 ss.2.2.2.2.2.1 ∧ OT encI hh h.size 3 ss.2.2.2.2.2.1 ss.2.2.2.2.2.2 ∧ Dj ss.2.1 ss.2.2.2.2.1 ∧ Ext h.size h hh ∧ (ss.1 ≤ p.length) ∧ (ss.2.2.2.1 = (List.range ss.1).map fun q => mapR p.length (joinF p.length (pb p) q)) ∧ (ss.2.2.2.2.2.2 = (List.range ss.1).map fun q => mapR p.length (meetF p.length (pb p) q))) (fun (ss : Nat × Value × (List Hdr) × (List (List Int)) × Value × (List Hdr) × (List (List Int))) => p.length - ss.1) (0, .slice none 0 0, [], [], .slice none 0 0, [], []) ⟨rfl, rfl, rfl, trivial⟩ ⟨?_, ?_, ?_, ?_, (dj_nil_l _), (Ext.refl _ _), ?_, ?_, ?_⟩ ?_
  · first | exact (owE_nil encHd _ h.size 25) | (simpa using (owE_nil encHd _ h.size 25))
  · first | exact (OT.nil encI _ h.size 3) | (simpa using (OT.nil encI _ h.size 3))
  · first | exact (owE_nil encHd _ h.size 25) | (simpa using (owE_nil encHd _ h.size 25))
  · first | exact (OT.nil encI _ h.size 3) | (simpa using (OT.nil encI _ h.size 3))
  · try dsimp only
    omega
  · try dsimp only
    first | done | rfl
  · try dsimp only
    first | done | rfl
  rintro g1 ⟨x, v, hv, r1, u, hu, r2⟩ hh1 ⟨ho1, hot1, ho2, hot2, hdj1, hx0_1, hx, hr1, hr2⟩ IH1
  dsimp only at *
  have hl1 : r1.length = x := by rw [hr1]; simp
  have hl2 : r2.length = x := by rw [hr2]; simp
  have hl_hot1 := hot1.1
  have hl_hot2 := hot2.1
  refine wi_seq <| wi_seq <| wi_reg rfl <| lx_move (.int .i64 ((x : Nat) : Int)) rfl rfl <| lx_move (vp) rfl rfl <| lx_len rfl Try.underlying23 hr_vp rfl <| lx_lssS rfl rfl rfl (fun c1 => ?_) (fun c1 => ?_)
  · refine lx_nil <| wi_true rfl <| wi_skip <| wi_seq <| wi_block <| wi_seq <| wi_reg rfl <| lx_assign (.slice none 0 0) rfl rfl <| lx_assign (.slice none 0 0) rfl rfl <| lx_nil <| wi_seq <| wi_seq <| wi_reg rfl <| lx_assign (.int .i64 0) rfl rfl <| lx_nil <| wi_block <| ?_
    refine wi_loop (σ := Nat × Value × (List Int) × Value × (List Int)) (rngB 16 36 [7, 8, 9]) (fun (ss : Nat × Value × (List Int) × Value × (List Int)) => [(9, .int .i64 ((ss.1 : Nat) : Int)), (7, ss.2.1), (8, ss.2.2.2.1)]) (fun (ss : Nat × Value × (List Int) × Value × (List Int)) (hh : Heap) => OwE encHd hh h.size 25 v hv ∧ OT encI hh h.size 3 hv r1 ∧ OwE encHd hh h.size 25 u hu ∧ OT encI hh h.size 3 hu r2 ∧ OwE encI hh h.size 3 ss.2.1 ss.2.2.1 ∧ OwE encI hh h.size 3 ss.2.2.2.1 ss.2.2.2.2 ∧ Dj v u ∧ Dj ss.2.1 ss.2.2.2.1 ∧ Djt hv ss.2.1 ∧ Djt hv ss.2.2.2.1 ∧ Djt hu ss.2.1 ∧ Djt hu ss.2.2.2.1 ∧ Ext h.size h hh ∧ (ss.1 ≤ p.length) ∧ (ss.2.2.1 = mapR ss.1 (joinF p.length (pb p) x)) ∧ (ss.2.2.2.2 = mapR ss.1 (meetF p.length (pb p) x))) (fun (ss : Nat × Value × (List Int) × Value × (List Int)) => p.length - ss.1) (0, .slice none 0 0, [], .slice none 0 0, []) ⟨rfl, rfl, rfl, trivial⟩ ⟨?_, ?_, ?_, ?_, ?_, ?_, hdj1, (dj_nil_l _), (djt_nil _), (djt_nil _), (djt_nil _), (djt_nil _), hx0_1, ?_, ?_, ?_⟩ ?_
    · first | exact ho1 | (simpa using ho1)
    · first | exact hot1 | (simpa using hot1)
    · first | exact ho2 | (simpa using ho2)
    · first | exact hot2 | (simpa using hot2)
    · first | exact (owE_nil encI _ h.size 3) | (simpa using (owE_nil encI _ h.size 3))
    · first | exact (owE_nil encI _ h.size 3) | (simpa using (owE_nil encI _ h.size 3))
    · try dsimp only
      omega
    · try dsimp only
      first | done | rfl
    · try dsimp only
      first | done | rfl
    rintro g2 ⟨y, a, la, b, lb⟩ hh2 ⟨ho3, hot3, ho4, hot4, ho5, ho6, hdj2, hdj3, hdt1, hdt2, hdt3, hdt4, hx0_2, hy, hla, hlb⟩ IH2
    dsimp only at *
    have hll : la.length = y := by rw [hla]; exact mapR_len _ _
    have hlm : lb.length = y := by rw [hlb]; exact mapR_len _ _
    have hl_hot3 := hot3.1
    have hl_hot4 := hot4.1
    refine wi_seq <| wi_seq <| wi_reg rfl <| lx_move (.int .i64 ((y : Nat) : Int)) rfl rfl <| lx_move (vp) rfl rfl <| lx_len rfl Try.underlying23 hr_vp rfl <| lx_lssS rfl rfl rfl (fun c2 => ?_) (fun c2 => ?_)
    · refine lx_nil <| wi_true rfl <| wi_skip <| wi_seq <| wi_block <| wi_seq <| wi_reg rfl <| lx_move (a) rfl rfl <| lx_move (vp) rfl rfl <| lx_move (.int .i64 ((x : Nat) : Int)) rfl rfl <| lx_move (.int .i64 ((y : Nat) : Int)) rfl rfl <| lx_call [vp, .int .i64 ((x : Nat) : Int), .int .i64 ((y : Nat) : Int)] rfl rfl Try.call88 rfl (join_spec hh2 vp hs p x y (hr_vp.extS hx0_2) (ht_vp.extS hx0_2) (by omega) (by first | with_reducible assumption | omega) (by omega) (by omega)) (fun _ _ _ => trivial) ?_
      rintro _ h1 ⟨rfl, rfl⟩
      refine lx_appendL (E := encI) (B := h.size) [joinF p.length (pb p) x y] [.int .i64 (joinF p.length (pb p) x y)] rfl rfl (fun _ => rfl) rfl eT25 rfl rfl rfl rfl ho5 (fun _ => rfl) (by show la.length + 1 ≤ _; omega) (by show (la.length + 1) * 8 ≤ _; omega) hx0_2.size (fun _ _ => trivial) fun u1 v1 h2 ho7 hc1 hg1 => ?_
      have hx0_3 := hx0_2.trans (ho5.ext hc1 hx0_2.size)
      have ho8 := ho3.chg hc1 (dj_ty ho3 ho5 (by decide))
      have ho9 := ho4.chg hc1 (dj_ty ho4 ho5 (by decide))
      have ho10 := ho6.chg hc1 (Dj.symm hdj3)
      have hot5 := hot3.chg hc1 hdt1
      have hot6 := hot4.chg hc1 hdt3
      refine lx_assign (v1) rfl rfl <| lx_nil <| wi_reg rfl <| lx_move (b) rfl rfl <| lx_move (vp) rfl rfl <| lx_move (.int .i64 ((x : Nat) : Int)) rfl rfl <| lx_move (.int .i64 ((y : Nat) : Int)) rfl rfl <| lx_call [vp, .int .i64 ((x : Nat) : Int), .int .i64 ((y : Nat) : Int)] rfl rfl Try.call91 rfl (meet_spec h2 vp hs p x y (hr_vp.extS hx0_3) (ht_vp.extS hx0_3) (by omega) (by first | with_reducible assumption | omega) (by omega) (by omega)) (fun _ _ _ => trivial) ?_
      rintro _ h3 ⟨rfl, hx1⟩
      have hx0_4 := hx0_3.trans2 hx1 hx0_3.size
      have ho11 := ho8.extS hx1
      have hot7 := hot5.extS hx1
      have ho12 := ho9.extS hx1
      have hot8 := hot6.extS hx1
      have ho13 := ho10.extS hx1
      have ho14 := ho7.extS hx1
      refine lx_appendL (E := encI) (B := h.size) [meetF p.length (pb p) x y] [.int .i64 (meetF p.length (pb p) x y)] rfl rfl (fun _ => rfl) rfl eT25 rfl rfl rfl rfl ho13 (fun _ => rfl) (by show lb.length + 1 ≤ _; omega) (by show (lb.length + 1) * 8 ≤ _; omega) hx0_4.size (fun _ _ => trivial) fun u2 v2 h4 ho15 hc2 hg2 => ?_
      have hx0_5 := hx0_4.trans (ho13.ext hc2 hx0_4.size)
      have ho16 := ho11.chg hc2 (dj_ty ho11 ho13 (by decide))
      have ho17 := ho12.chg hc2 (dj_ty ho12 ho13 (by decide))
      have ho18 := ho14.chg hc2 (Dj.symm (dj_app (Dj.symm hdj3) ho6 hg1))
      have hot9 := hot7.chg hc2 hdt2
      have hot10 := hot8.chg hc2 hdt4
      refine lx_assign (v2) rfl rfl <| lx_nil <| wi_inBlock <| wi_reg rfl <| lx_move (.int .i64 ((y : Nat) : Int)) rfl rfl <| lx_add (((y + 1 : Nat) : Int)) rfl rfl rfl (by omega) (by omega) (by omega) <| lx_assign (.int .i64 ((y + 1 : Nat) : Int)) rfl rfl <| lx_nil <| ?_
      -- L2.1
      refine IH2 _ _ (y + 1, v1, la ++ [joinF p.length (pb p) x y], v2, lb ++ [meetF p.length (pb p) x y]) (agree_ups rfl agree_self) ⟨rfl, rfl, rfl, trivial⟩ ⟨?_, ?_, ?_, ?_, ?_, ?_, hdj2, (dj_app (Dj.symm (dj_app (Dj.symm hdj3) ho6 hg1)) ho14 hg2), (djt_app hdt1 hot3 hg1), (djt_app hdt2 hot7 hg2), (djt_app hdt3 hot4 hg1), (djt_app hdt4 hot8 hg2), hx0_5, ?_, ?_, ?_⟩ ?_
      · first | exact ho16 | (simpa using ho16)
      · first | exact hot9 | (simpa using hot9)
      · first | exact ho17 | (simpa using ho17)
      · first | exact hot10 | (simpa using hot10)
      · first | exact ho18 | (simpa using ho18)
      · first | exact ho15 | (simpa using ho15)
      · try dsimp only
        omega
      · try dsimp only
        rw [hla]; exact mapR_snoc _ _
      · try dsimp only
        rw [hlb]; exact mapR_snoc _ _
      · first | omega | (dsimp only; omega)
    · have hot11 : OT encI hh2 h.size 3 (hv ++ [hdrOf a]) (r1 ++ [la]) := OT.snoc hot3 ho5 hdt1
      have hdt5 : Djt (hv ++ [hdrOf a]) b := djt_snoc hdt2 (hdr_rd ho5.rd) hdj3
      refine lx_nil <| wi_false rfl <| wi_exit rfl <| wi_seq <| wi_reg rfl <| lx_move (v) rfl rfl <| lx_move (a) rfl rfl <| lx_appendL (E := encHd) (B := h.size) [hdrOf a] [a] rfl rfl (fun _ => rfl) rfl eT49 rfl rfl (hdr_cells1 ho5.rd) rfl ho3 (fun _ => rfl) (by show hv.length + 1 ≤ _; omega) (by show (hv.length + 1) * 24 ≤ _; omega) hx0_2.size (fun _ _ => trivial) fun u3 v3 h5 ho19 hc3 hg3 => ?_
      have hx0_6 := hx0_2.trans (ho3.ext hc3 hx0_2.size)
      have ho20 := ho4.chg hc3 (Dj.symm hdj2)
      have ho21 := ho6.chg hc3 (dj_ty ho6 ho3 (by decide))
      have hot12 := hot4.chg hc3 (djt_ty hot4 ho3 (by decide))
      have hot13 : OT encI h5 h.size 3 (hv ++ [hdrOf a]) (r1 ++ [la]) := hot11.chg hc3 (djt_ty hot11 ho3 (by decide))
      have hl_hot13 := hot13.1
      have hot14 : OT encI h5 h.size 3 (hu ++ [hdrOf b]) (r2 ++ [lb]) := OT.snoc hot12 ho21 hdt4
      refine lx_assign (v3) rfl rfl <| lx_nil <| wi_reg rfl <| lx_move (u) rfl rfl <| lx_move (b) rfl rfl <| lx_appendL (E := encHd) (B := h.size) [hdrOf b] [b] rfl rfl (fun _ => rfl) rfl eT49 rfl rfl (hdr_cells1 ho21.rd) rfl ho20 (fun _ => rfl) (by show hu.length + 1 ≤ _; omega) (by show (hu.length + 1) * 24 ≤ _; omega) hx0_6.size (fun _ _ => trivial) fun u4 v4 h6 ho22 hc4 hg4 => ?_
      have hx0_7 := hx0_6.trans (ho20.ext hc4 hx0_6.size)
      have ho23 := ho19.chg hc4 (Dj.symm (dj_app (Dj.symm hdj2) ho4 hg3))
      have hot15 := hot13.chg hc4 (djt_ty hot13 ho20 (by decide))
      have hot16 : OT encI h6 h.size 3 (hu ++ [hdrOf b]) (r2 ++ [lb]) := hot14.chg hc4 (djt_ty hot14 ho20 (by decide))
      have hl_hot16 := hot16.1
      refine lx_assign (v4) rfl rfl <| lx_nil <| wi_inBlock <| wi_reg rfl <| lx_move (.int .i64 ((x : Nat) : Int)) rfl rfl <| lx_add (((x + 1 : Nat) : Int)) rfl rfl rfl (by omega) (by omega) (by omega) <| lx_assign (.int .i64 ((x + 1 : Nat) : Int)) rfl rfl <| lx_nil <| ?_
      -- L0.1
      refine IH1 _ _ (x + 1, v3, hv ++ [hdrOf a], r1 ++ [la], v4, hu ++ [hdrOf b], r2 ++ [lb]) (agree_ups rfl (agree_mix (rngB_sub (by decide) (by decide) rfl) (agree_ups rfl agree_self))) ⟨rfl, rfl, rfl, trivial⟩ ⟨?_, ?_, ?_, ?_, (dj_app (Dj.symm (dj_app (Dj.symm hdj2) ho4 hg3)) ho19 hg4), hx0_7, ?_, ?_, ?_⟩ ?_
      · first | exact ho23 | (simpa using ho23)
      · first | exact hot15 | (simpa using hot15)
      · first | exact ho22 | (simpa using ho22)
      · first | exact hot16 | (simpa using hot16)
      · try dsimp only
        omega
      · try dsimp only
        rw [hla, show y = p.length from by omega]; exact tabI_snoc hr1
      · try dsimp only
        rw [hlb, show y = p.length from by omega]; exact tabI_snoc hr2
      · first | omega | (dsimp only; omega)
  · refine lx_nil <| wi_false rfl <| wi_exit rfl <| wi_seq <| wi_reg rfl <| lx_move (v) rfl rfl <| lx_move (u) rfl rfl <| lx_assign (v) rfl rfl <| lx_assign (u) rfl rfl <| lx_nil <| ?_
    -- R1
    refine wi_ret ⟨.tuple #[v, u], (res_two rfl rfl rfl), ⟨v, u, hv, hu, r1, r2, rfl, ho1, hot1, ho2, hot2, ?_, ?_, hx0_1⟩⟩
    · rw [hr1, show x = p.length from by omega]; rfl
    · rw [hr2, show x = p.length from by omega]; rfl

set_option maxRecDepth 10000 in
theorem rdist_spec (h : Heap) (vp : Value) (hs : List Hdr) (p : List (List Bool)) (hr_vp : RdE encHd h vp hs) (ht_vp : RT encB h hs p) (hp1 : p.length ≤ 12) (hp2 : Sq p p.length) (hp3 : IsO p.length (pb p)) (hp4 : noGap p.length (pb p)) : Fx Try.prog 43 [vp] h (fun v h' => v = .bool (distB p.length (pb p)) ∧ Ext h.size h h') := by
  have hl_vp := ht_vp.1
  refine fx_intro (n := 64) [(0, vp)] Try.func43 rfl rfl (by simp) ⟨rfl, trivial⟩ fun g0 => ?_
  refine wi_seq <| wi_reg rfl <| lx_assign (.bool false) rfl rfl <| lx_nil <| wi_seq <| wi_reg rfl <| lx_move (vp) rfl rfl <| lx_call [vp] rfl rfl Try.call38 rfl (rlattice_spec h vp hs p hr_vp ht_vp (by omega) (by first | with_reducible assumption | omega)) (fun _ _ _ => trivial) ?_
  rintro _ h1 ⟨vj, vm, hj, hm, rj, rm, rfl, ho1, hot1, ho2, hot2, hrj, hrm, hx1⟩
  have ho3 := ho1.base (Nat.le_refl h.size)
  have hot3 := hot1.base (Nat.le_refl h.size)
  have hl_hot3 := hot3.1
  have ho4 := ho2.base (Nat.le_refl h.size)
  have hot4 := hot2.base (Nat.le_refl h.size)
  have hl_hot4 := hot4.1
  refine lx_move (.tuple #[vj, vm]) rfl rfl <| lx_extract (vj) rfl rfl rfl <| lx_extract (vm) rfl rfl rfl <| lx_assign (vj) rfl rfl <| lx_assign (vm) rfl rfl <| lx_nil <| wi_seq <| wi_seq <| wi_reg rfl <| lx_assign (.int .i64 0) rfl rfl <| lx_nil <| wi_block <| ?_
  refine wi_loop (σ := Nat) (rngB 13 64 [2, 5, 6, 7]) (fun (x : Nat) => [(5, .int .i64 ((x : Nat) : Int))]) (fun (x : Nat) (hh : Heap) => h1 = hh ∧ (x ≤ p.length) ∧ (∀ q r s, q < x → r < p.length → s < p.length → disE p q r s)) (fun (x : Nat) => p.length - x) 0 ⟨rfl, trivial⟩ ⟨rfl, ?_, ?_⟩ ?_
  · try dsimp only
    omega
  · try dsimp only
    intro q r s hq; omega
  rintro g1 x hh1 ⟨rfl, hx, ha⟩ IH1
  refine wi_seq <| wi_seq <| wi_reg rfl <| lx_move (.int .i64 ((x : Nat) : Int)) rfl rfl <| lx_move (vp) rfl rfl <| lx_len rfl Try.underlying23 hr_vp rfl <| lx_lssS rfl rfl rfl (fun c1 => ?_) (fun c1 => ?_)
  · refine lx_nil <| wi_true rfl <| wi_skip <| wi_seq <| wi_block <| wi_seq <| wi_reg rfl <| lx_assign (.int .i64 0) rfl rfl <| lx_nil <| wi_block <| ?_
    refine wi_loop (σ := Nat) (rngB 19 64 [2, 6, 7]) (fun (y : Nat) => [(6, .int .i64 ((y : Nat) : Int))]) (fun (y : Nat) (hh : Heap) => h1 = hh ∧ (y ≤ p.length) ∧ (∀ r s, r < y → s < p.length → disE p x r s)) (fun (y : Nat) => p.length - y) 0 ⟨rfl, trivial⟩ ⟨rfl, ?_, ?_⟩ ?_
    · try dsimp only
      omega
    · try dsimp only
      intro r s hr; omega
    rintro g2 y hh2 ⟨rfl, hy, hb⟩ IH2
    refine wi_seq <| wi_seq <| wi_reg rfl <| lx_move (.int .i64 ((y : Nat) : Int)) rfl rfl <| lx_move (vp) rfl rfl <| lx_len rfl Try.underlying23 hr_vp rfl <| lx_lssS rfl rfl rfl (fun c2 => ?_) (fun c2 => ?_)
    · refine lx_nil <| wi_true rfl <| wi_skip <| wi_seq <| wi_block <| wi_seq <| wi_reg rfl <| lx_assign (.int .i64 0) rfl rfl <| lx_nil <| wi_block <| ?_
      refine wi_loop (σ := Nat) (rngB 25 64 [2, 7]) (fun (z : Nat) => [(7, .int .i64 ((z : Nat) : Int))]) (fun (z : Nat) (hh : Heap) => h1 = hh ∧ (z ≤ p.length) ∧ (∀ s, s < z → disE p x y s)) (fun (z : Nat) => p.length - z) 0 ⟨rfl, trivial⟩ ⟨rfl, ?_, ?_⟩ ?_
      · try dsimp only
        omega
      · try dsimp only
        intro s hs9; omega
      rintro g3 z hh3 ⟨rfl, hz, hc⟩ IH3
      refine wi_seq <| wi_seq <| wi_reg rfl <| lx_move (.int .i64 ((z : Nat) : Int)) rfl rfl <| lx_move (vp) rfl rfl <| lx_len rfl Try.underlying23 hr_vp rfl <| lx_lssS rfl rfl rfl (fun c3 => ?_) (fun c3 => ?_)
      · refine lx_nil <| wi_true rfl <| wi_skip <| wi_seq <| wi_block <| wi_seq <| wi_draw mo rfl (by decide +kernel) <| ?_
        have hjl : rj.length = p.length := by rw [hrj]; exact tabI_len _ _
        have hml : rm.length = p.length := by rw [hrm]; exact tabI_len _ _
        have ha1 := jN_lt hp3 hp4 (show y < p.length by omega) (show z < p.length by omega)
        have ha2 := mN_lt hp3 hp4 (show x < p.length by omega) (show y < p.length by omega)
        have ha3 := mN_lt hp3 hp4 (show x < p.length by omega) (show z < p.length by omega)
        have hrl : ∀ i, i < p.length → (gt rj i).length = p.length := fun i hi => by rw [hrj]; exact tabI_row hi
        have hrl2 : ∀ i, i < p.length → (gt rm i).length = p.length := fun i hi => by rw [hrm]; exact tabI_row hi
        have hb1 := hrl y (by omega)
        have hb2 := hrl2 x (by omega)
        have hb3 := hrl _ ha2
        have hq1 : gt (gt rj y) z = ((jN p.length (pb p) y z : Nat) : Int) := by rw [hrj]; exact jN_nat hp3 hp4 (by omega) (by omega)
        have hq2 : gt (gt rm x) y = ((mN p.length (pb p) x y : Nat) : Int) := by rw [hrm]; exact mN_nat hp3 hp4 (by omega) (by omega)
        have hq3 : gt (gt rm x) z = ((mN p.length (pb p) x z : Nat) : Int) := by rw [hrm]; exact mN_nat hp3 hp4 (by omega) (by omega)
        have hq4 : gt (gt rm x) (jN p.length (pb p) y z) = ((mN p.length (pb p) x (jN p.length (pb p) y z) : Nat) : Int) := by rw [hrm]; exact mN_nat hp3 hp4 (by omega) ha1
        have hq5 : gt (gt rj (mN p.length (pb p) x y)) (mN p.length (pb p) x z) = ((jN p.length (pb p) (mN p.length (pb p) x y) (mN p.length (pb p) x z) : Nat) : Int) := by rw [hrj]; exact jN_nat hp3 hp4 ha2 ha3
        refine lx_move (vm) rfl rfl <| lx_move (.int .i64 ((x : Nat) : Int)) rfl rfl <| lx_ix (i := x) rfl eT49 ho4.rd rfl rfl (by omega) <| lx_ld (i := x) (j := 0) ((gt hm x).v) rfl rfl fl25 ho4.rd (by omega) rfl rfl <| lx_move (vj) rfl rfl <| lx_move (.int .i64 ((y : Nat) : Int)) rfl rfl <| lx_ix (i := y) rfl eT49 ho3.rd rfl rfl (by omega) <| lx_ld (i := y) (j := 0) ((gt hj y).v) rfl rfl fl25 ho3.rd (by omega) rfl rfl <| lx_move (.int .i64 ((z : Nat) : Int)) rfl rfl <| lx_ix (i := z) rfl eT25 (hot3.2.1 y (by omega)).rd rfl rfl (by omega) <| lx_ld (i := z) (j := 0) (.int .i64 ((jN p.length (pb p) y z : Nat) : Int)) rfl rfl fl3 (hot3.2.1 y (by omega)).rd (by omega) (by show some (Value.int .i64 (gt (gt rj y) z)) = _; rw [hq1]) rfl <| lx_ix (i := jN p.length (pb p) y z) rfl eT25 (hot4.2.1 x (by omega)).rd rfl rfl (by omega) <| lx_ld (i := jN p.length (pb p) y z) (j := 0) (.int .i64 ((mN p.length (pb p) x (jN p.length (pb p) y z) : Nat) : Int)) rfl rfl fl3 (hot4.2.1 x (by omega)).rd (by omega) (by show some (Value.int .i64 (gt (gt rm x) (jN p.length (pb p) y z))) = _; rw [hq4]) rfl <| lx_move (vj) rfl rfl <| lx_move (vm) rfl rfl <| lx_move (.int .i64 ((x : Nat) : Int)) rfl rfl <| lx_ix (i := x) rfl eT49 ho4.rd rfl rfl (by omega) <| lx_ld (i := x) (j := 0) ((gt hm x).v) rfl rfl fl25 ho4.rd (by omega) rfl rfl <| lx_move (.int .i64 ((y : Nat) : Int)) rfl rfl <| lx_ix (i := y) rfl eT25 (hot4.2.1 x (by omega)).rd rfl rfl (by omega) <| lx_ld (i := y) (j := 0) (.int .i64 ((mN p.length (pb p) x y : Nat) : Int)) rfl rfl fl3 (hot4.2.1 x (by omega)).rd (by omega) (by show some (Value.int .i64 (gt (gt rm x) y)) = _; rw [hq2]) rfl <| lx_ix (i := mN p.length (pb p) x y) rfl eT49 ho3.rd rfl rfl (by omega) <| lx_ld (i := mN p.length (pb p) x y) (j := 0) ((gt hj (mN p.length (pb p) x y)).v) rfl rfl fl25 ho3.rd (by omega) rfl rfl <| lx_move (vm) rfl rfl <| lx_move (.int .i64 ((x : Nat) : Int)) rfl rfl <| lx_ix (i := x) rfl eT49 ho4.rd rfl rfl (by omega) <| lx_ld (i := x) (j := 0) ((gt hm x).v) rfl rfl fl25 ho4.rd (by omega) rfl rfl <| lx_move (.int .i64 ((z : Nat) : Int)) rfl rfl <| lx_ix (i := z) rfl eT25 (hot4.2.1 x (by omega)).rd rfl rfl (by omega) <| lx_ld (i := z) (j := 0) (.int .i64 ((mN p.length (pb p) x z : Nat) : Int)) rfl rfl fl3 (hot4.2.1 x (by omega)).rd (by omega) (by show some (Value.int .i64 (gt (gt rm x) z)) = _; rw [hq3]) rfl <| lx_ix (i := mN p.length (pb p) x z) rfl eT25 (hot3.2.1 (mN p.length (pb p) x y) (by omega)).rd rfl rfl (by omega) <| lx_ld (i := mN p.length (pb p) x z) (j := 0) (.int .i64 ((jN p.length (pb p) (mN p.length (pb p) x y) (mN p.length (pb p) x z) : Nat) : Int)) rfl rfl fl3 (hot3.2.1 (mN p.length (pb p) x y) (by omega)).rd (by omega) (by show some (Value.int .i64 (gt (gt rj (mN p.length (pb p) x y)) (mN p.length (pb p) x z))) = _; rw [hq5]) rfl <| lx_neqS rfl rfl rfl (fun c4 => ?_) (fun c4 => ?_)
        · refine lx_nil <| wi_true rfl <| wi_seq <| wi_reg rfl <| lx_assign (.bool false) rfl rfl <| lx_nil <| ?_
          -- R1
          refine wi_ret ⟨.bool false, (res_one rfl rfl), ⟨?_, hx1⟩⟩
          · congr 1; symm; rw [Bool.eq_false_iff]; intro h9; have := distB_iff.1 h9 x y z (by omega) (by omega) (by omega); omega
        · refine lx_nil <| wi_false rfl <| wi_skip <| wi_inBlock <| wi_reg rfl <| lx_move (.int .i64 ((z : Nat) : Int)) rfl rfl <| lx_add (((z + 1 : Nat) : Int)) rfl rfl rfl (by omega) (by omega) (by omega) <| lx_assign (.int .i64 ((z + 1 : Nat) : Int)) rfl rfl <| lx_nil <| ?_
          -- L4.1
          refine IH3 _ _ (z + 1) (agree_ups rfl agree_self) ⟨rfl, trivial⟩ ⟨rfl, ?_, ?_⟩ ?_
          · try dsimp only
            omega
          · try dsimp only
            intro s hs9
            by_cases e : s = z
            · subst e; unfold disE; omega
            · exact hc s (by omega)
          · first | omega | (dsimp only; omega)
      · refine lx_nil <| wi_false rfl <| wi_exit rfl <| wi_inBlock <| wi_reg rfl <| lx_move (.int .i64 ((y : Nat) : Int)) rfl rfl <| lx_add (((y + 1 : Nat) : Int)) rfl rfl rfl (by omega) (by omega) (by omega) <| lx_assign (.int .i64 ((y + 1 : Nat) : Int)) rfl rfl <| lx_nil <| ?_
        -- L2.1
        refine IH2 _ _ (y + 1) (agree_ups rfl (agree_mix (rngB_sub (by decide) (by decide) rfl) (agree_ups rfl agree_self))) ⟨rfl, trivial⟩ ⟨rfl, ?_, ?_⟩ ?_
        · try dsimp only
          omega
        · try dsimp only
          intro r s hr hs9
          by_cases e : r = y
          · subst e; exact hc s (by omega)
          · exact hb r s (by omega) hs9
        · first | omega | (dsimp only; omega)
    · refine lx_nil <| wi_false rfl <| wi_exit rfl <| wi_inBlock <| wi_reg rfl <| lx_move (.int .i64 ((x : Nat) : Int)) rfl rfl <| lx_add (((x + 1 : Nat) : Int)) rfl rfl rfl (by omega) (by omega) (by omega) <| lx_assign (.int .i64 ((x + 1 : Nat) : Int)) rfl rfl <| lx_nil <| ?_
      -- L0.1
      refine IH1 _ _ (x + 1) (agree_ups rfl (agree_mix (rngB_sub (by decide) (by decide) rfl) (agree_ups rfl agree_self))) ⟨rfl, trivial⟩ ⟨rfl, ?_, ?_⟩ ?_
      · try dsimp only
        omega
      · try dsimp only
        intro q r s hq hr hs9
        by_cases e : q = x
        · subst e; exact hb r s (by omega) hs9
        · exact ha q r s (by omega) hr hs9
      · first | omega | (dsimp only; omega)
  · refine lx_nil <| wi_false rfl <| wi_exit rfl <| wi_seq <| wi_reg rfl <| lx_assign (.bool true) rfl rfl <| lx_nil <| ?_
    -- R2
    refine wi_ret ⟨.bool true, (res_one rfl rfl), ⟨?_, hx1⟩⟩
    · congr 1; exact (distB_iff.2 fun q r s hq hr hs9 => ha q r s (by omega) hr hs9).symm

set_option maxRecDepth 10000 in
theorem rbirk_spec (h : Heap) (vp : Value) (hs : List Hdr) (p : List (List Bool)) (hr_vp : RdE encHd h vp hs) (ht_vp : RT encB h hs p) (hp1 : p.length ≤ 12) (hp2 : Sq p p.length) : Fx Try.prog 44 [vp] h (fun v h' => ∃ (s : Value), v = s ∧ OwE encI h' h.size 3 s (birF p.length (pb p)) ∧ Ext h.size h h') := by
  have hl_vp := ht_vp.1
  refine fx_intro (n := 42) [(0, vp)] Try.func44 rfl rfl (by simp) ⟨rfl, trivial⟩ fun g0 => ?_
  refine wi_seq <| wi_reg rfl <| lx_assign (.slice none 0 0) rfl rfl <| lx_nil <| wi_seq <| wi_reg rfl <| lx_move (vp) rfl rfl <| lx_call [vp] rfl rfl Try.call40 rfl (rjoinEls_spec h vp hs p hr_vp ht_vp (by omega) (by first | with_reducible assumption | omega)) (fun _ _ _ => trivial) ?_
  rintro v1 h1 ⟨_, rfl, ho1, hx1⟩
  have ho2 := ho1.base (Nat.le_refl h.size)
  refine lx_assign (v1) rfl rfl <| lx_nil <| wi_seq <| wi_reg rfl <| lx_assign (.slice none 0 0) rfl rfl <| lx_nil <| wi_seq <| wi_seq <| wi_reg rfl <| lx_assign (.int .i64 0) rfl rfl <| lx_nil <| wi_block <| ?_
  refine wi_loop (σ := Nat × Value × (List Int)) (rngB 10 41 [4, 5, 6, 7]) (fun (ss : Nat × Value × (List Int)) => [(5, .int .i64 ((ss.1 : Nat) : Int)), (4, ss.2.1)]) (fun (ss : Nat × Value × (List Int)) (hh : Heap) => OwE encI hh h.size 3 ss.2.1 ss.2.2 ∧ OwE encI hh h.size 3 v1 ((jelF p.length (pb p))) ∧ Dj ss.2.1 v1 ∧ Ext h.size h hh ∧ (ss.1 ≤ p.length) ∧ (ss.2.2 = mapR ss.1 fun q => ((birK (pb p) (jelF p.length (pb p)) (jelF p.length (pb p)).length q : Nat) : Int))) (fun (ss : Nat × Value × (List Int)) => p.length - ss.1) (0, .slice none 0 0, []) ⟨rfl, rfl, trivial⟩ ⟨?_, ?_, (dj_nil_l _), hx1, ?_, ?_⟩ ?_
  · first | exact (owE_nil encI _ h.size 3) | (simpa using (owE_nil encI _ h.size 3))
  · first | exact ho2 | (simpa using ho2)
  · try dsimp only
    omega
  · try dsimp only
    first | done | rfl
  rintro g1 ⟨x, v, xs⟩ hh1 ⟨ho3, ho4, hdj1, hx0_1, hx, hxs⟩ IH1
  dsimp only at *
  have hxl : xs.length = x := by rw [hxs]; exact mapR_len _ _
  refine wi_seq <| wi_seq <| wi_reg rfl <| ?_
  have hjl := jel_len p.length (pb p)
  refine lx_move (.int .i64 ((x : Nat) : Int)) rfl rfl <| lx_move (vp) rfl rfl <| lx_len rfl Try.underlying23 hr_vp rfl <| lx_lssS rfl rfl rfl (fun c1 => ?_) (fun c1 => ?_)
  · refine lx_nil <| wi_true rfl <| wi_skip <| wi_seq <| wi_block <| wi_seq <| wi_reg rfl <| lx_assign (.int .i64 0) rfl rfl <| lx_nil <| wi_seq <| wi_seq <| wi_reg rfl <| lx_assign (.int .i64 0) rfl rfl <| lx_nil <| wi_block <| ?_
    refine wi_loop (σ := Nat × Nat) (rngB 16 37 [6, 7]) (fun (ss : Nat × Nat) => [(7, .int .i64 ((ss.1 : Nat) : Int)), (6, .int .i64 ((ss.2 : Nat) : Int))]) (fun (ss : Nat × Nat) (hh : Heap) => hh1 = hh ∧ (ss.1 ≤ (jelF p.length (pb p)).length) ∧ (ss.2 = birK (pb p) (jelF p.length (pb p)) ss.1 x)) (fun (ss : Nat × Nat) => (jelF p.length (pb p)).length - ss.1) (0, 0) ⟨rfl, rfl, trivial⟩ ⟨rfl, ?_, ?_⟩ ?_
    · try dsimp only
      omega
    · try dsimp only
      first | done | rfl
    rintro g2 ⟨k, o⟩ hh2 ⟨rfl, hk, ho⟩ IH2
    dsimp only at *
    refine wi_seq <| wi_seq <| wi_reg rfl <| lx_move (.int .i64 ((k : Nat) : Int)) rfl rfl <| lx_move (v1) rfl rfl <| lx_len rfl Try.underlying25 ho4.rd rfl <| lx_lssS rfl rfl rfl (fun c2 => ?_) (fun c2 => ?_)
    · refine lx_nil <| wi_true rfl <| wi_skip <| wi_seq <| wi_block <| wi_seq <| wi_reg rfl <| ?_
      obtain ⟨a, hga, ha4, _⟩ := jel_at (show k < (jelF p.length (pb p)).length by omega)
      refine lx_move (vp) rfl rfl <| lx_move (v1) rfl rfl <| lx_move (.int .i64 ((k : Nat) : Int)) rfl rfl <| lx_ix (i := k) rfl eT25 ho4.rd rfl rfl (by omega) <| lx_ld (i := k) (j := 0) (.int .i64 ((a : Nat) : Int)) rfl rfl fl3 ho4.rd (by omega) (by show some (Value.int .i64 (gt (jelF p.length (pb p)) k)) = _; rw [hga]) rfl <| lx_ix (i := a) rfl eT23 hr_vp rfl rfl (by omega) <| lx_ld (i := a) (j := 0) ((gt hs a).v) rfl rfl fl70 (hr_vp.extS hx0_1) (by omega) rfl rfl <| lx_move (.int .i64 ((x : Nat) : Int)) rfl rfl <| lx_ix (i := x) rfl eT70 (ht_vp.2 a (by omega)) rfl rfl (by rw [hp2.2 a (by omega)]; omega) <| lx_ld (i := x) (j := 0) (.bool (gt (gt p a) x)) rfl rfl fl4 ((ht_vp.extS hx0_1).2 a (by omega)) (by rw [hp2.2 a (by omega)]; omega) rfl rfl <| lx_nil <| wi_condS (t := gt (gt p a) x) rfl (fun c3 => ?_) (fun c3 => ?_)
      · refine wi_reg rfl <| ?_
        have hak : pb p (gt (jelF p.length (pb p)) k).toNat x = true := by rw [hga]; assumption
        have hpw := pow12 (show k ≤ 12 by omega)
        have hpw1 := pow12 (show k + 1 ≤ 12 by omega)
        have hlt := birK_lt (pb p) (jelF p.length (pb p)) k x
        have hlt2 := birK_lt (pb p) (jelF p.length (pb p)) (k + 1) x
        have hor := birK_yes hak
        rw [← ho] at hlt hor
        refine lx_move (.int .i64 ((o : Nat) : Int)) rfl rfl <| lx_move (.int .i64 ((k : Nat) : Int)) rfl rfl <| lx_conv ((k : Nat) : Int) rfl Try.underlying3 Try.underlying45 rfl (wrap_u64 (by omega) (by omega)) <| lx_shl (m := 1) (n := k) rfl rfl rfl (by show _ ≤ 64; omega) (wrap_i64 (by omega) (by omega)) <| lx_or (m := o) (n := 1 * 2 ^ k) rfl rfl rfl (by show _ < 2 ^ 64; omega) (by show _ < 2 ^ 64; omega) (wrap_i64 (by omega) (by omega)) <| lx_assign (.int .i64 ((o ||| (1 * 2 ^ k) : Nat) : Int)) rfl rfl <| lx_nil <| wi_inBlock <| wi_reg rfl <| lx_move (.int .i64 ((k : Nat) : Int)) rfl rfl <| lx_add (((k + 1 : Nat) : Int)) rfl rfl rfl (by omega) (by omega) (by omega) <| lx_assign (.int .i64 ((k + 1 : Nat) : Int)) rfl rfl <| lx_nil <| ?_
        -- L2.1
        refine IH2 _ _ (k + 1, o ||| (1 * 2 ^ k)) (agree_ups rfl agree_self) ⟨rfl, rfl, trivial⟩ ⟨rfl, ?_, ?_⟩ ?_
        · try dsimp only
          omega
        · try dsimp only
          exact hor
        · first | omega | (dsimp only; omega)
      · refine wi_skip <| wi_inBlock <| wi_reg rfl <| lx_move (.int .i64 ((k : Nat) : Int)) rfl rfl <| lx_add (((k + 1 : Nat) : Int)) rfl rfl rfl (by omega) (by omega) (by omega) <| lx_assign (.int .i64 ((k + 1 : Nat) : Int)) rfl rfl <| lx_nil <| ?_
        -- L2.2
        refine IH2 _ _ (k + 1, o) (agree_ups rfl agree_self) ⟨rfl, rfl, trivial⟩ ⟨rfl, ?_, ?_⟩ ?_
        · try dsimp only
          omega
        · try dsimp only
          rw [ho]; exact birK_no (by rw [hga]; assumption)
        · first | omega | (dsimp only; omega)
    · refine lx_nil <| wi_false rfl <| wi_exit rfl <| wi_reg rfl <| lx_move (v) rfl rfl <| lx_move (.int .i64 ((o : Nat) : Int)) rfl rfl <| lx_appendL (E := encI) (B := h.size) [((o : Nat) : Int)] [.int .i64 ((o : Nat) : Int)] rfl rfl (fun _ => rfl) rfl eT25 rfl rfl rfl rfl ho3 (fun _ => rfl) (by show xs.length + 1 ≤ _; omega) (by show (xs.length + 1) * 8 ≤ _; omega) hx0_1.size (fun _ _ => trivial) fun u1 v2 h2 ho5 hc1 hg1 => ?_
      have hx0_2 := hx0_1.trans (ho3.ext hc1 hx0_1.size)
      have ho6 := ho4.chg hc1 (Dj.symm hdj1)
      refine lx_assign (v2) rfl rfl <| lx_nil <| wi_inBlock <| wi_reg rfl <| lx_move (.int .i64 ((x : Nat) : Int)) rfl rfl <| lx_add (((x + 1 : Nat) : Int)) rfl rfl rfl (by omega) (by omega) (by omega) <| lx_assign (.int .i64 ((x + 1 : Nat) : Int)) rfl rfl <| lx_nil <| ?_
      -- L0.1
      refine IH1 _ _ (x + 1, v2, xs ++ [((o : Nat) : Int)]) (agree_ups rfl (agree_mix (rngB_sub (by decide) (by decide) rfl) (agree_ups rfl agree_self))) ⟨rfl, rfl, trivial⟩ ⟨?_, ?_, (Dj.symm (dj_app (Dj.symm hdj1) ho4 hg1)), hx0_2, ?_, ?_⟩ ?_
      · first | exact ho5 | (simpa using ho5)
      · first | exact ho6 | (simpa using ho6)
      · try dsimp only
        omega
      · try dsimp only
        rw [hxs, ho, show k = (jelF p.length (pb p)).length from by omega]; exact mapR_snoc _ _
      · first | omega | (dsimp only; omega)
  · refine lx_nil <| wi_false rfl <| wi_exit rfl <| wi_seq <| wi_reg rfl <| lx_move (v) rfl rfl <| lx_assign (v) rfl rfl <| lx_nil <| ?_
    -- R1
    refine wi_ret ⟨v, (res_one rfl rfl), ⟨v, rfl, ?_, hx0_1⟩⟩
    · rw [show birF p.length (pb p) = xs from by rw [hxs, show x = p.length from by omega]; rfl]; exact ho3

set_option maxRecDepth 10000 in
theorem rows9_spec (h : Heap) (va : Value) (ha : List Hdr) (p : List (List Int)) (vb : Value) (hb : List Hdr) (q : List (List Int)) (hr_va : RdE encHd h va ha) (ht_va : RT encI h ha p) (hr_vb : RdE encHd h vb hb) (ht_vb : RT encI h hb q) (hp1 : p.length ≤ 4096) (hp2 : q.length ≤ 4096) (hp3 : ∀ i, i < p.length → (gt p i).length ≤ 4096) (hp4 : ∀ i, i < q.length → (gt q i).length ≤ 4096) : Fx Try.prog 39 [va, vb] h (fun v h' => v = .bool (decide (p = q)) ∧ h = h') := by
  have hl_va := ht_va.1
  have hl_vb := ht_vb.1
  refine fx_intro (n := 27) [(0, va), (1, vb)] Try.func39 rfl rfl (by simp) ⟨rfl, rfl, trivial⟩ fun g0 => ?_
  refine wi_seq <| wi_reg rfl <| lx_assign (.bool false) rfl rfl <| lx_nil <| wi_seq <| wi_seq <| wi_reg rfl <| lx_move (va) rfl rfl <| lx_len rfl Try.underlying49 hr_va rfl <| lx_move (vb) rfl rfl <| lx_len rfl Try.underlying49 hr_vb rfl <| lx_neqS rfl rfl rfl (fun c1 => ?_) (fun c1 => ?_)
  · refine lx_nil <| wi_true rfl <| wi_seq <| wi_reg rfl <| lx_assign (.bool false) rfl rfl <| lx_nil <| ?_
    -- R1
    refine wi_ret ⟨.bool false, (res_one rfl rfl), ⟨?_, rfl⟩⟩
    · congr 1; exact (decide_eq_false fun e => c1 (by rw [hl_va, hl_vb, e])).symm
  · refine lx_nil <| wi_false rfl <| wi_skip <| wi_seq <| wi_seq <| wi_reg rfl <| lx_assign (.int .i64 0) rfl rfl <| lx_nil <| wi_block <| ?_
    refine wi_loop (σ := Nat) (rngB 11 27 [4, 5]) (fun (i : Nat) => [(5, .int .i64 ((i : Nat) : Int))]) (fun (i : Nat) (hh : Heap) => h = hh ∧ (i ≤ p.length) ∧ (∀ j, j < i → gt p j = gt q j)) (fun (i : Nat) => p.length - i) 0 ⟨rfl, trivial⟩ ⟨rfl, ?_, ?_⟩ ?_
    · try dsimp only
      omega
    · try dsimp only
      intro j hj; omega
    rintro g1 i hh1 ⟨rfl, hi, he⟩ IH1
    refine wi_seq <| wi_seq <| wi_reg rfl <| lx_move (.int .i64 ((i : Nat) : Int)) rfl rfl <| lx_move (va) rfl rfl <| lx_len rfl Try.underlying49 hr_va rfl <| lx_lssS rfl rfl rfl (fun c2 => ?_) (fun c2 => ?_)
    · refine lx_nil <| wi_true rfl <| wi_skip <| wi_seq <| wi_block <| wi_seq <| wi_drawS (fun h9 => h = h9) (fun o => match o.dst with | some 20 | some 24 => .free | _ => kindOf o) mo rfl (by decide +kernel) rfl <| ?_
      have hq3 := hp3 i (by omega)
      have hq4 := hp4 i (by omega)
      refine lx_move (va) rfl rfl <| lx_move (.int .i64 ((i : Nat) : Int)) rfl rfl <| lx_ix (i := i) rfl eT49 hr_va rfl rfl (by omega) <| lx_ldF (i := i) (j := 0) ((gt ha i).v) rfl fl25 (fun _ e9 => e9 ▸ hr_va) (by omega) rfl rfl <| lx_move (vb) rfl rfl <| lx_move (.int .i64 ((i : Nat) : Int)) rfl rfl <| lx_ix (i := i) rfl eT49 hr_vb rfl rfl (by omega) <| lx_ldF (i := i) (j := 0) ((gt hb i).v) rfl fl25 (fun _ e9 => e9 ▸ hr_vb) (by omega) rfl rfl <| lx_call [(gt ha i).v, (gt hb i).v] rfl rfl Try.call19 rfl (ints_spec h ((gt ha i).v) (gt p i) ((gt hb i).v) (gt q i) (ht_va.2 i (by omega)) (ht_vb.2 i (by omega)) (by omega) (by omega)) (by rintro _ _ ⟨_, e⟩; exact e) ?_
      rintro _ h1 ⟨rfl, rfl⟩
      refine lx_not rfl rfl <| lx_nil <| wi_condS (t := !(decide ((gt p i) = (gt q i)))) rfl (fun c3 => ?_) (fun c3 => ?_)
      · refine wi_seq <| wi_reg rfl <| lx_assign (.bool false) rfl rfl <| lx_nil <| ?_
        -- R2
        refine wi_ret ⟨.bool false, (res_one rfl rfl), ⟨?_, rfl⟩⟩
        · congr 1; exact (decide_eq_false fun e => by rw [e] at c3; simp at c3).symm
      · refine wi_skip <| wi_inBlock <| wi_reg rfl <| lx_move (.int .i64 ((i : Nat) : Int)) rfl rfl <| lx_add (((i + 1 : Nat) : Int)) rfl rfl rfl (by omega) (by omega) (by omega) <| lx_assign (.int .i64 ((i + 1 : Nat) : Int)) rfl rfl <| lx_nil <| ?_
        -- L0.1
        refine IH1 _ _ (i + 1) (agree_ups rfl agree_self) ⟨rfl, trivial⟩ ⟨rfl, ?_, ?_⟩ ?_
        · try dsimp only
          omega
        · try dsimp only
          intro j hj
          by_cases e : j = i
          · subst e; simpa using c3
          · exact he j (by omega)
        · first | omega | (dsimp only; omega)
    · refine lx_nil <| wi_false rfl <| wi_exit rfl <| wi_seq <| wi_reg rfl <| lx_assign (.bool true) rfl rfl <| lx_nil <| ?_
      -- R3
      refine wi_ret ⟨.bool true, (res_one rfl rfl), ⟨?_, rfl⟩⟩
      · congr 1; exact (decide_eq_true (gt_ext (by omega) fun j hj => he j (by omega))).symm

end Go.Proofs.Ytdokijbdnajhgaa
namespace Go.Proofs.Ytdokijbdnajhgaa
open Go Go.X

theorem opnC_of {p : List (List Bool)} (h : chkT p = 0) (hg : ngB p.length (pb p) = true) : opnC p = 0 := by unfold opnC; rw [if_pos h, if_pos hg]
def bothB (n : Nat) (f : Nat → Nat → Bool) (x y : Nat) (j m : Int) : Bool := decide (joinF n f x y = j) && decide (meetF n f x y = m)
theorem badZ_form {p : List (List Bool)} {o i : Int} {a b c : Nat} (hz : opnC p = 0) (ho : IsO p.length (pb p)) (hg : noGap p.length (pb p)) (h1 : 0 ≤ o ∧ o < p.length) (h2 : 0 ≤ i ∧ i < p.length) (ha : a < p.length) (hb : b < p.length) (hc : c < p.length)
    (hd : [o, (a : Int), (b : Int), (c : Int), i].Nodup) : badZ p o a b c i ↔ bothB p.length (pb p) a c i o = true ∧ bothB p.length (pb p) b c i o = true ∧ ((decide (a ≠ b) && pb p a b) = true ∨ bothB p.length (pb p) a b i o = true) := by
  obtain ⟨on, rfl⟩ : ∃ on : Nat, o = (on : Int) := ⟨o.toNat, by omega⟩
  obtain ⟨xn, rfl⟩ : ∃ xn : Nat, i = (xn : Int) := ⟨i.toNat, by omega⟩
  constructor
  · rintro ⟨_, _, h⟩
    have h9 : badP p.length (pb p) on a b c xn := h
    obtain ⟨_, k1, k2, k3⟩ := (bad_dec ho hg ha hb hc).1 h9
    exact ⟨k1, k2, k3⟩
  · rintro ⟨k1, k2, k3⟩
    exact ⟨hz, ⟨⟨by omega, by omega⟩, ⟨by omega, by omega⟩, ⟨by omega, by omega⟩, ⟨by omega, by omega⟩, ⟨by omega, by omega⟩⟩, (bad_dec ho hg ha hb hc).2 ⟨hd, k1, k2, k3⟩⟩
/-- The same of five numbers that are a list. -/
abbrev badL (p : List (List Bool)) (xs : List Int) : Prop := badZ p (gt xs 0) (gt xs 1) (gt xs 2) (gt xs 3) (gt xs 4)
theorem badL_rng {p : List (List Bool)} {xs : List Int} (h : badL p xs) : ∀ j, j < 5 → 0 ≤ gt xs j ∧ gt xs j < p.length := by
  obtain ⟨_, ⟨h0, h1, h2, h3, h4⟩, _⟩ := h
  intro j hj
  rcases (by omega : j = 0 ∨ j = 1 ∨ j = 2 ∨ j = 3 ∨ j = 4) with rfl | rfl | rfl | rfl | rfl
  · exact h0
  · exact h1
  · exact h2
  · exact h3
  · exact h4
theorem badL_dif {p : List (List Bool)} {xs : List Int} (h : badL p xs) : ∀ j k, k < j → j < 5 → gt xs j ≠ gt xs k := by
  obtain ⟨_, _, ⟨h1, h2, h3, h4, h5, h6, h7, h8, h9, h10⟩, _⟩ := h
  intro j k hk hj
  rcases (by omega : (j = 1 ∧ k = 0) ∨ (j = 2 ∧ k = 0) ∨ (j = 2 ∧ k = 1) ∨ (j = 3 ∧ k = 0) ∨ (j = 3 ∧ k = 1) ∨ (j = 3 ∧ k = 2) ∨ (j = 4 ∧ k = 0) ∨ (j = 4 ∧ k = 1) ∨ (j = 4 ∧ k = 2) ∨ (j = 4 ∧ k = 3)) with ⟨rfl, rfl⟩ | ⟨rfl, rfl⟩ | ⟨rfl, rfl⟩ | ⟨rfl, rfl⟩ | ⟨rfl, rfl⟩ | ⟨rfl, rfl⟩ | ⟨rfl, rfl⟩ | ⟨rfl, rfl⟩ | ⟨rfl, rfl⟩ | ⟨rfl, rfl⟩
  · exact fun e => h1 (congrArg Int.toNat e.symm)
  · exact fun e => h2 (congrArg Int.toNat e.symm)
  · exact fun e => h5 (congrArg Int.toNat e.symm)
  · exact fun e => h3 (congrArg Int.toNat e.symm)
  · exact fun e => h6 (congrArg Int.toNat e.symm)
  · exact fun e => h8 (congrArg Int.toNat e.symm)
  · exact fun e => h4 (congrArg Int.toNat e.symm)
  · exact fun e => h7 (congrArg Int.toNat e.symm)
  · exact fun e => h9 (congrArg Int.toNat e.symm)
  · exact fun e => h10 (congrArg Int.toNat e.symm)
theorem nodup_of {xs : List Int} (h : ∀ j k, k < j → j < 5 → gt xs j ≠ gt xs k) : [gt xs 0, gt xs 1, gt xs 2, gt xs 3, gt xs 4].Nodup := by
  have h1 := h 1 0 (by omega) (by omega)
  have h2 := h 2 0 (by omega) (by omega)
  have h3 := h 2 1 (by omega) (by omega)
  have h4 := h 3 0 (by omega) (by omega)
  have h5 := h 3 1 (by omega) (by omega)
  have h6 := h 3 2 (by omega) (by omega)
  have h7 := h 4 0 (by omega) (by omega)
  have h8 := h 4 1 (by omega) (by omega)
  have h9 := h 4 2 (by omega) (by omega)
  have h10 := h 4 3 (by omega) (by omega)
  simp only [List.nodup_cons, List.mem_cons, List.not_mem_nil, or_false, not_or, List.nodup_nil, not_false_eq_true, and_true]
  omega
/-- What is wrong with a lattice that is to be distributive. -/
def birC (p : List (List Bool)) : Int := if opnC p = 0 then (if distB p.length (pb p) then 0 else 91) else opnC p
/-- The numbers of sets of atoms. -/
def atL (n : Nat) (f : Nat → Nat → Bool) : List Int := filtF n (rbF n f (loN n f))
def crF (n : Nat) (f : Nat → Nat → Bool) : List Int := crL n f (loN n f) (hiN n f) (atL n f) (2 ^ (atL n f).length)
theorem atL_at {n k : Nat} {f : Nat → Nat → Bool} (h : k < (atL n f).length) : ∃ a : Nat, gt (atL n f) k = (a : Int) ∧ a < n ∧ rbF n f (loN n f) a = true := filtF_gt h
theorem atL_rng {n : Nat} {f : Nat → Nat → Bool} : ∀ i, i < (atL n f).length → (gt (atL n f) i).toNat < n := fun i hi => by
  obtain ⟨a, h1, h2, _⟩ := atL_at hi
  rw [h1]; exact h2
theorem atL_len (n : Nat) (f : Nat → Nat → Bool) : (atL n f).length ≤ n := filtF_length _ _

set_option maxRecDepth 10000 in
theorem both_spec (h : Heap) (vp : Value) (hs : List Hdr) (p : List (List Bool)) (x : Nat) (y : Nat) (j : Int) (k : Int) (hr_vp : RdE encHd h vp hs) (ht_vp : RT encB h hs p) (hp1 : p.length ≤ 12) (hp2 : Sq p p.length) (hp3 : x < p.length) (hp4 : y < p.length) : Fx Try.prog 101 [vp, .int .i64 ((x : Nat) : Int), .int .i64 ((y : Nat) : Int), .int .i64 j, .int .i64 k] h (fun v h' => v = .bool (bothB p.length (pb p) x y j k) ∧ Ext h.size h h') := by
  have hl_vp := ht_vp.1
  refine fx_intro (n := 25) [(0, vp), (1, .int .i64 ((x : Nat) : Int)), (2, .int .i64 ((y : Nat) : Int)), (3, .int .i64 j), (4, .int .i64 k)] Try.func101 rfl rfl (by simp) ⟨rfl, rfl, rfl, rfl, rfl, trivial⟩ fun g0 => ?_
  refine wi_seq <| wi_reg rfl <| lx_assign (.bool false) rfl rfl <| lx_nil <| wi_seq <| wi_reg rfl <| lx_move (vp) rfl rfl <| lx_move (.int .i64 ((x : Nat) : Int)) rfl rfl <| lx_move (.int .i64 ((y : Nat) : Int)) rfl rfl <| lx_call [vp, .int .i64 ((x : Nat) : Int), .int .i64 ((y : Nat) : Int)] rfl rfl Try.call88 rfl (join_spec h vp hs p x y hr_vp ht_vp (by omega) (by first | with_reducible assumption | omega) (by omega) (by omega)) (fun _ _ _ => trivial) ?_
  rintro _ h1 ⟨rfl, rfl⟩
  refine lx_move (.int .i64 j) rfl rfl <| lx_eqlS rfl rfl rfl (fun c1 => ?_) (fun c1 => ?_)
  · refine lx_move (.bool true) rfl rfl <| lx_move (vp) rfl rfl <| lx_move (.int .i64 ((x : Nat) : Int)) rfl rfl <| lx_move (.int .i64 ((y : Nat) : Int)) rfl rfl <| lx_call [vp, .int .i64 ((x : Nat) : Int), .int .i64 ((y : Nat) : Int)] rfl rfl Try.call91 rfl (meet_spec h vp hs p x y hr_vp ht_vp (by omega) (by first | with_reducible assumption | omega) (by omega) (by omega)) (fun _ _ _ => trivial) ?_
    rintro _ h2 ⟨rfl, hx1⟩
    refine lx_move (.int .i64 k) rfl rfl <| lx_eqlS rfl rfl rfl (fun c2 => ?_) (fun c2 => ?_)
    · refine lx_pick true (.bool true) rfl rfl rfl <| lx_assign (.bool true) rfl rfl <| lx_nil <| ?_
      -- R1
      refine wi_ret ⟨.bool true, (res_one rfl rfl), ⟨?_, hx1⟩⟩
      · congr 1
        unfold bothB
        first
        | (rw [decide_eq_true (show joinF p.length (pb p) x y = j by omega), decide_eq_true (show meetF p.length (pb p) x y = k by omega)]; rfl)
        | (rw [decide_eq_true (show joinF p.length (pb p) x y = j by omega), decide_eq_false (show ¬ meetF p.length (pb p) x y = k by omega)]; rfl)
        | (rw [decide_eq_false (show ¬ joinF p.length (pb p) x y = j by omega)]; rfl)
    · refine lx_pick true (.bool false) rfl rfl rfl <| lx_assign (.bool false) rfl rfl <| lx_nil <| ?_
      -- R2
      refine wi_ret ⟨.bool false, (res_one rfl rfl), ⟨?_, hx1⟩⟩
      · congr 1
        unfold bothB
        first
        | (rw [decide_eq_true (show joinF p.length (pb p) x y = j by omega), decide_eq_true (show meetF p.length (pb p) x y = k by omega)]; rfl)
        | (rw [decide_eq_true (show joinF p.length (pb p) x y = j by omega), decide_eq_false (show ¬ meetF p.length (pb p) x y = k by omega)]; rfl)
        | (rw [decide_eq_false (show ¬ joinF p.length (pb p) x y = j by omega)]; rfl)
  · refine lx_move (.bool false) rfl rfl <| lx_skip rfl <| lx_skip rfl <| lx_skip rfl <| lx_skip rfl <| lx_skip rfl <| lx_skip rfl <| lx_pick false (.bool false) rfl rfl rfl <| lx_assign (.bool false) rfl rfl <| lx_nil <| ?_
    -- R3
    refine wi_ret ⟨.bool false, (res_one rfl rfl), ⟨?_, (Ext.refl _ _)⟩⟩
    · congr 1
      unfold bothB
      first
      | (rw [decide_eq_true (show joinF p.length (pb p) x y = j by omega), decide_eq_true (show meetF p.length (pb p) x y = k by omega)]; rfl)
      | (rw [decide_eq_true (show joinF p.length (pb p) x y = j by omega), decide_eq_false (show ¬ meetF p.length (pb p) x y = k by omega)]; rfl)
      | (rw [decide_eq_false (show ¬ joinF p.length (pb p) x y = j by omega)]; rfl)

set_option maxRecDepth 10000 in
theorem risBad_spec (h : Heap) (vp : Value) (hs : List Hdr) (p : List (List Bool)) (xs : List Int) (hr_vp : RdE encHd h vp hs) (ht_vp : RT encB h hs p) (hp1 : p.length ≤ 1000000) (hp2 : ∀ i, i < p.length → (gt p i).length ≤ 1000000) (hp3 : xs.length = 5) : Fx Try.prog 37 [vp, .agg (ic xs)] h (fun v h' => v = .bool (decide (badL p xs)) ∧ Ext h.size h h') := by
  have hl_vp := ht_vp.1
  refine fx_intro (n := 86) [(0, vp), (1, .agg (ic xs))] Try.func37 rfl rfl (by simp) ⟨rfl, rfl, trivial⟩ fun g0 => ?_
  refine wi_seq <| wi_reg rfl <| lx_box (ic xs) rfl rfl rfl (fun _ _ _ => trivial) fun bn1 h1 hbn1 hbk1 hx1 hsz1 => ?_
  have hbb1 : h.size ≤ bn1 := by have := (Nat.le_refl h.size); omega
  refine lx_assign (.bool false) rfl rfl <| lx_nil <| wi_seq <| wi_seq <| wi_reg rfl <| lx_move (vp) rfl rfl <| lx_call [vp] rfl rfl Try.call61 rfl (rcheck_spec h1 vp hs p (hr_vp.extS hx1) (ht_vp.extS hx1) (by omega) (by first | with_reducible assumption | omega)) (fun _ _ _ => trivial) ?_
  rintro _ h2 ⟨rfl, rfl⟩
  refine lx_neqS rfl rfl rfl (fun c1 => ?_) (fun c1 => ?_)
  · refine lx_move (.bool true) rfl rfl <| ?_
    refine lx_skip rfl <| lx_skip rfl <| lx_skip rfl <| lx_pick true (.bool true) rfl rfl rfl <| lx_nil <| wi_true rfl <| wi_seq <| wi_reg rfl <| lx_assign (.bool false) rfl rfl <| lx_nil <| ?_
    -- R1
    refine wi_ret ⟨.bool false, (res_one rfl rfl), ⟨?_, hx1⟩⟩
    · congr 1; exact (decide_eq_false fun h9 => absurd (opnC_zero h9.1).1 (by omega)).symm
  · refine lx_move (.bool false) rfl rfl <| ?_
    have hok := chkT_ok (p := p) (by omega)
    have hp12 : p.length ≤ 12 := hok.2.1
    have hpq : Sq p p.length := isT_sq hok.2.2
    have hio := isT_o hok.2.2
    refine lx_move (vp) rfl rfl <| lx_call [vp] rfl rfl Try.call100 rfl (risLattice_spec h1 vp hs p (hr_vp.extS hx1) (ht_vp.extS hx1) (by omega) (by first | with_reducible assumption | omega)) (fun _ _ _ => trivial) ?_
    rintro _ h3 ⟨rfl, hx2⟩
    have hx0_1 := hx1.trans2 hx2 hx1.size
    have hb1 := hbk1.extS hx2
    refine lx_not rfl rfl <| lx_pick false (.bool (!(ngB p.length (pb p)))) rfl rfl rfl <| lx_nil <| wi_condS (t := !(ngB p.length (pb p))) rfl (fun c2 => ?_) (fun c2 => ?_)
    · refine wi_seq <| wi_reg rfl <| lx_assign (.bool false) rfl rfl <| lx_nil <| ?_
      -- R2
      refine wi_ret ⟨.bool false, (res_one rfl rfl), ⟨?_, hx0_1⟩⟩
      · congr 1; exact (decide_eq_false fun h9 => absurd (opnC_zero h9.1).2 (by simpa using ‹(!ngB p.length (pb p)) = true›)).symm
    · refine wi_skip <| wi_seq <| wi_seq <| wi_reg rfl <| ?_
      have hgb2 : ngB p.length (pb p) = true := by simpa using ‹(!ngB p.length (pb p)) = false›
      have hng : noGap p.length (pb p) := ngB_iff.1 hgb2
      have hzo := opnC_of (p := p) (by omega) hgb2
      refine lx_assign (.int .i64 0) rfl rfl <| lx_nil <| wi_block <| ?_
      refine wi_loop (σ := Nat) (rngB 20 48 [4, 5, 6]) (fun (i : Nat) => [(5, .int .i64 ((i : Nat) : Int))]) (fun (i : Nat) (hh : Heap) => h3 = hh ∧ (i ≤ 5) ∧ (∀ j, j < i → 0 ≤ gt xs j ∧ gt xs j < p.length) ∧ (∀ j k, k < j → j < i → gt xs j ≠ gt xs k)) (fun (i : Nat) => 5 - i) 0 ⟨rfl, trivial⟩ ⟨rfl, ?_, ?_, ?_⟩ ?_
      · try dsimp only
        omega
      · try dsimp only
        intro j hj; omega
      · try dsimp only
        intro j k hk hj; omega
      rintro g1 i hh1 ⟨rfl, hi, hr, hd⟩ IH1
      refine wi_seq <| wi_seq <| wi_reg rfl <| lx_move (.int .i64 ((i : Nat) : Int)) rfl rfl <| lx_lssS rfl rfl rfl (fun c3 => ?_) (fun c3 => ?_)
      · refine lx_nil <| wi_true rfl <| wi_skip <| wi_seq <| wi_block <| wi_seq <| wi_seq <| wi_reg rfl <| lx_move (.int .i64 ((i : Nat) : Int)) rfl rfl <| lx_ixB (i := i) (i) rfl Try.underlying48 Try.sizeOf3 rfl rfl (by omega) (by omega) <| lx_ldB (.int .i64 (gt xs i)) rfl rfl fl3 hb1 (ic_get (by omega)) rfl <| lx_lssS rfl rfl rfl (fun c4 => ?_) (fun c4 => ?_)
        · refine lx_move (.bool true) rfl rfl <| lx_skip rfl <| lx_skip rfl <| lx_skip rfl <| lx_skip rfl <| lx_skip rfl <| lx_skip rfl <| lx_pick true (.bool true) rfl rfl rfl <| lx_nil <| wi_true rfl <| wi_seq <| wi_reg rfl <| lx_assign (.bool false) rfl rfl <| lx_nil <| ?_
          -- R3
          refine wi_ret ⟨.bool false, (res_one rfl rfl), ⟨?_, hx0_1⟩⟩
          · congr 1; exact (decide_eq_false fun h9 => absurd (badL_rng h9 i (by omega)) (by omega)).symm
        · refine lx_move (.bool false) rfl rfl <| lx_move (.int .i64 ((i : Nat) : Int)) rfl rfl <| lx_ixB (i := i) (i) rfl Try.underlying48 Try.sizeOf3 rfl rfl (by omega) (by omega) <| lx_ldB (.int .i64 (gt xs i)) rfl rfl fl3 hb1 (ic_get (by omega)) rfl <| lx_move (vp) rfl rfl <| lx_len rfl Try.underlying23 hr_vp rfl <| lx_geqS rfl rfl rfl (fun c5 => ?_) (fun c5 => ?_)
          · refine lx_pick false (.bool true) rfl rfl rfl <| lx_nil <| wi_true rfl <| wi_seq <| wi_reg rfl <| lx_assign (.bool false) rfl rfl <| lx_nil <| ?_
            -- R4
            refine wi_ret ⟨.bool false, (res_one rfl rfl), ⟨?_, hx0_1⟩⟩
            · congr 1; exact (decide_eq_false fun h9 => absurd (badL_rng h9 i (by omega)) (by omega)).symm
          · refine lx_pick false (.bool false) rfl rfl rfl <| lx_nil <| wi_false rfl <| wi_skip <| wi_seq <| wi_reg rfl <| lx_assign (.int .i64 0) rfl rfl <| lx_nil <| wi_block <| ?_
            refine wi_loop (σ := Nat) (rngB 36 48 [4, 6]) (fun (k : Nat) => [(6, .int .i64 ((k : Nat) : Int))]) (fun (k : Nat) (hh : Heap) => h3 = hh ∧ (k ≤ i) ∧ (∀ q, q < k → gt xs i ≠ gt xs q)) (fun (k : Nat) => i - k) 0 ⟨rfl, trivial⟩ ⟨rfl, ?_, ?_⟩ ?_
            · try dsimp only
              omega
            · try dsimp only
              intro q hq; omega
            rintro g2 k hh2 ⟨rfl, hk, he⟩ IH2
            refine wi_seq <| wi_seq <| wi_reg rfl <| lx_move (.int .i64 ((k : Nat) : Int)) rfl rfl <| lx_move (.int .i64 ((i : Nat) : Int)) rfl rfl <| lx_lssS rfl rfl rfl (fun c6 => ?_) (fun c6 => ?_)
            · refine lx_nil <| wi_true rfl <| wi_skip <| wi_seq <| wi_block <| wi_seq <| wi_draw mo rfl (by decide +kernel) <| lx_move (.int .i64 ((i : Nat) : Int)) rfl rfl <| lx_ixB (i := i) (i) rfl Try.underlying48 Try.sizeOf3 rfl rfl (by omega) (by omega) <| lx_ldB (.int .i64 (gt xs i)) rfl rfl fl3 hb1 (ic_get (by omega)) rfl <| lx_move (.int .i64 ((k : Nat) : Int)) rfl rfl <| lx_ixB (i := k) (k) rfl Try.underlying48 Try.sizeOf3 rfl rfl (by omega) (by omega) <| lx_ldB (.int .i64 (gt xs k)) rfl rfl fl3 hb1 (ic_get (by omega)) rfl <| lx_eqlS rfl rfl rfl (fun c7 => ?_) (fun c7 => ?_)
              · refine lx_nil <| wi_true rfl <| wi_seq <| wi_reg rfl <| lx_assign (.bool false) rfl rfl <| lx_nil <| ?_
                -- R5
                refine wi_ret ⟨.bool false, (res_one rfl rfl), ⟨?_, hx0_1⟩⟩
                · congr 1; exact (decide_eq_false fun h9 => badL_dif h9 i k (by omega) (by omega) (by omega)).symm
              · refine lx_nil <| wi_false rfl <| wi_skip <| wi_inBlock <| wi_reg rfl <| lx_move (.int .i64 ((k : Nat) : Int)) rfl rfl <| lx_add (((k + 1 : Nat) : Int)) rfl rfl rfl (by omega) (by omega) (by omega) <| lx_assign (.int .i64 ((k + 1 : Nat) : Int)) rfl rfl <| lx_nil <| ?_
                -- L2.1
                refine IH2 _ _ (k + 1) (agree_ups rfl agree_self) ⟨rfl, trivial⟩ ⟨rfl, ?_, ?_⟩ ?_
                · try dsimp only
                  omega
                · try dsimp only
                  intro q hq
                  by_cases e : q = k
                  · subst e; omega
                  · exact he q (by omega)
                · first | omega | (dsimp only; omega)
            · refine lx_nil <| wi_false rfl <| wi_exit rfl <| wi_inBlock <| wi_reg rfl <| lx_move (.int .i64 ((i : Nat) : Int)) rfl rfl <| lx_add (((i + 1 : Nat) : Int)) rfl rfl rfl (by omega) (by omega) (by omega) <| lx_assign (.int .i64 ((i + 1 : Nat) : Int)) rfl rfl <| lx_nil <| ?_
              -- L0.1
              refine IH1 _ _ (i + 1) (agree_ups rfl (agree_mix (rngB_sub (by decide) (by decide) rfl) (agree_ups rfl agree_self))) ⟨rfl, trivial⟩ ⟨rfl, ?_, ?_, ?_⟩ ?_
              · try dsimp only
                omega
              · try dsimp only
                intro j hj
                by_cases e : j = i
                · subst e; omega
                · exact hr j (by omega)
              · try dsimp only
                intro j q hq hj
                by_cases e : j = i
                · subst e; exact he q (by omega)
                · exact hd j q hq (by omega)
              · first | omega | (dsimp only; omega)
      · refine lx_nil <| wi_false rfl <| wi_exit rfl <| wi_seq <| wi_draw mo rfl (by decide +kernel) <| ?_
        obtain ⟨a, hga, ha4⟩ : ∃ a : Nat, gt xs 1 = (a : Int) ∧ a < p.length := ⟨(gt xs 1).toNat, by have := hr 1 (by omega); omega, by have := hr 1 (by omega); omega⟩
        obtain ⟨b, hgb, hb4⟩ : ∃ b : Nat, gt xs 2 = (b : Int) ∧ b < p.length := ⟨(gt xs 2).toNat, by have := hr 2 (by omega); omega, by have := hr 2 (by omega); omega⟩
        obtain ⟨c, hgc, hc4⟩ : ∃ c : Nat, gt xs 3 = (c : Int) ∧ c < p.length := ⟨(gt xs 3).toNat, by have := hr 3 (by omega); omega, by have := hr 3 (by omega); omega⟩
        have hnd := nodup_of (xs := xs) (fun j k hk hj => hd j k hk (by omega))
        rw [hga, hgb, hgc] at hnd
        have hbf : badL p xs ↔ bothB p.length (pb p) a c (gt xs 4) (gt xs 0) = true ∧ bothB p.length (pb p) b c (gt xs 4) (gt xs 0) = true ∧ ((decide (a ≠ b) && pb p a b) = true ∨ bothB p.length (pb p) a b (gt xs 4) (gt xs 0) = true) := by
          show badZ p (gt xs 0) (gt xs 1) (gt xs 2) (gt xs 3) (gt xs 4) ↔ _
          rw [hga, hgb, hgc]
          exact (badZ_form hzo hio hng (hr 0 (by omega)) (hr 4 (by omega)) ha4 hb4 hc4 hnd)
        refine lx_ixB (i := 0) (0) rfl Try.underlying48 Try.sizeOf3 rfl rfl (by omega) rfl <| lx_ldB (.int .i64 (gt xs 0)) rfl rfl fl3 hb1 (ic_get (by omega)) rfl <| lx_ixB (i := 1) (1) rfl Try.underlying48 Try.sizeOf3 rfl rfl (by omega) rfl <| lx_ldB (.int .i64 ((a : Nat) : Int)) rfl rfl fl3 hb1 (by rw [ic_get (by omega), hga]) rfl <| lx_ixB (i := 2) (2) rfl Try.underlying48 Try.sizeOf3 rfl rfl (by omega) rfl <| lx_ldB (.int .i64 ((b : Nat) : Int)) rfl rfl fl3 hb1 (by rw [ic_get (by omega), hgb]) rfl <| lx_ixB (i := 3) (3) rfl Try.underlying48 Try.sizeOf3 rfl rfl (by omega) rfl <| lx_ldB (.int .i64 ((c : Nat) : Int)) rfl rfl fl3 hb1 (by rw [ic_get (by omega), hgc]) rfl <| lx_ixB (i := 4) (4) rfl Try.underlying48 Try.sizeOf3 rfl rfl (by omega) rfl <| lx_ldB (.int .i64 (gt xs 4)) rfl rfl fl3 hb1 (ic_get (by omega)) rfl <| lx_assign (.int .i64 (gt xs 0)) rfl rfl <| lx_assign (.int .i64 ((a : Nat) : Int)) rfl rfl <| lx_assign (.int .i64 ((b : Nat) : Int)) rfl rfl <| lx_assign (.int .i64 ((c : Nat) : Int)) rfl rfl <| lx_assign (.int .i64 (gt xs 4)) rfl rfl <| lx_nil <| wi_seq <| wi_seq <| wi_reg rfl <| lx_move (vp) rfl rfl <| lx_move (.int .i64 ((a : Nat) : Int)) rfl rfl <| lx_move (.int .i64 ((c : Nat) : Int)) rfl rfl <| lx_move (.int .i64 (gt xs 4)) rfl rfl <| lx_move (.int .i64 (gt xs 0)) rfl rfl <| lx_call [vp, .int .i64 ((a : Nat) : Int), .int .i64 ((c : Nat) : Int), .int .i64 (gt xs 4), .int .i64 (gt xs 0)] rfl rfl Try.call101 rfl (both_spec h3 vp hs p a c (gt xs 4) (gt xs 0) (hr_vp.extS hx0_1) (ht_vp.extS hx0_1) (by omega) (by first | with_reducible assumption | omega) (by omega) (by omega)) (fun _ _ _ => trivial) ?_
        rintro _ h4 ⟨rfl, hx3⟩
        have hx0_2 := hx0_1.trans2 hx3 hx0_1.size
        have hb2 := hb1.extS hx3
        refine lx_not rfl rfl <| lx_move (.bool (!(bothB p.length (pb p) a c (gt xs 4) (gt xs 0)))) rfl rfl <| ?_
        cases c8 : (bothB p.length (pb p) a c (gt xs 4) (gt xs 0))
        · refine lx_skip rfl <| lx_skip rfl <| lx_skip rfl <| lx_skip rfl <| lx_skip rfl <| lx_skip rfl <| lx_skip rfl <| lx_pick true (.bool true) rfl rfl rfl <| lx_nil <| wi_true rfl <| wi_seq <| wi_reg rfl <| lx_assign (.bool false) rfl rfl <| lx_nil <| ?_
          -- R6
          refine wi_ret ⟨.bool false, (res_one rfl rfl), ⟨?_, hx0_2⟩⟩
          · congr 1; exact (decide_eq_false fun h9 => by have := (hbf.1 h9).1; rw [c8] at this; cases this).symm
        · refine lx_move (vp) rfl rfl <| lx_move (.int .i64 ((b : Nat) : Int)) rfl rfl <| lx_move (.int .i64 ((c : Nat) : Int)) rfl rfl <| lx_move (.int .i64 (gt xs 4)) rfl rfl <| lx_move (.int .i64 (gt xs 0)) rfl rfl <| lx_call [vp, .int .i64 ((b : Nat) : Int), .int .i64 ((c : Nat) : Int), .int .i64 (gt xs 4), .int .i64 (gt xs 0)] rfl rfl Try.call101 rfl (both_spec h4 vp hs p b c (gt xs 4) (gt xs 0) (hr_vp.extS hx0_2) (ht_vp.extS hx0_2) (by omega) (by first | with_reducible assumption | omega) (by omega) (by omega)) (fun _ _ _ => trivial) ?_
          rintro _ h5 ⟨rfl, hx4⟩
          have hx0_3 := hx0_2.trans2 hx4 hx0_2.size
          have hb3 := hb2.extS hx4
          refine lx_not rfl rfl <| lx_pick false (.bool (!(bothB p.length (pb p) b c (gt xs 4) (gt xs 0)))) rfl rfl rfl <| lx_nil <| wi_condS (t := !(bothB p.length (pb p) b c (gt xs 4) (gt xs 0))) rfl (fun c9 => ?_) (fun c9 => ?_)
          · refine wi_seq <| wi_reg rfl <| lx_assign (.bool false) rfl rfl <| lx_nil <| ?_
            -- R7
            refine wi_ret ⟨.bool false, (res_one rfl rfl), ⟨?_, hx0_3⟩⟩
            · congr 1; exact (decide_eq_false fun h9 => by have := (hbf.1 h9).2.1; rw [this] at c9; cases c9).symm
          · refine wi_skip <| wi_seq <| wi_reg rfl <| lx_move (vp) rfl rfl <| lx_move (.int .i64 ((a : Nat) : Int)) rfl rfl <| lx_move (.int .i64 ((b : Nat) : Int)) rfl rfl <| lx_call [vp, .int .i64 ((a : Nat) : Int), .int .i64 ((b : Nat) : Int)] rfl rfl Try.call102 rfl (rbelow_spec h5 vp hs p a b (hr_vp.extS hx0_3) (ht_vp.extS hx0_3) (by omega) (by first | with_reducible assumption | omega) (by omega) (by omega)) (fun _ _ _ => trivial) ?_
            rintro _ h6 ⟨rfl, rfl⟩
            refine lx_move (.bool (decide (a ≠ b) && pb p a b)) rfl rfl <| ?_
            cases c10 : (decide (a ≠ b) && pb p a b)
            · refine lx_move (vp) rfl rfl <| lx_move (.int .i64 ((a : Nat) : Int)) rfl rfl <| lx_move (.int .i64 ((b : Nat) : Int)) rfl rfl <| lx_move (.int .i64 (gt xs 4)) rfl rfl <| lx_move (.int .i64 (gt xs 0)) rfl rfl <| lx_call [vp, .int .i64 ((a : Nat) : Int), .int .i64 ((b : Nat) : Int), .int .i64 (gt xs 4), .int .i64 (gt xs 0)] rfl rfl Try.call101 rfl (both_spec h5 vp hs p a b (gt xs 4) (gt xs 0) (hr_vp.extS hx0_3) (ht_vp.extS hx0_3) (by omega) (by first | with_reducible assumption | omega) (by omega) (by omega)) (fun _ _ _ => trivial) ?_
              rintro _ h7 ⟨rfl, hx5⟩
              have hx0_4 := hx0_3.trans2 hx5 hx0_3.size
              have hb4 := hb3.extS hx5
              refine lx_pick false (.bool (bothB p.length (pb p) a b (gt xs 4) (gt xs 0))) rfl rfl rfl <| lx_assign (.bool (bothB p.length (pb p) a b (gt xs 4) (gt xs 0))) rfl rfl <| lx_nil <| ?_
              -- R8
              refine wi_ret ⟨.bool (bothB p.length (pb p) a b (gt xs 4) (gt xs 0)), (res_one rfl rfl), ⟨?_, hx0_4⟩⟩
              · congr 1; rw [Bool.eq_iff_iff, decide_eq_true_iff, hbf]; exact ⟨fun h => ⟨c8, by simpa using c9, .inr h⟩, fun h => h.2.2.resolve_left (by rw [c10]; simp)⟩
            · refine lx_skip rfl <| lx_skip rfl <| lx_skip rfl <| lx_skip rfl <| lx_skip rfl <| lx_skip rfl <| lx_pick true (.bool true) rfl rfl rfl <| lx_assign (.bool true) rfl rfl <| lx_nil <| ?_
              -- R9
              refine wi_ret ⟨.bool true, (res_one rfl rfl), ⟨?_, hx0_3⟩⟩
              · congr 1; symm; rw [decide_eq_true_iff, hbf]; exact ⟨c8, by simpa using c9, .inl c10⟩

set_option maxRecDepth 10000 in
theorem ends_spec (h : Heap) (vp : Value) (hs : List Hdr) (p : List (List Bool)) (hr_vp : RdE encHd h vp hs) (ht_vp : RT encB h hs p) (hp1 : p.length ≤ 12) (hp2 : Sq p p.length) (hp3 : IsO p.length (pb p)) (hp4 : noGap p.length (pb p)) (hp5 : 1 ≤ p.length) : Fx Try.prog 51 [vp] h (fun v h' => v = .tuple #[.int .i64 ((loN p.length (pb p) : Nat) : Int), .int .i64 ((hiN p.length (pb p) : Nat) : Int)] ∧ Ext h.size h h') := by
  have hl_vp := ht_vp.1
  refine fx_intro (n := 23) [(0, vp)] Try.func51 rfl rfl (by simp) ⟨rfl, trivial⟩ fun g0 => ?_
  refine wi_seq <| wi_reg rfl <| lx_assign (.int .i64 0) rfl rfl <| lx_assign (.int .i64 0) rfl rfl <| lx_nil <| wi_seq <| wi_reg rfl <| lx_assign (.int .i64 0) rfl rfl <| lx_assign (.int .i64 0) rfl rfl <| lx_nil <| wi_seq <| wi_seq <| wi_reg rfl <| lx_assign (.int .i64 0) rfl rfl <| lx_nil <| wi_block <| ?_
  refine wi_loop (σ := Nat × Nat × Nat) (rngB 4 21 []) (fun (ss : Nat × Nat × Nat) => [(6, .int .i64 ((ss.1 : Nat) : Int)), (4, .int .i64 ((ss.2.1 : Nat) : Int)), (5, .int .i64 ((ss.2.2 : Nat) : Int))]) (fun (ss : Nat × Nat × Nat) (hh : Heap) => Ext h.size h hh ∧ (ss.1 ≤ p.length) ∧ (ss.2.1 < p.length) ∧ (∀ q, q < ss.1 → pb p ss.2.1 q = true) ∧ (ss.2.2 < p.length) ∧ (∀ q, q < ss.1 → pb p q ss.2.2 = true)) (fun (ss : Nat × Nat × Nat) => p.length - ss.1) (0, 0, 0) ⟨rfl, rfl, rfl, trivial⟩ ⟨(Ext.refl _ _), ?_, ?_, ?_, ?_, ?_⟩ ?_
  · try dsimp only
    omega
  · try dsimp only
    omega
  · try dsimp only
    intro q hq; omega
  · try dsimp only
    omega
  · try dsimp only
    intro q hq; omega
  rintro g1 ⟨x, lo, hi⟩ hh1 ⟨hx0_1, hx, hlo, hl, hhi, hh9⟩ IH1
  dsimp only at *
  refine wi_seq <| wi_seq <| wi_reg rfl <| lx_move (.int .i64 ((x : Nat) : Int)) rfl rfl <| lx_move (vp) rfl rfl <| lx_len rfl Try.underlying23 hr_vp rfl <| lx_lssS rfl rfl rfl (fun c1 => ?_) (fun c1 => ?_)
  · refine lx_nil <| wi_true rfl <| wi_skip <| wi_seq <| wi_block <| wi_seq <| wi_reg rfl <| lx_move (vp) rfl rfl <| lx_move (.int .i64 ((lo : Nat) : Int)) rfl rfl <| lx_move (.int .i64 ((x : Nat) : Int)) rfl rfl <| lx_call [vp, .int .i64 ((lo : Nat) : Int), .int .i64 ((x : Nat) : Int)] rfl rfl Try.call91 rfl (meet_spec hh1 vp hs p lo x (hr_vp.extS hx0_1) (ht_vp.extS hx0_1) (by omega) (by first | with_reducible assumption | omega) (by omega) (by omega)) (fun _ _ _ => trivial) ?_
    rintro _ h1 ⟨rfl, hx1⟩
    have hx0_2 := hx0_1.trans2 hx1 hx0_1.size
    have hM := mN_at hp3 hp4 hlo (show x < p.length by omega)
    rw [hM.1]
    refine lx_assign (.int .i64 ((mN p.length (pb p) lo x : Nat) : Int)) rfl rfl <| lx_nil <| wi_reg rfl <| lx_move (vp) rfl rfl <| lx_move (.int .i64 ((hi : Nat) : Int)) rfl rfl <| lx_move (.int .i64 ((x : Nat) : Int)) rfl rfl <| lx_call [vp, .int .i64 ((hi : Nat) : Int), .int .i64 ((x : Nat) : Int)] rfl rfl Try.call88 rfl (join_spec h1 vp hs p hi x (hr_vp.extS hx0_2) (ht_vp.extS hx0_2) (by omega) (by first | with_reducible assumption | omega) (by omega) (by omega)) (fun _ _ _ => trivial) ?_
    rintro _ h2 ⟨rfl, rfl⟩
    have hJ := jN_at hp3 hp4 hhi (show x < p.length by omega)
    rw [hJ.1]
    refine lx_assign (.int .i64 ((jN p.length (pb p) hi x : Nat) : Int)) rfl rfl <| lx_nil <| wi_inBlock <| wi_reg rfl <| lx_move (.int .i64 ((x : Nat) : Int)) rfl rfl <| lx_add (((x + 1 : Nat) : Int)) rfl rfl rfl (by omega) (by omega) (by omega) <| lx_assign (.int .i64 ((x + 1 : Nat) : Int)) rfl rfl <| lx_nil <| ?_
    -- L0.1
    refine IH1 _ _ (x + 1, mN p.length (pb p) lo x, jN p.length (pb p) hi x) (agree_ups rfl agree_self) ⟨rfl, rfl, rfl, trivial⟩ ⟨hx0_2, ?_, ?_, ?_, ?_, ?_⟩ ?_
    · try dsimp only
      omega
    · try dsimp only
      exact hM.2.1
    · try dsimp only
      intro q hq
      by_cases e : q = x
      · subst e; exact hM.2.2.2.1
      · exact hp3.trans hM.2.1 hlo (by omega) hM.2.2.1 (hl q (by omega))
    · try dsimp only
      exact hJ.2.1
    · try dsimp only
      intro q hq
      by_cases e : q = x
      · subst e; exact hJ.2.2.2.1
      · exact hp3.trans (by omega) hhi hJ.2.1 (hh9 q (by omega)) hJ.2.2.1
    · first | omega | (dsimp only; omega)
  · refine lx_nil <| wi_false rfl <| wi_exit rfl <| wi_seq <| wi_reg rfl <| ?_
    have hloN : lo = loN p.length (pb p) := lo_uniq hp3 ⟨hlo, fun q hq => hl q (by omega)⟩ (lo_at hp3 hp4 hp5).2
    have hhiA := hi_at hp3 hp4 hp5
    have hhiN : hi = hiN p.length (pb p) := hp3.anti hhi hhiA.2.1 (hhiA.2.2 hi hhi) (hh9 _ (by have := hhiA.2.1; omega))
    refine lx_move (.int .i64 ((lo : Nat) : Int)) rfl rfl <| lx_move (.int .i64 ((hi : Nat) : Int)) rfl rfl <| lx_assign (.int .i64 ((lo : Nat) : Int)) rfl rfl <| lx_assign (.int .i64 ((hi : Nat) : Int)) rfl rfl <| lx_nil <| ?_
    -- R1
    refine wi_ret ⟨.tuple #[.int .i64 ((lo : Nat) : Int), .int .i64 ((hi : Nat) : Int)], (res_two rfl rfl rfl), ⟨?_, hx0_1⟩⟩
    · rw [hloN, hhiN]

end Go.Proofs.Ytdokijbdnajhgaa
namespace Go.Proofs.Ytdokijbdnajhgaa
open Go Go.X

set_option maxRecDepth 10000 in
theorem rcrosscut_spec (h : Heap) (vp : Value) (hs : List Hdr) (p : List (List Bool)) (hr_vp : RdE encHd h vp hs) (ht_vp : RT encB h hs p) (hp1 : p.length ≤ 12) (hp2 : Sq p p.length) (hp3 : IsO p.length (pb p)) (hp4 : noGap p.length (pb p)) (hp5 : 1 ≤ p.length) : Fx Try.prog 42 [vp] h (fun v h' => ∃ (s : Value), v = s ∧ OwE encI h' h.size 2 s (crF p.length (pb p)) ∧ Ext h.size h h') := by
  have hl_vp := ht_vp.1
  refine fx_intro (n := 72) [(0, vp)] Try.func42 rfl rfl (by simp) ⟨rfl, trivial⟩ fun g0 => ?_
  refine wi_seq <| wi_reg rfl <| lx_assign (.slice none 0 0) rfl rfl <| lx_nil <| wi_seq <| wi_reg rfl <| ?_
  have hlo := lo_at hp3 hp4 hp5
  have hhi := hi_at hp3 hp4 hp5
  have hlon := hlo.2.1
  have hhin := hhi.2.1
  refine lx_move (vp) rfl rfl <| lx_call [vp] rfl rfl Try.call51 rfl (ends_spec h vp hs p hr_vp ht_vp (by omega) (by first | with_reducible assumption | omega) (by first | with_reducible assumption | omega) (by omega) (by omega)) (fun _ _ _ => trivial) ?_
  rintro _ h1 ⟨rfl, hx1⟩
  refine lx_move (.tuple #[.int .i64 ((loN p.length (pb p) : Nat) : Int), .int .i64 ((hiN p.length (pb p) : Nat) : Int)]) rfl rfl <| lx_extract (.int .i64 ((loN p.length (pb p) : Nat) : Int)) rfl rfl rfl <| lx_extract (.int .i64 ((hiN p.length (pb p) : Nat) : Int)) rfl rfl rfl <| lx_assign (.int .i64 ((loN p.length (pb p) : Nat) : Int)) rfl rfl <| lx_assign (.int .i64 ((hiN p.length (pb p) : Nat) : Int)) rfl rfl <| lx_nil <| wi_seq <| wi_reg rfl <| lx_assign (.slice none 0 0) rfl rfl <| lx_nil <| wi_seq <| wi_seq <| wi_reg rfl <| lx_assign (.int .i64 0) rfl rfl <| lx_nil <| wi_block <| ?_
  refine wi_loop (σ := Nat × Value × (List Int)) (rngB 17 31 [5, 6]) (fun (ss : Nat × Value × (List Int)) => [(6, .int .i64 ((ss.1 : Nat) : Int)), (5, ss.2.1)]) (fun (ss : Nat × Value × (List Int)) (hh : Heap) => OwE encI hh h.size 3 ss.2.1 ss.2.2 ∧ Ext h.size h hh ∧ (ss.1 ≤ p.length) ∧ (ss.2.2 = filtF ss.1 (rbF p.length (pb p) (loN p.length (pb p))))) (fun (ss : Nat × Value × (List Int)) => p.length - ss.1) (0, .slice none 0 0, []) ⟨rfl, rfl, trivial⟩ ⟨?_, hx1, ?_, ?_⟩ ?_
  · first | exact (owE_nil encI _ h.size 3) | (simpa using (owE_nil encI _ h.size 3))
  · try dsimp only
    omega
  · try dsimp only
    first | done | rfl
  rintro g1 ⟨x, v, xs⟩ hh1 ⟨ho1, hx0_1, hx, hxs⟩ IH1
  dsimp only at *
  have hxl : xs.length ≤ x := by rw [hxs]; exact filtF_length _ _
  refine wi_seq <| wi_seq <| wi_reg rfl <| lx_move (.int .i64 ((x : Nat) : Int)) rfl rfl <| lx_move (vp) rfl rfl <| lx_len rfl Try.underlying23 hr_vp rfl <| lx_lssS rfl rfl rfl (fun c1 => ?_) (fun c1 => ?_)
  · refine lx_nil <| wi_true rfl <| wi_skip <| wi_seq <| wi_block <| wi_seq <| wi_reg rfl <| lx_move (vp) rfl rfl <| lx_move (.int .i64 ((loN p.length (pb p) : Nat) : Int)) rfl rfl <| lx_move (.int .i64 ((x : Nat) : Int)) rfl rfl <| lx_call [vp, .int .i64 ((loN p.length (pb p) : Nat) : Int), .int .i64 ((x : Nat) : Int)] rfl rfl Try.call103 rfl (rright_spec hh1 vp hs p (loN p.length (pb p)) x (hr_vp.extS hx0_1) (ht_vp.extS hx0_1) (by omega) (by first | with_reducible assumption | omega) (by omega) (by omega)) (fun _ _ _ => trivial) ?_
    rintro _ h2 ⟨rfl, rfl⟩
    refine lx_nil <| wi_condS (t := rbF p.length (pb p) (loN p.length (pb p)) x) rfl (fun c2 => ?_) (fun c2 => ?_)
    · refine wi_reg rfl <| lx_move (v) rfl rfl <| lx_move (.int .i64 ((x : Nat) : Int)) rfl rfl <| lx_appendL (E := encI) (B := h.size) [((x : Nat) : Int)] [.int .i64 ((x : Nat) : Int)] rfl rfl (fun _ => rfl) rfl eT25 rfl rfl rfl rfl ho1 (fun _ => rfl) (by show xs.length + 1 ≤ _; omega) (by show (xs.length + 1) * 8 ≤ _; omega) hx0_1.size (fun _ _ => trivial) fun u1 v1 h3 ho2 hc1 hg1 => ?_
      have hx0_2 := hx0_1.trans (ho1.ext hc1 hx0_1.size)
      refine lx_assign (v1) rfl rfl <| lx_nil <| wi_inBlock <| wi_reg rfl <| lx_move (.int .i64 ((x : Nat) : Int)) rfl rfl <| lx_add (((x + 1 : Nat) : Int)) rfl rfl rfl (by omega) (by omega) (by omega) <| lx_assign (.int .i64 ((x + 1 : Nat) : Int)) rfl rfl <| lx_nil <| ?_
      -- L0.1
      refine IH1 _ _ (x + 1, v1, xs ++ [((x : Nat) : Int)]) (agree_ups rfl agree_self) ⟨rfl, rfl, trivial⟩ ⟨?_, hx0_2, ?_, ?_⟩ ?_
      · first | exact ho2 | (simpa using ho2)
      · try dsimp only
        omega
      · try dsimp only
        rw [hxs]; exact filtF_yes (by assumption)
      · first | omega | (dsimp only; omega)
    · refine wi_skip <| wi_inBlock <| wi_reg rfl <| lx_move (.int .i64 ((x : Nat) : Int)) rfl rfl <| lx_add (((x + 1 : Nat) : Int)) rfl rfl rfl (by omega) (by omega) (by omega) <| lx_assign (.int .i64 ((x + 1 : Nat) : Int)) rfl rfl <| lx_nil <| ?_
      -- L0.2
      refine IH1 _ _ (x + 1, v, xs) (agree_ups rfl agree_self) ⟨rfl, rfl, trivial⟩ ⟨?_, hx0_1, ?_, ?_⟩ ?_
      · first | exact ho1 | (simpa using ho1)
      · try dsimp only
        omega
      · try dsimp only
        rw [hxs]; exact filtF_no (by assumption)
      · first | omega | (dsimp only; omega)
  · refine lx_nil <| wi_false rfl <| wi_exit rfl <| wi_seq <| wi_reg rfl <| ?_
    have hxa : xs = atL p.length (pb p) := by rw [hxs, show x = p.length from by omega]; rfl
    have hal := atL_len p.length (pb p)
    rw [hxa] at ho1
    refine lx_move (v) rfl rfl <| lx_len rfl Try.underlying25 ho1.rd rfl <| lx_add (((((atL p.length (pb p))).length + 1 : Nat) : Int)) rfl rfl rfl (by omega) (by omega) (by omega) <| lx_make (E := encI) (n := ((atL p.length (pb p))).length + 1) (B := hh1.size) (0 : Int) rfl rfl Try.underlying58 (eZ58) rfl rfl (by omega) (by omega) (Nat.le_refl _) (fun _ _ => trivial) fun v2 h4 ho3 hx2 hvb1 => ?_
    have hx0_3 := hx0_1.trans2 hx2 hx0_1.size
    have ho4 := ho1.extS hx2
    have ho5 := ho3.base hx0_1.size
    refine lx_assign (v2) rfl rfl <| lx_nil <| wi_seq <| wi_seq <| wi_reg rfl <| lx_assign (.int .i64 0) rfl rfl <| lx_nil <| wi_block <| ?_
    refine wi_loop (σ := Nat × (List Int)) (rngB 35 71 [8, 9, 10, 11]) (fun (ss : Nat × (List Int)) => [(8, .int .i64 ((ss.1 : Nat) : Int))]) (fun (ss : Nat × (List Int)) (hh : Heap) => OwE encI hh h.size 2 v2 ss.2 ∧ OwE encI hh h.size 3 v ((atL p.length (pb p))) ∧ Ext h.size h hh ∧ (ss.1 ≤ 2 ^ (atL p.length (pb p)).length) ∧ (ss.2 = crL p.length (pb p) (loN p.length (pb p)) (hiN p.length (pb p)) (atL p.length (pb p)) ss.1)) (fun (ss : Nat × (List Int)) => 2 ^ (atL p.length (pb p)).length - ss.1) (0, List.replicate (((atL p.length (pb p))).length + 1) (0 : Int)) ⟨rfl, trivial⟩ ⟨?_, ?_, hx0_3, ?_, ?_⟩ ?_
    · first | exact ho5 | (simpa using ho5)
    · first | exact ho4 | (simpa using ho4)
    · try dsimp only
      exact Nat.zero_le _
    · try dsimp only
      exact crL_zero _ _ _ _ _
    rintro g2 ⟨t, cl⟩ hh2 ⟨ho6, ho7, hx0_4, ht, hcl⟩ IH2
    dsimp only at *
    have hcll : cl.length = (atL p.length (pb p)).length + 1 := by rw [hcl]; exact crL_len _ _ _ _ _ _
    refine wi_seq <| wi_seq <| wi_reg rfl <| ?_
    have hpw := pow12 (show (atL p.length (pb p)).length ≤ 12 by omega)
    refine lx_move (.int .i64 ((t : Nat) : Int)) rfl rfl <| lx_move (v) rfl rfl <| lx_len rfl Try.underlying25 ho7.rd rfl <| lx_conv ((((atL p.length (pb p))).length : Nat) : Int) rfl Try.underlying3 Try.underlying45 rfl (wrap_u64 (by omega) (by omega)) <| lx_shl (m := 1) (n := ((atL p.length (pb p))).length) rfl rfl rfl (by show _ ≤ 64; omega) (wrap_i64 (by omega) (by omega)) <| lx_lssS rfl rfl rfl (fun c3 => ?_) (fun c3 => ?_)
    · refine lx_nil <| wi_true rfl <| wi_skip <| wi_seq <| wi_block <| wi_seq <| wi_reg rfl <| lx_move (.int .i64 ((loN p.length (pb p) : Nat) : Int)) rfl rfl <| lx_assign (.int .i64 0) rfl rfl <| lx_assign (.int .i64 ((loN p.length (pb p) : Nat) : Int)) rfl rfl <| lx_nil <| wi_seq <| wi_seq <| wi_reg rfl <| lx_assign (.int .i64 0) rfl rfl <| lx_nil <| wi_block <| ?_
      refine wi_loop (σ := Nat × Nat × Nat) (rngB 44 62 [9, 10, 11]) (fun (ss : Nat × Nat × Nat) => [(11, .int .i64 ((ss.1 : Nat) : Int)), (10, .int .i64 ((ss.2.1 : Nat) : Int)), (9, .int .i64 ((ss.2.2 : Nat) : Int))]) (fun (ss : Nat × Nat × Nat) (hh : Heap) => hh2 = hh ∧ (ss.1 ≤ (atL p.length (pb p)).length) ∧ (ss.2.1 = crJ p.length (pb p) (loN p.length (pb p)) (atL p.length (pb p)) t ss.1) ∧ (ss.2.2 = crN t ss.1)) (fun (ss : Nat × Nat × Nat) => (atL p.length (pb p)).length - ss.1) (0, loN p.length (pb p), 0) ⟨rfl, rfl, rfl, trivial⟩ ⟨rfl, ?_, ?_, ?_⟩ ?_
      · try dsimp only
        omega
      · try dsimp only
        first | done | rfl
      · try dsimp only
        first | done | rfl
      rintro g3 ⟨k, j, c⟩ hh3 ⟨rfl, hk, hj, hc⟩ IH3
      dsimp only at *
      have hcle := crN_le t k
      refine wi_seq <| wi_seq <| wi_reg rfl <| lx_move (.int .i64 ((k : Nat) : Int)) rfl rfl <| lx_move (v) rfl rfl <| lx_len rfl Try.underlying25 ho7.rd rfl <| lx_lssS rfl rfl rfl (fun c4 => ?_) (fun c4 => ?_)
      · refine lx_nil <| wi_true rfl <| wi_skip <| wi_seq <| wi_block <| wi_seq <| wi_reg rfl <| ?_
        obtain ⟨a, hga, ha4, _⟩ := atL_at (show k < (atL p.length (pb p)).length by omega)
        refine lx_move (.int .i64 ((t : Nat) : Int)) rfl rfl <| lx_move (.int .i64 ((k : Nat) : Int)) rfl rfl <| lx_call [.int .i64 ((t : Nat) : Int), .int .i64 ((k : Nat) : Int)] rfl rfl Try.call78 rfl (in_spec hh2 t k (by omega) (by omega)) (fun _ _ _ => trivial) ?_
        rintro _ h5 ⟨rfl, rfl⟩
        refine lx_nil <| wi_condS (t := t.testBit k) rfl (fun c5 => ?_) (fun c5 => ?_)
        · refine wi_seq <| wi_reg rfl <| lx_move (.int .i64 ((c : Nat) : Int)) rfl rfl <| lx_add (((c + 1 : Nat) : Int)) rfl rfl rfl (by omega) (by omega) (by omega) <| lx_assign (.int .i64 ((c + 1 : Nat) : Int)) rfl rfl <| lx_nil <| wi_reg rfl <| lx_move (vp) rfl rfl <| lx_move (.int .i64 ((j : Nat) : Int)) rfl rfl <| lx_move (v) rfl rfl <| lx_move (.int .i64 ((k : Nat) : Int)) rfl rfl <| lx_ix (i := k) rfl eT25 ho7.rd rfl rfl (by omega) <| lx_ld (i := k) (j := 0) (.int .i64 ((a : Nat) : Int)) rfl rfl fl3 ho7.rd (by omega) (by show some (Value.int .i64 (gt (atL p.length (pb p)) k)) = _; rw [hga]) rfl <| lx_call [vp, .int .i64 ((j : Nat) : Int), .int .i64 ((a : Nat) : Int)] rfl rfl Try.call88 rfl (join_spec hh2 vp hs p j a (hr_vp.extS hx0_4) (ht_vp.extS hx0_4) (by omega) (by first | with_reducible assumption | omega) (by have h9 := crJ_lt hp3 hp4 hlon (al := atL p.length (pb p)) atL_rng t k (by omega); rw [← hj] at h9; exact h9) (by omega)) (fun _ _ _ => trivial) ?_
          rintro _ h6 ⟨rfl, rfl⟩
          have hjl := crJ_lt hp3 hp4 hlon (al := atL p.length (pb p)) atL_rng t k (by omega)
          rw [← hj] at hjl
          have hJ := jN_at hp3 hp4 hjl ha4
          rw [hJ.1]
          refine lx_assign (.int .i64 ((jN p.length (pb p) j a : Nat) : Int)) rfl rfl <| lx_nil <| wi_inBlock <| wi_reg rfl <| lx_move (.int .i64 ((k : Nat) : Int)) rfl rfl <| lx_add (((k + 1 : Nat) : Int)) rfl rfl rfl (by omega) (by omega) (by omega) <| lx_assign (.int .i64 ((k + 1 : Nat) : Int)) rfl rfl <| lx_nil <| ?_
          -- L4.1
          refine IH3 _ _ (k + 1, jN p.length (pb p) j a, c + 1) (agree_ups rfl agree_self) ⟨rfl, rfl, rfl, trivial⟩ ⟨rfl, ?_, ?_, ?_⟩ ?_
          · try dsimp only
            omega
          · try dsimp only
            rw [crJ, if_pos (by assumption), ← hj, hga]; rfl
          · try dsimp only
            rw [crN, if_pos (by assumption), ← hc]
          · first | omega | (dsimp only; omega)
        · refine wi_skip <| wi_inBlock <| wi_reg rfl <| lx_move (.int .i64 ((k : Nat) : Int)) rfl rfl <| lx_add (((k + 1 : Nat) : Int)) rfl rfl rfl (by omega) (by omega) (by omega) <| lx_assign (.int .i64 ((k + 1 : Nat) : Int)) rfl rfl <| lx_nil <| ?_
          -- L4.2
          refine IH3 _ _ (k + 1, j, c) (agree_ups rfl agree_self) ⟨rfl, rfl, rfl, trivial⟩ ⟨rfl, ?_, ?_, ?_⟩ ?_
          · try dsimp only
            omega
          · try dsimp only
            rw [crJ, if_neg (by simp [*]), ← hj]
          · try dsimp only
            rw [crN, if_neg (by simp [*]), ← hc]
          · first | omega | (dsimp only; omega)
      · refine lx_nil <| wi_false rfl <| wi_exit rfl <| wi_seq <| wi_reg rfl <| lx_move (.int .i64 ((j : Nat) : Int)) rfl rfl <| lx_move (.int .i64 ((hiN p.length (pb p) : Nat) : Int)) rfl rfl <| lx_eqlS rfl rfl rfl (fun c6 => ?_) (fun c6 => ?_)
        · refine lx_nil <| wi_true rfl <| wi_reg rfl <| ?_
          have hkl : k = (atL p.length (pb p)).length := by omega
          have hcn := crN_le t (atL p.length (pb p)).length
          have hca := crL_at (n := p.length) (f := pb p) (lo := loN p.length (pb p)) (hi := hiN p.length (pb p)) (al := atL p.length (pb p)) (t := t) (show crN t (atL p.length (pb p)).length < (atL p.length (pb p)).length + 1 by omega)
          rw [← hkl, ← hc, ← hcl] at hca
          refine lx_move (v2) rfl rfl <| lx_move (.int .i64 ((c : Nat) : Int)) rfl rfl <| lx_ix (i := c) rfl eT58 ho6.rd rfl rfl (by omega) <| lx_ld (i := c) (j := 0) (.int .i64 (gt cl c)) rfl rfl fl2 ho6.rd (by omega) rfl rfl <| lx_add ((gt cl c) + ((1 : Int))) rfl rfl rfl (by omega) (by omega) (by omega) <| lx_ix (i := c) rfl eT58 ho6.rd rfl rfl (by omega) <| lx_st (i := c) ((gt cl c) + ((1 : Int))) rfl rfl Try.sizeOf2 ho6 (by omega) rfl rfl (fun _ _ _ _ _ => trivial) fun h7 ho8 hc2 hsz1 => ?_
          have hx0_5 := hx0_4.trans (ho6.ext hc2 hx0_4.size)
          have ho9 := ho7.chg hc2 (dj_new ho1 ho3)
          refine lx_nil <| wi_inBlock <| wi_reg rfl <| lx_move (.int .i64 ((t : Nat) : Int)) rfl rfl <| lx_add (((t + 1 : Nat) : Int)) rfl rfl rfl (by omega) (by omega) (by omega) <| lx_assign (.int .i64 ((t + 1 : Nat) : Int)) rfl rfl <| lx_nil <| ?_
          -- L2.1
          refine IH2 _ _ (t + 1, cl.set c ((gt cl c) + ((1 : Int)))) (agree_ups rfl (agree_mix (rngB_sub (by decide) (by decide) rfl) (agree_ups rfl agree_self))) ⟨rfl, trivial⟩ ⟨?_, ?_, hx0_5, ?_, ?_⟩ ?_
          · first | exact ho8 | (simpa using ho8)
          · first | exact ho9 | (simpa using ho9)
          · try dsimp only
            omega
          · try dsimp only
            rw [hcl]; exact crL_yes (by rw [← hkl, ← hj]; omega) (by rw [← hkl, ← hc])
          · first | omega | (dsimp only; omega)
        · refine lx_nil <| wi_false rfl <| wi_skip <| wi_inBlock <| wi_reg rfl <| lx_move (.int .i64 ((t : Nat) : Int)) rfl rfl <| lx_add (((t + 1 : Nat) : Int)) rfl rfl rfl (by omega) (by omega) (by omega) <| lx_assign (.int .i64 ((t + 1 : Nat) : Int)) rfl rfl <| lx_nil <| ?_
          -- L2.2
          refine IH2 _ _ (t + 1, cl) (agree_ups rfl (agree_mix (rngB_sub (by decide) (by decide) rfl) (agree_ups rfl agree_self))) ⟨rfl, trivial⟩ ⟨?_, ?_, hx0_4, ?_, ?_⟩ ?_
          · first | exact ho6 | (simpa using ho6)
          · first | exact ho7 | (simpa using ho7)
          · try dsimp only
            omega
          · try dsimp only
            rw [hcl]; exact crL_no (by rw [show (atL p.length (pb p)).length = k from by omega, ← hj]; omega)
          · first | omega | (dsimp only; omega)
    · refine lx_nil <| wi_false rfl <| wi_exit rfl <| wi_seq <| wi_reg rfl <| lx_move (v2) rfl rfl <| lx_assign (v2) rfl rfl <| lx_nil <| ?_
      -- R1
      refine wi_ret ⟨v2, (res_one rfl rfl), ⟨v2, rfl, ?_, hx0_4⟩⟩
      · rw [show crF p.length (pb p) = cl from by rw [hcl, show t = 2 ^ (atL p.length (pb p)).length from by omega]; rfl]; exact ho6

set_option maxRecDepth 10000 in
theorem ocrosscut_spec (h : Heap) (vp : Value) (hs : List Hdr) (p : List (List Bool)) (hr_vp : RdE encHd h vp hs) (ht_vp : RT encB h hs p) (hp1 : p.length ≤ 1000000) (hp2 : ∀ i, i < p.length → (gt p i).length ≤ 1000000) : Fx Try.prog 35 [vp] h (fun v h' => ∃ (s : Value) (xs : List Int), v = .tuple #[s, .int .i64 (opnC p)] ∧ OwE encI h' h.size 2 s xs ∧ (xs = if opnC p = 0 then crF p.length (pb p) else []) ∧ Ext h.size h h') := by
  have hl_vp := ht_vp.1
  refine fx_intro (n := 101) [(0, vp)] Try.func35 rfl rfl (by simp) ⟨rfl, trivial⟩ fun g0 => ?_
  refine wi_seq <| wi_reg rfl <| lx_assign (.slice none 0 0) rfl rfl <| lx_assign (.int .i64 0) rfl rfl <| lx_nil <| wi_seq <| wi_reg rfl <| lx_move (vp) rfl rfl <| lx_call [vp] rfl rfl Try.call92 rfl (open_spec h vp hs p hr_vp ht_vp (by omega) (by first | with_reducible assumption | omega)) (fun _ _ _ => trivial) ?_
  rintro _ h1 ⟨vj, vm, hj, hm, rj, rm, rfl, ho1, hot1, ho2, hot2, hop, hx1⟩
  have ho3 := ho1.base (Nat.le_refl h.size)
  have hot3 := hot1.base (Nat.le_refl h.size)
  have hl_hot3 := hot3.1
  have ho4 := ho2.base (Nat.le_refl h.size)
  have hot4 := hot2.base (Nat.le_refl h.size)
  have hl_hot4 := hot4.1
  refine lx_move (.tuple #[.agg #[vj, vm], .int .i64 (opnC p)]) rfl rfl <| lx_extract (.agg #[vj, vm]) rfl rfl rfl <| lx_extract (.int .i64 (opnC p)) rfl rfl rfl <| lx_alloc rfl rfl Try.zeroValue119 (fun _ _ _ => trivial) fun bn1 h2 hbn1 hbk1 hx2 hsz1 => ?_
  have hbb1 : h.size ≤ bn1 := by have := hx1.size; omega
  have hdj1 : Value.ownBlock vj ≠ some bn1 := by intro e; have := (ho3.lt e).2; omega
  have hnb1 : Nbt hj bn1 := nbt_new hot3 (by omega)
  have hdj2 : Value.ownBlock vm ≠ some bn1 := by intro e; have := (ho4.lt e).2; omega
  have hnb2 : Nbt hm bn1 := nbt_new hot4 (by omega)
  have hx0_1 := hx1.trans2 hx2 hx1.size
  have ho5 := ho3.extS hx2
  have hot5 := hot3.extS hx2
  have ho6 := ho4.extS hx2
  have hot6 := hot4.extS hx2
  have hbk1 : Blk h2 bn1 #[.slice none 0 0, .slice none 0 0] 119 := hbk1
  refine lx_stBA (#[vj, vm]) rfl rfl Try.sizeOf119 hbk1 rfl rfl rfl rfl (one2 (sl_one ho5.rd) (sl_one ho6.rd)) (fun _ _ _ _ => trivial) fun h3 hbk2 hc1 => ?_
  have hx0_2 := hx0_1.trans (hc1.ext hbb1)
  have ho7 := hc1.owE ho5 hdj1
  have hot7 := hot5.chgB hc1 hnb1
  have ho8 := hc1.owE ho6 hdj2
  have hot8 := hot6.chgB hc1 hnb2
  refine lx_assign (.int .i64 (opnC p)) rfl rfl <| lx_nil <| wi_seq <| wi_seq <| wi_reg rfl <| lx_move (.int .i64 (opnC p)) rfl rfl <| lx_neqS rfl rfl rfl (fun c1 => ?_) (fun c1 => ?_)
  · refine lx_nil <| wi_true rfl <| wi_seq <| wi_reg rfl <| lx_move (.int .i64 (opnC p)) rfl rfl <| lx_assign (.slice none 0 0) rfl rfl <| lx_assign (.int .i64 (opnC p)) rfl rfl <| lx_nil <| ?_
    -- R1
    refine wi_ret ⟨.tuple #[.slice none 0 0, .int .i64 (opnC p)], (res_two rfl rfl rfl), ⟨.slice none 0 0, [], rfl, (owE_nil encI _ h.size 2), ?_, hx0_2⟩⟩
    · rw [if_neg (by omega)]
  · refine lx_nil <| wi_false rfl <| wi_skip <| wi_seq <| wi_reg rfl <| ?_
    have hz := opnC_zero (p := p) (by omega)
    have hok := chkT_ok (p := p) hz.1
    have hp12 : p.length ≤ 12 := hok.2.1
    have hpq : Sq p p.length := isT_sq hok.2.2
    have hio := isT_o hok.2.2
    have hng : noGap p.length (pb p) := ngB_iff.1 hz.2
    obtain ⟨hrj, hrm⟩ : rj = tabI p.length (joinF p.length (pb p)) ∧ rm = tabI p.length (meetF p.length (pb p)) := opnP_ok hop (by omega)
    have hp0 : 1 ≤ p.length := hok.1
    have hlo := lo_at hio hng hp0
    have hhi := hi_at hio hng hp0
    have hlon := hlo.2.1
    have hhin := hhi.2.1
    have hpe : 2 ^ hs.length = 2 ^ p.length := by rw [hl_vp]
    have hpw9 := pow12 hp12
    have hpp : 0 < 2 ^ p.length := Nat.pow_pos (by omega)
    refine lx_move (vp) rfl rfl <| lx_len rfl Try.underlying29 hr_vp rfl <| lx_conv ((hs.length : Nat) : Int) rfl Try.underlying3 Try.underlying45 rfl (wrap_u64 (by omega) (by omega)) <| lx_shl (m := 1) (n := hs.length) rfl rfl rfl (by show _ ≤ 64; omega) (wrap_i64 (by omega) (by omega)) <| lx_sub (((2 ^ p.length - 1 : Nat) : Int)) rfl rfl rfl (by omega) (by omega) (by omega) <| lx_assign (.int .i64 ((2 ^ p.length - 1 : Nat) : Int)) rfl rfl <| lx_nil <| wi_seq <| wi_reg rfl <| lx_move (vp) rfl rfl <| lx_move (.int .i64 ((2 ^ p.length - 1 : Nat) : Int)) rfl rfl <| lx_move (vp) rfl rfl <| lx_makeFunc [vp] [] rfl rfl rfl <| lx_call [vp, .int .i64 ((2 ^ p.length - 1 : Nat) : Int), .func (.func 80) #[vp] #[]] rfl rfl Try.call95 rfl (bound_up_spec h3 vp hs p (2 ^ p.length - 1) (hr_vp.extS hx0_2) (ht_vp.extS hx0_2) (by omega) hpq (by omega)) (fun _ _ _ => trivial) ?_
    rintro _ h4 ⟨rfl, rfl⟩
    refine lx_move (vp) rfl rfl <| lx_move (.int .i64 ((2 ^ p.length - 1 : Nat) : Int)) rfl rfl <| lx_move (vp) rfl rfl <| lx_makeFunc [vp] [] rfl rfl rfl <| lx_call [vp, .int .i64 ((2 ^ p.length - 1 : Nat) : Int), .func (.func 81) #[vp] #[]] rfl rfl Try.call95 rfl (bound_dn_spec h3 vp hs p (2 ^ p.length - 1) (hr_vp.extS hx0_2) (ht_vp.extS hx0_2) (by omega) hpq (by omega)) (fun _ _ _ => trivial) ?_
    rintro _ h5 ⟨rfl, rfl⟩
    rw [hlo.1, hhi.1]
    refine lx_assign (.int .i64 ((loN p.length (pb p) : Nat) : Int)) rfl rfl <| lx_assign (.int .i64 ((hiN p.length (pb p) : Nat) : Int)) rfl rfl <| lx_nil <| wi_seq <| wi_reg rfl <| lx_assign (.slice none 0 0) rfl rfl <| lx_nil <| wi_seq <| wi_seq <| wi_reg rfl <| lx_move (vp) rfl rfl <| lx_len rfl Try.underlying29 hr_vp rfl <| lx_move (.int .i64 0) rfl rfl <| lx_nil <| wi_block <| ?_
    refine wi_loop (σ := Nat × Value × (List Int)) (rngB 42 54 [9, 10]) (fun (ss : Nat × Value × (List Int)) => [(42, .int .i64 ((ss.1 : Nat) : Int)), (9, ss.2.1)]) (fun (ss : Nat × Value × (List Int)) (hh : Heap) => Blk hh bn1 #[vj, vm] 119 ∧ OwE encHd hh h.size 25 vj hj ∧ OT encI hh h.size 3 hj rj ∧ OwE encI hh h.size 3 ss.2.1 ss.2.2 ∧ Djt hj ss.2.1 ∧ Ext h.size h hh ∧ (ss.1 ≤ p.length) ∧ (ss.2.2 = filtF ss.1 (rbF p.length (pb p) (loN p.length (pb p))))) (fun (ss : Nat × Value × (List Int)) => p.length - ss.1) (0, .slice none 0 0, []) ⟨rfl, rfl, trivial⟩ ⟨?_, ?_, ?_, ?_, (djt_nil _), hx0_2, ?_, ?_⟩ ?_
    · exact hbk2
    · first | exact ho7 | (simpa using ho7)
    · first | exact hot7 | (simpa using hot7)
    · first | exact (owE_nil encI _ h.size 3) | (simpa using (owE_nil encI _ h.size 3))
    · try dsimp only
      omega
    · try dsimp only
      first | done | rfl
    rintro g1 ⟨x, v, xs⟩ hh1 ⟨hbk3, ho9, hot9, ho10, hdt1, hx0_3, hx, hxs⟩ IH1
    dsimp only at *
    have hxl : xs.length ≤ x := by rw [hxs]; exact filtF_length _ _
    have hl_hot9 := hot9.1
    refine wi_seq <| wi_reg rfl <| lx_lssS rfl rfl rfl (fun c2 => ?_) (fun c2 => ?_)
    · refine lx_nil <| wi_seq <| wi_true rfl <| wi_skip <| wi_seq <| wi_block <| wi_seq <| wi_reg rfl <| lx_move (.int .i64 ((x : Nat) : Int)) rfl rfl <| lx_assign (.int .i64 ((x : Nat) : Int)) rfl rfl <| lx_nil <| wi_seq <| wi_reg rfl <| lx_move (vp) rfl rfl <| lx_move (.int .i64 ((loN p.length (pb p) : Nat) : Int)) rfl rfl <| lx_move (.int .i64 ((x : Nat) : Int)) rfl rfl <| lx_call [vp, .int .i64 ((loN p.length (pb p) : Nat) : Int), .int .i64 ((x : Nat) : Int)] rfl rfl Try.call96 rfl (rightBelow_spec hh1 vp hs p (loN p.length (pb p)) x (hr_vp.extS hx0_3) (ht_vp.extS hx0_3) (by omega) hpq (by omega) (by omega)) (fun _ _ _ => trivial) ?_
      rintro _ h6 ⟨rfl, rfl⟩
      refine lx_nil <| wi_condS (t := rbF p.length (pb p) (loN p.length (pb p)) x) rfl (fun c3 => ?_) (fun c3 => ?_)
      · refine wi_reg rfl <| lx_move (v) rfl rfl <| lx_move (.int .i64 ((x : Nat) : Int)) rfl rfl <| lx_appendL (E := encI) (B := h.size) [((x : Nat) : Int)] [.int .i64 ((x : Nat) : Int)] rfl rfl (fun _ => rfl) rfl eT25 rfl rfl rfl rfl ho10 (fun _ => rfl) (by show xs.length + 1 ≤ _; omega) (by show (xs.length + 1) * 8 ≤ _; omega) hx0_3.size (fun _ _ => trivial) fun u1 v1 h7 ho11 hc2 hg1 => ?_
        have hx0_4 := hx0_3.trans (ho10.ext hc2 hx0_3.size)
        have ho12 := ho9.chg hc2 (dj_ty ho9 ho10 (by decide))
        have hot10 := hot9.chg hc2 hdt1
        have hb1 := hbk3.chg hc2 (nb_ty ho10 hbk3 (by decide))
        refine lx_assign (v1) rfl rfl <| lx_nil <| wi_inBlock <| wi_reg rfl <| lx_add (((x + 1 : Nat) : Int)) rfl rfl rfl (by omega) (by omega) (by omega) <| lx_move (.int .i64 ((x + 1 : Nat) : Int)) rfl rfl <| lx_nil <| ?_
        -- L0.1
        refine IH1 _ _ (x + 1, v1, xs ++ [((x : Nat) : Int)]) (agree_ups rfl agree_self) ⟨rfl, rfl, trivial⟩ ⟨?_, ?_, ?_, ?_, (djt_app hdt1 hot9 hg1), hx0_4, ?_, ?_⟩ ?_
        · exact hb1
        · first | exact ho12 | (simpa using ho12)
        · first | exact hot10 | (simpa using hot10)
        · first | exact ho11 | (simpa using ho11)
        · try dsimp only
          omega
        · try dsimp only
          rw [hxs]; exact filtF_yes (by assumption)
        · first | omega | (dsimp only; omega)
      · refine wi_skip <| wi_inBlock <| wi_reg rfl <| lx_add (((x + 1 : Nat) : Int)) rfl rfl rfl (by omega) (by omega) (by omega) <| lx_move (.int .i64 ((x + 1 : Nat) : Int)) rfl rfl <| lx_nil <| ?_
        -- L0.2
        refine IH1 _ _ (x + 1, v, xs) (agree_ups rfl agree_self) ⟨rfl, rfl, trivial⟩ ⟨?_, ?_, ?_, ?_, hdt1, hx0_3, ?_, ?_⟩ ?_
        · exact hbk3
        · first | exact ho9 | (simpa using ho9)
        · first | exact hot9 | (simpa using hot9)
        · first | exact ho10 | (simpa using ho10)
        · try dsimp only
          omega
        · try dsimp only
          rw [hxs]; exact filtF_no (by assumption)
        · first | omega | (dsimp only; omega)
    · refine lx_nil <| wi_seq <| wi_false rfl <| wi_exit rfl <| wi_seq <| wi_reg rfl <| ?_
      have hxa : xs = atL p.length (pb p) := by rw [hxs, show x = p.length from by omega]; rfl
      have hal := atL_len p.length (pb p)
      rw [hxa] at ho10
      refine lx_move (v) rfl rfl <| lx_len rfl Try.underlying25 ho10.rd rfl <| lx_add (((((atL p.length (pb p))).length + 1 : Nat) : Int)) rfl rfl rfl (by omega) (by omega) (by omega) <| lx_make (E := encI) (n := ((atL p.length (pb p))).length + 1) (B := hh1.size) (0 : Int) rfl rfl Try.underlying58 (eZ58) rfl rfl (by omega) (by omega) (Nat.le_refl _) (fun _ _ => trivial) fun v2 h8 ho13 hx3 hvb1 => ?_
      have hx0_5 := hx0_3.trans2 hx3 hx0_3.size
      have ho14 := ho9.extS hx3
      have hot11 := hot9.extS hx3
      have ho15 := ho10.extS hx3
      have hb2 := hbk3.extS hx3
      have ho16 := ho13.base hx0_3.size
      refine lx_assign (v2) rfl rfl <| lx_nil <| wi_seq <| wi_seq <| wi_reg rfl <| ?_
      have hpw := pow12 (show (atL p.length (pb p)).length ≤ 12 by omega)
      refine lx_move (v) rfl rfl <| lx_len rfl Try.underlying25 ho15.rd rfl <| lx_conv ((((atL p.length (pb p))).length : Nat) : Int) rfl Try.underlying3 Try.underlying45 rfl (wrap_u64 (by omega) (by omega)) <| lx_shl (m := 1) (n := ((atL p.length (pb p))).length) rfl rfl rfl (by show _ ≤ 64; omega) (wrap_i64 (by omega) (by omega)) <| lx_move (.int .i64 0) rfl rfl <| lx_nil <| wi_block <| ?_
      refine wi_loop (σ := Nat × (List Int)) (rngB 62 100 [12, 13, 14, 15, 16]) (fun (ss : Nat × (List Int)) => [(62, .int .i64 ((ss.1 : Nat) : Int))]) (fun (ss : Nat × (List Int)) (hh : Heap) => Blk hh bn1 #[vj, vm] 119 ∧ OwE encHd hh h.size 25 vj hj ∧ OT encI hh h.size 3 hj rj ∧ OwE encI hh h.size 2 v2 ss.2 ∧ OwE encI hh h.size 3 v ((atL p.length (pb p))) ∧ Ext h.size h hh ∧ (ss.1 ≤ 2 ^ (atL p.length (pb p)).length) ∧ (ss.2 = crL p.length (pb p) (loN p.length (pb p)) (hiN p.length (pb p)) (atL p.length (pb p)) ss.1)) (fun (ss : Nat × (List Int)) => 2 ^ (atL p.length (pb p)).length - ss.1) (0, List.replicate (((atL p.length (pb p))).length + 1) (0 : Int)) ⟨rfl, trivial⟩ ⟨?_, ?_, ?_, ?_, ?_, hx0_5, ?_, ?_⟩ ?_
      · exact hb2
      · first | exact ho14 | (simpa using ho14)
      · first | exact hot11 | (simpa using hot11)
      · first | exact ho16 | (simpa using ho16)
      · first | exact ho15 | (simpa using ho15)
      · try dsimp only
        exact Nat.zero_le _
      · try dsimp only
        exact crL_zero _ _ _ _ _
      rintro g2 ⟨t, cl⟩ hh2 ⟨hbk4, ho17, hot12, ho18, ho19, hx0_6, ht, hcl⟩ IH2
      dsimp only at *
      have hcll : cl.length = (atL p.length (pb p)).length + 1 := by rw [hcl]; exact crL_len _ _ _ _ _ _
      have hl_hot12 := hot12.1
      refine wi_seq <| wi_reg rfl <| ?_
      have hpw := pow12 (show (atL p.length (pb p)).length ≤ 12 by omega)
      refine lx_lssS rfl rfl rfl (fun c4 => ?_) (fun c4 => ?_)
      · refine lx_nil <| wi_seq <| wi_true rfl <| wi_skip <| wi_seq <| wi_block <| wi_seq <| wi_reg rfl <| lx_move (.int .i64 ((t : Nat) : Int)) rfl rfl <| lx_assign (.int .i64 ((t : Nat) : Int)) rfl rfl <| lx_nil <| wi_seq <| wi_reg rfl <| lx_move (.int .i64 ((loN p.length (pb p) : Nat) : Int)) rfl rfl <| lx_assign (.int .i64 ((loN p.length (pb p) : Nat) : Int)) rfl rfl <| lx_assign (.int .i64 0) rfl rfl <| lx_nil <| wi_seq <| wi_seq <| wi_reg rfl <| lx_move (v) rfl rfl <| lx_len rfl Try.underlying25 ho19.rd rfl <| lx_move (.int .i64 0) rfl rfl <| lx_nil <| wi_block <| ?_
        refine wi_loop (σ := Nat × Nat × Nat) (rngB 68 90 [13, 14, 15, 16]) (fun (ss : Nat × Nat × Nat) => [(68, .int .i64 ((ss.1 : Nat) : Int)), (13, .int .i64 ((ss.2.1 : Nat) : Int)), (14, .int .i64 ((ss.2.2 : Nat) : Int))]) (fun (ss : Nat × Nat × Nat) (hh : Heap) => hh2 = hh ∧ (ss.1 ≤ (atL p.length (pb p)).length) ∧ (ss.2.1 = crJ p.length (pb p) (loN p.length (pb p)) (atL p.length (pb p)) t ss.1) ∧ (ss.2.2 = crN t ss.1)) (fun (ss : Nat × Nat × Nat) => (atL p.length (pb p)).length - ss.1) (0, loN p.length (pb p), 0) ⟨rfl, rfl, rfl, trivial⟩ ⟨rfl, ?_, ?_, ?_⟩ ?_
        · try dsimp only
          omega
        · try dsimp only
          first | done | rfl
        · try dsimp only
          first | done | rfl
        rintro g3 ⟨k, j, c⟩ hh3 ⟨rfl, hk, hj9, hc⟩ IH3
        dsimp only at *
        have hcle := crN_le t k
        refine wi_seq <| wi_reg rfl <| lx_lssS rfl rfl rfl (fun c5 => ?_) (fun c5 => ?_)
        · refine lx_nil <| wi_seq <| wi_true rfl <| wi_skip <| wi_seq <| wi_block <| wi_seq <| wi_reg rfl <| ?_
          obtain ⟨a, hga, ha4, _⟩ := atL_at (show k < (atL p.length (pb p)).length by omega)
          refine lx_move (.int .i64 ((k : Nat) : Int)) rfl rfl <| lx_ix (i := k) rfl eT25 ho19.rd rfl rfl (by omega) <| lx_ld (i := k) (j := 0) (.int .i64 ((a : Nat) : Int)) rfl rfl fl3 ho19.rd (by omega) (by show some (Value.int .i64 (gt (atL p.length (pb p)) k)) = _; rw [hga]) rfl <| lx_assign (.int .i64 ((k : Nat) : Int)) rfl rfl <| lx_assign (.int .i64 ((a : Nat) : Int)) rfl rfl <| lx_nil <| wi_seq <| wi_reg rfl <| ?_
          have hdv := Nat.div_le_self t (2 ^ k)
          have hbl : t / 2 ^ k &&& 1 ≤ 1 := Nat.and_le_right
          refine lx_move (.int .i64 ((t : Nat) : Int)) rfl rfl <| lx_move (.int .i64 ((k : Nat) : Int)) rfl rfl <| lx_conv ((k : Nat) : Int) rfl Try.underlying3 Try.underlying45 rfl (wrap_u64 (by omega) (by omega)) <| lx_shr (m := t) (n := k) rfl rfl rfl (by show _ ≤ 64; omega) <| lx_and (m := t / 2 ^ k) (n := 1) rfl rfl rfl (by show _ < 2 ^ 64; omega) (by show _ < 2 ^ 64; omega) (wrap_i64 (by omega) (by omega)) <| lx_eqlS rfl rfl rfl (fun c6 => ?_) (fun c6 => ?_)
          · refine lx_nil <| wi_true rfl <| wi_seq <| wi_reg rfl <| ?_
            have hjl := crJ_lt hio hng hlon (al := atL p.length (pb p)) atL_rng t k (by omega)
            rw [← hj9] at hjl
            have hq5 : gt (gt rj j) a = ((jN p.length (pb p) j a : Nat) : Int) := by rw [hrj]; exact jN_nat hio hng hjl ha4
            have hrjl : rj.length = p.length := by rw [hrj]; exact tabI_len _ _
            have hrl : (gt rj j).length = p.length := by rw [hrj]; exact tabI_row hjl
            refine lx_fieldL (i := 0) rfl st119 (.inl rfl) rfl <| lx_ldB (vj) rfl rfl fl49 hbk4 rfl rfl <| lx_move (.int .i64 ((j : Nat) : Int)) rfl rfl <| lx_ix (i := j) rfl eT49 ho17.rd rfl rfl (by omega) <| lx_ld (i := j) (j := 0) ((gt hj j).v) rfl rfl fl25 ho17.rd (by omega) rfl rfl <| lx_move (.int .i64 ((a : Nat) : Int)) rfl rfl <| lx_ix (i := a) rfl eT25 (hot12.2.1 j (by omega)).rd rfl rfl (by omega) <| lx_ld (i := a) (j := 0) (.int .i64 ((jN p.length (pb p) j a : Nat) : Int)) rfl rfl fl3 (hot12.2.1 j (by omega)).rd (by omega) (by show some (Value.int .i64 (gt (gt rj j) a)) = _; rw [hq5]) rfl <| lx_assign (.int .i64 ((jN p.length (pb p) j a : Nat) : Int)) rfl rfl <| lx_nil <| wi_reg rfl <| lx_move (.int .i64 ((c : Nat) : Int)) rfl rfl <| lx_add (((c + 1 : Nat) : Int)) rfl rfl rfl (by omega) (by omega) (by omega) <| lx_assign (.int .i64 ((c + 1 : Nat) : Int)) rfl rfl <| lx_nil <| wi_inBlock <| wi_reg rfl <| lx_add (((k + 1 : Nat) : Int)) rfl rfl rfl (by omega) (by omega) (by omega) <| lx_move (.int .i64 ((k + 1 : Nat) : Int)) rfl rfl <| lx_nil <| ?_
            -- L4.1
            refine IH3 _ _ (k + 1, jN p.length (pb p) j a, c + 1) (agree_ups rfl agree_self) ⟨rfl, rfl, rfl, trivial⟩ ⟨rfl, ?_, ?_, ?_⟩ ?_
            · try dsimp only
              omega
            · try dsimp only
              rw [crJ, if_pos (bit_nz (by omega)), ← hj9, hga]; rfl
            · try dsimp only
              rw [crN, if_pos (bit_nz (by omega)), ← hc]
            · first | omega | (dsimp only; omega)
          · refine lx_nil <| wi_false rfl <| wi_skip <| wi_inBlock <| wi_reg rfl <| lx_add (((k + 1 : Nat) : Int)) rfl rfl rfl (by omega) (by omega) (by omega) <| lx_move (.int .i64 ((k + 1 : Nat) : Int)) rfl rfl <| lx_nil <| ?_
            -- L4.2
            refine IH3 _ _ (k + 1, j, c) (agree_ups rfl agree_self) ⟨rfl, rfl, rfl, trivial⟩ ⟨rfl, ?_, ?_, ?_⟩ ?_
            · try dsimp only
              omega
            · try dsimp only
              rw [crJ, if_neg (by rw [bit_zero.1 (by omega)]; simp), ← hj9]
            · try dsimp only
              rw [crN, if_neg (by rw [bit_zero.1 (by omega)]; simp), ← hc]
            · first | omega | (dsimp only; omega)
        · refine lx_nil <| wi_seq <| wi_false rfl <| wi_exit rfl <| wi_seq <| wi_reg rfl <| lx_move (.int .i64 ((j : Nat) : Int)) rfl rfl <| lx_move (.int .i64 ((hiN p.length (pb p) : Nat) : Int)) rfl rfl <| lx_eqlS rfl rfl rfl (fun c7 => ?_) (fun c7 => ?_)
          · refine lx_nil <| wi_true rfl <| wi_reg rfl <| ?_
            have hkl : k = (atL p.length (pb p)).length := by omega
            have hcn := crN_le t (atL p.length (pb p)).length
            have hca := crL_at (n := p.length) (f := pb p) (lo := loN p.length (pb p)) (hi := hiN p.length (pb p)) (al := atL p.length (pb p)) (t := t) (show crN t (atL p.length (pb p)).length < (atL p.length (pb p)).length + 1 by omega)
            rw [← hkl, ← hc, ← hcl] at hca
            refine lx_move (v2) rfl rfl <| lx_move (.int .i64 ((c : Nat) : Int)) rfl rfl <| lx_ix (i := c) rfl eT58 ho18.rd rfl rfl (by omega) <| lx_ld (i := c) (j := 0) (.int .i64 (gt cl c)) rfl rfl fl2 ho18.rd (by omega) rfl rfl <| lx_add ((gt cl c) + ((1 : Int))) rfl rfl rfl (by omega) (by omega) (by omega) <| lx_ix (i := c) rfl eT58 ho18.rd rfl rfl (by omega) <| lx_st (i := c) ((gt cl c) + ((1 : Int))) rfl rfl Try.sizeOf2 ho18 (by omega) rfl rfl (fun _ _ _ _ _ => trivial) fun h9 ho20 hc3 hsz2 => ?_
            have hx0_7 := hx0_6.trans (ho18.ext hc3 hx0_6.size)
            have ho21 := ho17.chg hc3 (dj_new ho9 ho13)
            have ho22 := ho19.chg hc3 (dj_new ho10 ho13)
            have hot13 := hot12.chg hc3 (djt_ty hot12 ho18 (by decide))
            have hb3 := hbk4.chg hc3 (nb_new hbk3 ho13)
            refine lx_nil <| wi_inBlock <| wi_reg rfl <| lx_add (((t + 1 : Nat) : Int)) rfl rfl rfl (by omega) (by omega) (by omega) <| lx_move (.int .i64 ((t + 1 : Nat) : Int)) rfl rfl <| lx_nil <| ?_
            -- L2.1
            refine IH2 _ _ (t + 1, cl.set c ((gt cl c) + ((1 : Int)))) (agree_ups rfl (agree_mix (rngB_sub (by decide) (by decide) rfl) (agree_ups rfl agree_self))) ⟨rfl, trivial⟩ ⟨?_, ?_, ?_, ?_, ?_, hx0_7, ?_, ?_⟩ ?_
            · exact hb3
            · first | exact ho21 | (simpa using ho21)
            · first | exact hot13 | (simpa using hot13)
            · first | exact ho20 | (simpa using ho20)
            · first | exact ho22 | (simpa using ho22)
            · try dsimp only
              omega
            · try dsimp only
              rw [hcl]; exact crL_yes (by rw [← hkl, ← hj9]; omega) (by rw [← hkl, ← hc])
            · first | omega | (dsimp only; omega)
          · refine lx_nil <| wi_false rfl <| wi_skip <| wi_inBlock <| wi_reg rfl <| lx_add (((t + 1 : Nat) : Int)) rfl rfl rfl (by omega) (by omega) (by omega) <| lx_move (.int .i64 ((t + 1 : Nat) : Int)) rfl rfl <| lx_nil <| ?_
            -- L2.2
            refine IH2 _ _ (t + 1, cl) (agree_ups rfl (agree_mix (rngB_sub (by decide) (by decide) rfl) (agree_ups rfl agree_self))) ⟨rfl, trivial⟩ ⟨?_, ?_, ?_, ?_, ?_, hx0_6, ?_, ?_⟩ ?_
            · exact hbk4
            · first | exact ho17 | (simpa using ho17)
            · first | exact hot12 | (simpa using hot12)
            · first | exact ho18 | (simpa using ho18)
            · first | exact ho19 | (simpa using ho19)
            · try dsimp only
              omega
            · try dsimp only
              rw [hcl]; exact crL_no (by rw [show (atL p.length (pb p)).length = k from by omega, ← hj9]; omega)
            · first | omega | (dsimp only; omega)
      · refine lx_nil <| wi_seq <| wi_false rfl <| wi_exit rfl <| wi_seq <| wi_reg rfl <| lx_move (v2) rfl rfl <| lx_assign (v2) rfl rfl <| lx_assign (.int .i64 0) rfl rfl <| lx_nil <| ?_
        -- R2
        refine wi_ret ⟨.tuple #[v2, .int .i64 0], (res_two rfl rfl rfl), ⟨v2, cl, ?_, ho18, ?_, hx0_6⟩⟩
        · rw [show opnC p = 0 from by omega]
        · rw [if_pos (by omega), hcl, show t = 2 ^ (atL p.length (pb p)).length from by omega]; rfl

theorem badR_dist {n o a b c i : Nat} {f : Nat → Nat → Bool} {bb : Bool} (ho : IsO n f) (hg : noGap n f) (h : badR n f o a b c i bb) : bb = !distB n f := by
  rcases h with ⟨h1, h2, h3, h4, h5, h6, h7⟩ | ⟨h1, _, h2⟩
  · rw [h1]
    cases hd : distB n f
    · rfl
    · exfalso
      refine (dist_bad ho hg).1 hd a b c h4 h5 h6 ?_
      have e1 := h2.2.1
      have e2 := h2.2.2.1
      rw [e1, e2]; exact h2
  · rw [h1, (dist_bad ho hg).2 fun a b c ha hb hc => h2 a b c ha hb hc]; rfl
theorem birC_of {p : List (List Bool)} (h : opnC p = 0) {bb : Bool} (hb : bb = !distB p.length (pb p)) : birC p = if bb then 91 else 0 := by
  unfold birC
  rw [if_pos h, hb]
  cases distB p.length (pb p) <;> rfl

set_option maxRecDepth 10000 in
theorem obirk_spec (h : Heap) (vp : Value) (hs : List Hdr) (p : List (List Bool)) (hr_vp : RdE encHd h vp hs) (ht_vp : RT encB h hs p) (hp1 : p.length ≤ 1000000) (hp2 : ∀ i, i < p.length → (gt p i).length ≤ 1000000) : Fx Try.prog 34 [vp] h (fun v h' => ∃ (s : Value) (xs : List Int), v = .tuple #[s, .int .i64 (birC p)] ∧ OwE encI h' h.size 3 s xs ∧ (xs = if birC p = 0 then birF p.length (pb p) else []) ∧ Ext h.size h h') := by
  have hl_vp := ht_vp.1
  refine fx_intro (n := 62) [(0, vp)] Try.func34 rfl rfl (by simp) ⟨rfl, trivial⟩ fun g0 => ?_
  refine wi_seq <| wi_reg rfl <| lx_assign (.slice none 0 0) rfl rfl <| lx_assign (.int .i64 0) rfl rfl <| lx_nil <| wi_seq <| wi_reg rfl <| lx_move (vp) rfl rfl <| lx_call [vp] rfl rfl Try.call92 rfl (open_spec h vp hs p hr_vp ht_vp (by omega) (by first | with_reducible assumption | omega)) (fun _ _ _ => trivial) ?_
  rintro _ h1 ⟨vj, vm, hj, hm, rj, rm, rfl, ho1, hot1, ho2, hot2, hop, hx1⟩
  have ho3 := ho1.base (Nat.le_refl h.size)
  have hot3 := hot1.base (Nat.le_refl h.size)
  have hl_hot3 := hot3.1
  have ho4 := ho2.base (Nat.le_refl h.size)
  have hot4 := hot2.base (Nat.le_refl h.size)
  have hl_hot4 := hot4.1
  refine lx_move (.tuple #[.agg #[vj, vm], .int .i64 (opnC p)]) rfl rfl <| lx_extract (.agg #[vj, vm]) rfl rfl rfl <| lx_extract (.int .i64 (opnC p)) rfl rfl rfl <| lx_alloc rfl rfl Try.zeroValue119 (fun _ _ _ => trivial) fun bn1 h2 hbn1 hbk1 hx2 hsz1 => ?_
  have hbb1 : h.size ≤ bn1 := by have := hx1.size; omega
  have hdj1 : Value.ownBlock vj ≠ some bn1 := by intro e; have := (ho3.lt e).2; omega
  have hnb1 : Nbt hj bn1 := nbt_new hot3 (by omega)
  have hdj2 : Value.ownBlock vm ≠ some bn1 := by intro e; have := (ho4.lt e).2; omega
  have hnb2 : Nbt hm bn1 := nbt_new hot4 (by omega)
  have hx0_1 := hx1.trans2 hx2 hx1.size
  have ho5 := ho3.extS hx2
  have hot5 := hot3.extS hx2
  have ho6 := ho4.extS hx2
  have hot6 := hot4.extS hx2
  have hbk1 : Blk h2 bn1 #[.slice none 0 0, .slice none 0 0] 119 := hbk1
  refine lx_stBA (#[vj, vm]) rfl rfl Try.sizeOf119 hbk1 rfl rfl rfl rfl (one2 (sl_one ho5.rd) (sl_one ho6.rd)) (fun _ _ _ _ => trivial) fun h3 hbk2 hc1 => ?_
  have hx0_2 := hx0_1.trans (hc1.ext hbb1)
  have ho7 := hc1.owE ho5 hdj1
  have hot7 := hot5.chgB hc1 hnb1
  have ho8 := hc1.owE ho6 hdj2
  have hot8 := hot6.chgB hc1 hnb2
  refine lx_assign (.int .i64 (opnC p)) rfl rfl <| lx_nil <| wi_seq <| wi_seq <| wi_reg rfl <| lx_move (.int .i64 (opnC p)) rfl rfl <| lx_neqS rfl rfl rfl (fun c1 => ?_) (fun c1 => ?_)
  · refine lx_nil <| wi_true rfl <| wi_seq <| wi_reg rfl <| lx_move (.int .i64 (opnC p)) rfl rfl <| lx_assign (.slice none 0 0) rfl rfl <| lx_assign (.int .i64 (opnC p)) rfl rfl <| lx_nil <| ?_
    have h9 : birC p = opnC p := if_neg (by omega)
    -- R1
    refine wi_ret ⟨.tuple #[.slice none 0 0, .int .i64 (opnC p)], (res_two rfl rfl rfl), ⟨.slice none 0 0, [], ?_, (owE_nil encI _ h.size 3), ?_, hx0_2⟩⟩
    · rw [h9]
    · rw [if_neg (by omega)]
  · refine lx_nil <| wi_false rfl <| wi_skip <| wi_seq <| wi_seq <| wi_reg rfl <| ?_
    have hz := opnC_zero (p := p) (by omega)
    have hok := chkT_ok (p := p) hz.1
    have hp12 : p.length ≤ 12 := hok.2.1
    have hpq : Sq p p.length := isT_sq hok.2.2
    have hio := isT_o hok.2.2
    have hng : noGap p.length (pb p) := ngB_iff.1 hz.2
    obtain ⟨hrj, hrm⟩ : rj = tabI p.length (joinF p.length (pb p)) ∧ rm = tabI p.length (meetF p.length (pb p)) := opnP_ok hop (by omega)
    refine lx_ldBA rfl rfl wd119 hbk2 rfl rfl <| lx_move (vp) rfl rfl <| lx_call [.agg #[vj, vm], vp] rfl rfl Try.call94 rfl (bad_spec h3 vp hs p vj hj rj vm hm rm ho7.rd hot7.rt ho8.rd hot8.rt (hr_vp.extS hx0_2) (ht_vp.extS hx0_2) (by omega) (by first | with_reducible assumption | omega) hio hng hrj hrm) (fun _ _ _ => trivial) ?_
    rintro _ h4 ⟨xo, xa, xb, xc, xi, xbb, rfl, hxb, hx3⟩
    have hx0_3 := hx0_2.trans2 hx3 hx0_2.size
    have ho9 := ho7.extS hx3
    have hot9 := hot7.extS hx3
    have ho10 := ho8.extS hx3
    have hot10 := hot8.extS hx3
    have hb1 := hbk2.extS hx3
    refine lx_move (.tuple #[.agg #[.int .i64 ((xo : Nat) : Int), .int .i64 ((xa : Nat) : Int), .int .i64 ((xb : Nat) : Int), .int .i64 ((xc : Nat) : Int), .int .i64 ((xi : Nat) : Int)], .bool xbb]) rfl rfl <| lx_extract (.agg #[.int .i64 ((xo : Nat) : Int), .int .i64 ((xa : Nat) : Int), .int .i64 ((xb : Nat) : Int), .int .i64 ((xc : Nat) : Int), .int .i64 ((xi : Nat) : Int)]) rfl rfl rfl <| lx_extract (.bool xbb) rfl rfl rfl <| lx_alloc rfl rfl Try.zeroValue48 (fun _ _ _ => trivial) fun bn2 h5 hbn2 hbk3 hx4 hsz2 => ?_
    have hbb2 : h.size ≤ bn2 := by have := hx0_3.size; omega
    have hne1 : bn2 ≠ bn1 := by have := hb1.lt; omega
    have hdj3 : Value.ownBlock vj ≠ some bn2 := by intro e; have := (ho9.lt e).2; omega
    have hnb3 : Nbt hj bn2 := nbt_new hot9 (by omega)
    have hdj4 : Value.ownBlock vm ≠ some bn2 := by intro e; have := (ho10.lt e).2; omega
    have hnb4 : Nbt hm bn2 := nbt_new hot10 (by omega)
    have hx0_4 := hx0_3.trans2 hx4 hx0_3.size
    have ho11 := ho9.extS hx4
    have hot11 := hot9.extS hx4
    have ho12 := ho10.extS hx4
    have hot12 := hot10.extS hx4
    have hb2 := hb1.extS hx4
    have hbk3 : Blk h5 bn2 #[.int .i64 0, .int .i64 0, .int .i64 0, .int .i64 0, .int .i64 0] 48 := hbk3
    refine lx_stBA (#[.int .i64 ((xo : Nat) : Int), .int .i64 ((xa : Nat) : Int), .int .i64 ((xb : Nat) : Int), .int .i64 ((xc : Nat) : Int), .int .i64 ((xi : Nat) : Int)]) rfl rfl Try.sizeOf48 hbk3 rfl rfl rfl rfl (by simp [Value.oneCell']) (fun _ _ _ _ => trivial) fun h6 hbk4 hc2 => ?_
    have hx0_5 := hx0_4.trans (hc2.ext hbb2)
    have ho13 := hc2.owE ho11 hdj3
    have hot13 := hot11.chgB hc2 hnb3
    have ho14 := hc2.owE ho12 hdj4
    have hot14 := hot12.chgB hc2 hnb4
    have hb3 := hc2.blk hb2 (Ne.symm hne1)
    refine lx_assign (.bool xbb) rfl rfl <| lx_nil <| wi_seq <| wi_reg rfl <| lx_move (.bool xbb) rfl rfl <| lx_nil <| wi_condS (t := xbb) rfl (fun c2 => ?_) (fun c2 => ?_)
    · refine wi_seq <| wi_reg rfl <| ?_
      have hbc := birC_of (p := p) (by omega) (badR_dist hio hng hxb)
      rw [if_pos (by assumption)] at hbc
      refine lx_assign (.slice none 0 0) rfl rfl <| lx_assign (.int .i64 91) rfl rfl <| lx_nil <| ?_
      -- R2
      refine wi_ret ⟨.tuple #[.slice none 0 0, .int .i64 91], (res_two rfl rfl rfl), ⟨.slice none 0 0, [], ?_, (owE_nil encI _ h.size 3), ?_, hx0_5⟩⟩
      · rw [hbc]
      · rw [if_neg (by omega)]
    · refine wi_skip <| wi_seq <| wi_reg rfl <| ?_
      have hbc := birC_of (p := p) (by omega) (badR_dist hio hng hxb)
      rw [if_neg (by rw [show xbb = false from by assumption]; simp)] at hbc
      have hjl := jel_len p.length (pb p)
      refine lx_move (vp) rfl rfl <| lx_len rfl Try.underlying29 hr_vp rfl <| lx_make (E := encI) (n := hs.length) (B := h6.size) (0 : Int) rfl rfl Try.underlying25 (eZ25) rfl rfl (by omega) (by omega) (Nat.le_refl _) (fun _ _ => trivial) fun v1 h7 ho15 hx5 hvb1 => ?_
      have hx0_6 := hx0_5.trans2 hx5 hx0_5.size
      have ho16 := ho13.extS hx5
      have hot15 := hot13.extS hx5
      have ho17 := ho14.extS hx5
      have hot16 := hot14.extS hx5
      have hb4 := hb3.extS hx5
      have hb5 := hbk4.extS hx5
      have ho18 := ho15.base hx0_5.size
      refine lx_assign (v1) rfl rfl <| lx_nil <| wi_seq <| wi_seq <| wi_reg rfl <| lx_move (vp) rfl rfl <| lx_call [vp] rfl rfl Try.call93 rfl (joinElements_spec h7 vp hs p (hr_vp.extS hx0_6) (ht_vp.extS hx0_6) (by omega) hpq) (fun _ _ _ => trivial) ?_
      rintro v2 h8 ⟨_, rfl, ho19, hx6⟩
      have hx0_7 := hx0_6.trans2 hx6 hx0_6.size
      have ho20 := ho16.extS hx6
      have hot17 := hot15.extS hx6
      have ho21 := ho17.extS hx6
      have hot18 := hot16.extS hx6
      have ho22 := ho18.extS hx6
      have hb6 := hb4.extS hx6
      have hb7 := hb5.extS hx6
      have ho23 := ho19.base hx0_6.size
      refine lx_len rfl Try.underlying25 ho23.rd rfl <| lx_move (.int .i64 0) rfl rfl <| lx_nil <| wi_block <| ?_
      refine wi_loop (σ := Nat × (List Int)) (rngB 33 61 [9, 10, 11]) (fun (ss : Nat × (List Int)) => [(33, .int .i64 ((ss.1 : Nat) : Int))]) (fun (ss : Nat × (List Int)) (hh : Heap) => OwE encI hh h.size 3 v1 ss.2 ∧ OwE encI hh h.size 3 v2 ((jelF p.length (pb p))) ∧ Dj v1 v2 ∧ Ext h.size h hh ∧ (ss.1 ≤ (jelF p.length (pb p)).length) ∧ (ss.2 = mapR p.length fun q => ((birK (pb p) (jelF p.length (pb p)) ss.1 q : Nat) : Int))) (fun (ss : Nat × (List Int)) => (jelF p.length (pb p)).length - ss.1) (0, List.replicate hs.length (0 : Int)) ⟨rfl, trivial⟩ ⟨?_, ?_, (dj_new ho18 ho19), hx0_7, ?_, ?_⟩ ?_
      · first | exact ho22 | (simpa using ho22)
      · first | exact ho23 | (simpa using ho23)
      · try dsimp only
        omega
      · try dsimp only
        rw [hl_vp]; exact rep_mapR _ _
      rintro g1 ⟨k, xs⟩ hh1 ⟨ho24, ho25, hdj5, hx0_8, hk, hxs⟩ IH1
      dsimp only at *
      have hxl : xs.length = p.length := by rw [hxs]; exact mapR_len _ _
      refine wi_seq <| wi_reg rfl <| lx_lssS rfl rfl rfl (fun c3 => ?_) (fun c3 => ?_)
      · refine lx_nil <| wi_seq <| wi_true rfl <| wi_skip <| wi_seq <| wi_block <| wi_seq <| wi_reg rfl <| ?_
        obtain ⟨a, hga, ha4, _⟩ := jel_at (show k < (jelF p.length (pb p)).length by omega)
        refine lx_move (.int .i64 ((k : Nat) : Int)) rfl rfl <| lx_ix (i := k) rfl eT25 ho25.rd rfl rfl (by omega) <| lx_ld (i := k) (j := 0) (.int .i64 ((a : Nat) : Int)) rfl rfl fl3 ho25.rd (by omega) (by show some (Value.int .i64 (gt (jelF p.length (pb p)) k)) = _; rw [hga]) rfl <| lx_assign (.int .i64 ((k : Nat) : Int)) rfl rfl <| lx_assign (.int .i64 ((a : Nat) : Int)) rfl rfl <| lx_nil <| wi_seq <| wi_reg rfl <| lx_move (vp) rfl rfl <| lx_len rfl Try.underlying29 hr_vp rfl <| lx_move (.int .i64 0) rfl rfl <| lx_nil <| wi_block <| ?_
        refine wi_loop (σ := Nat × (List Int)) (rngB 40 60 [11]) (fun (ss : Nat × (List Int)) => [(40, .int .i64 ((ss.1 : Nat) : Int))]) (fun (ss : Nat × (List Int)) (hh : Heap) => OwE encI hh h.size 3 v1 ss.2 ∧ OwE encI hh h.size 3 v2 ((jelF p.length (pb p))) ∧ Dj v1 v2 ∧ Ext h.size h hh ∧ (ss.1 ≤ p.length) ∧ (ss.2 = mapR p.length fun q => if q < ss.1 then ((birK (pb p) (jelF p.length (pb p)) (k + 1) q : Nat) : Int) else ((birK (pb p) (jelF p.length (pb p)) k q : Nat) : Int))) (fun (ss : Nat × (List Int)) => p.length - ss.1) (0, xs) ⟨rfl, trivial⟩ ⟨?_, ?_, hdj5, hx0_8, ?_, ?_⟩ ?_
        · first | exact ho24 | (simpa using ho24)
        · first | exact ho25 | (simpa using ho25)
        · try dsimp only
          omega
        · try dsimp only
          rw [hxs]; exact mapR_congr fun q _ => by rw [if_neg (by omega)]
        rintro g2 ⟨x, ys⟩ hh2 ⟨ho26, ho27, hdj6, hx0_9, hx, hys⟩ IH2
        dsimp only at *
        have hyl : ys.length = p.length := by rw [hys]; exact mapR_len _ _
        refine wi_seq <| wi_reg rfl <| lx_lssS rfl rfl rfl (fun c4 => ?_) (fun c4 => ?_)
        · refine lx_nil <| wi_seq <| wi_true rfl <| wi_skip <| wi_seq <| wi_block <| wi_seq <| wi_reg rfl <| lx_move (.int .i64 ((x : Nat) : Int)) rfl rfl <| lx_assign (.int .i64 ((x : Nat) : Int)) rfl rfl <| lx_nil <| wi_seq <| wi_reg rfl <| lx_move (vp) rfl rfl <| lx_move (.int .i64 ((a : Nat) : Int)) rfl rfl <| lx_ix (i := a) rfl eT29 hr_vp rfl rfl (by omega) <| lx_ld (i := a) (j := 0) ((gt hs a).v) rfl rfl fl70 (hr_vp.extS hx0_9) (by omega) rfl rfl <| lx_move (.int .i64 ((x : Nat) : Int)) rfl rfl <| lx_ix (i := x) rfl eT70 (ht_vp.2 a (by omega)) rfl rfl (by rw [hpq.2 a (by omega)]; omega) <| lx_ld (i := x) (j := 0) (.bool (gt (gt p a) x)) rfl rfl fl4 ((ht_vp.extS hx0_9).2 a (by omega)) (by rw [hpq.2 a (by omega)]; omega) rfl rfl <| lx_nil <| wi_condS (t := gt (gt p a) x) rfl (fun c5 => ?_) (fun c5 => ?_)
          · refine wi_reg rfl <| ?_
            have hak : pb p (gt (jelF p.length (pb p)) k).toNat x = true := by rw [hga]; assumption
            have hpw := pow12 (show k ≤ 12 by omega)
            have hpw1 := pow12 (show k + 1 ≤ 12 by omega)
            have hlt := birK_lt (pb p) (jelF p.length (pb p)) k x
            have hlt2 := birK_lt (pb p) (jelF p.length (pb p)) (k + 1) x
            have hor := birK_yes hak
            have hgx : gt ys x = ((birK (pb p) (jelF p.length (pb p)) k x : Nat) : Int) := by rw [hys, gt_mapR (by omega), if_neg (by omega)]
            refine lx_move (v1) rfl rfl <| lx_move (.int .i64 ((x : Nat) : Int)) rfl rfl <| lx_ix (i := x) rfl eT25 ho26.rd rfl rfl (by omega) <| lx_ld (i := x) (j := 0) (.int .i64 ((birK (pb p) (jelF p.length (pb p)) k x : Nat) : Int)) rfl rfl fl3 ho26.rd (by omega) (by show some (Value.int .i64 (gt ys x)) = _; rw [hgx]) rfl <| lx_move (.int .i64 ((k : Nat) : Int)) rfl rfl <| lx_conv ((k : Nat) : Int) rfl Try.underlying3 Try.underlying45 rfl (wrap_u64 (by omega) (by omega)) <| lx_shl (m := 1) (n := k) rfl rfl rfl (by show _ ≤ 64; omega) (wrap_i64 (by omega) (by omega)) <| lx_or (m := birK (pb p) (jelF p.length (pb p)) k x) (n := 1 * 2 ^ k) rfl rfl rfl (by show _ < 2 ^ 64; omega) (by show _ < 2 ^ 64; omega) (wrap_i64 (by omega) (by omega)) <| lx_ix (i := x) rfl eT25 ho26.rd rfl rfl (by omega) <| lx_st (i := x) ((((birK (pb p) (jelF p.length (pb p)) k x) ||| (1 * 2 ^ k) : Nat) : Int)) rfl rfl Try.sizeOf3 ho26 (by omega) rfl rfl (fun _ _ _ _ _ => trivial) fun h9 ho28 hc3 hsz3 => ?_
            have hx0_10 := hx0_9.trans (ho26.ext hc3 hx0_9.size)
            have ho29 := ho27.chg hc3 (Dj.symm hdj6)
            refine lx_nil <| wi_inBlock <| wi_reg rfl <| lx_add (((x + 1 : Nat) : Int)) rfl rfl rfl (by omega) (by omega) (by omega) <| lx_move (.int .i64 ((x + 1 : Nat) : Int)) rfl rfl <| lx_nil <| ?_
            -- L2.1
            refine IH2 _ _ (x + 1, ys.set x ((((birK (pb p) (jelF p.length (pb p)) k x) ||| (1 * 2 ^ k) : Nat) : Int))) (agree_ups rfl agree_self) ⟨rfl, trivial⟩ ⟨?_, ?_, hdj6, hx0_10, ?_, ?_⟩ ?_
            · first | exact ho28 | (simpa using ho28)
            · first | exact ho29 | (simpa using ho29)
            · try dsimp only
              omega
            · try dsimp only
              rw [hys, mapR_set (by omega)]
              refine mapR_congr fun q hq => ?_
              by_cases e : q = x
              · subst e; rw [if_pos rfl, if_pos (by omega), hor]
              · rw [if_neg e]
                by_cases e2 : q < x
                · rw [if_pos e2, if_pos (by omega)]
                · rw [if_neg e2, if_neg (by omega)]
            · first | omega | (dsimp only; omega)
          · refine wi_skip <| wi_inBlock <| wi_reg rfl <| lx_add (((x + 1 : Nat) : Int)) rfl rfl rfl (by omega) (by omega) (by omega) <| lx_move (.int .i64 ((x + 1 : Nat) : Int)) rfl rfl <| lx_nil <| ?_
            -- L2.2
            refine IH2 _ _ (x + 1, ys) (agree_ups rfl agree_self) ⟨rfl, trivial⟩ ⟨?_, ?_, hdj6, hx0_9, ?_, ?_⟩ ?_
            · first | exact ho26 | (simpa using ho26)
            · first | exact ho27 | (simpa using ho27)
            · try dsimp only
              omega
            · try dsimp only
              rw [hys]
              refine mapR_congr fun q hq => ?_
              by_cases e : q = x
              · subst e; rw [if_neg (by omega), if_pos (by omega), birK_no (by rw [hga]; assumption)]
              · by_cases e2 : q < x
                · rw [if_pos e2, if_pos (by omega)]
                · rw [if_neg e2, if_neg (by omega)]
            · first | omega | (dsimp only; omega)
        · refine lx_nil <| wi_seq <| wi_false rfl <| wi_exit rfl <| wi_inBlock <| wi_reg rfl <| lx_add (((k + 1 : Nat) : Int)) rfl rfl rfl (by omega) (by omega) (by omega) <| lx_move (.int .i64 ((k + 1 : Nat) : Int)) rfl rfl <| lx_nil <| ?_
          -- L0.1
          refine IH1 _ _ (k + 1, ys) (agree_ups rfl (agree_mix (rngB_sub (by decide) (by decide) rfl) (agree_ups rfl agree_self))) ⟨rfl, trivial⟩ ⟨?_, ?_, hdj6, hx0_9, ?_, ?_⟩ ?_
          · first | exact ho26 | (simpa using ho26)
          · first | exact ho27 | (simpa using ho27)
          · try dsimp only
            omega
          · try dsimp only
            rw [hys, show x = p.length from by omega]; exact mapR_congr fun q hq => by rw [if_pos hq]
          · first | omega | (dsimp only; omega)
      · refine lx_nil <| wi_seq <| wi_false rfl <| wi_exit rfl <| wi_seq <| wi_reg rfl <| lx_move (v1) rfl rfl <| lx_assign (v1) rfl rfl <| lx_assign (.int .i64 0) rfl rfl <| lx_nil <| ?_
        -- R3
        refine wi_ret ⟨.tuple #[v1, .int .i64 0], (res_two rfl rfl rfl), ⟨v1, xs, ?_, ho24, ?_, hx0_8⟩⟩
        · rw [hbc]
        · rw [if_pos hbc, hxs, show k = (jelF p.length (pb p)).length from by omega]; rfl

end Go.Proofs.Ytdokijbdnajhgaa
