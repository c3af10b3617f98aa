/-
  Texts in one: PK, PL, XOFind, XOFindB, OS.
-/
import Derived.Test.YtdokijbdnajhgaaMCompl9
import Derived.Ground.Names2Prog
import Derived.Shelf.Slices.SearchI
import Derived.Test.YtdokijbdnajhgaaProg
set_option linter.unusedSimpArgs false
set_option linter.unusedVariables false
namespace Go.Proofs.Ytdokijbdnajhgaa
open Go Go.X

theorem low_congr {n s : Nat} {f g : Nat → Nat → Bool} (h : ∀ x y, x < n → y < n → f x y = g x y) : lowS n f s = lowS n g s := colN_congr fun z hz => by
  rw [Bool.eq_iff_iff, rall_iff, rall_iff]
  exact ⟨fun k q hq => by rw [← h z q hz hq]; exact k q hq, fun k q hq => by rw [h z q hz hq]; exact k q hq⟩
theorem upp_turn (n s : Nat) (f : Nat → Nat → Bool) : lowS (tabF n (flipF f)).length (pb (tabF n (flipF f))) s = uppS n f s := by
  rw [tabF_length, low_congr (g := flipF f) fun x y hx hy => pb_tabF hx hy]; rfl
theorem jnB_congr {n x y z : Nat} {f g : Nat → Nat → Bool} (h : ∀ x y, x < n → y < n → f x y = g x y) (hx : x < n) (hy : y < n) (hz : z < n) : jnB n f x y z = jnB n g x y z := by
  rw [Bool.eq_iff_iff, jnB_iff, jnB_iff, h x z hx hz, h y z hy hz]
  refine and_congr_right fun _ => and_congr_right fun _ => ⟨fun k w hw a b => ?_, fun k w hw a b => ?_⟩
  · rw [← h z w hz hw]; exact k w hw (by rw [h x w hx hw]; exact a) (by rw [h y w hy hw]; exact b)
  · rw [h z w hz hw]; exact k w hw (by rw [← h x w hx hw]; exact a) (by rw [← h y w hy hw]; exact b)
theorem join_congr {n x y : Nat} {f g : Nat → Nat → Bool} (h : ∀ x y, x < n → y < n → f x y = g x y) (hx : x < n) (hy : y < n) : joinF n f x y = joinF n g x y := firstF_congr fun z hz => jnB_congr h hx hy hz
theorem meet_turn {n x y : Nat} (f : Nat → Nat → Bool) (hx : x < n) (hy : y < n) : joinF (tabF n (flipF f)).length (pb (tabF n (flipF f))) x y = meetF n f x y := by
  rw [tabF_length, join_congr (g := flipF f) (fun x y hx hy => pb_tabF hx hy) hx hy]; rfl
abbrev lowQ (f : Nat → Nat → Bool) (t z q : Nat) : Bool := !t.testBit q || f z q
theorem low_one {n x : Nat} {f : Nat → Nat → Bool} (hx : x < n) : lowS n f (2 ^ x) = dnF n f x := by
  apply Nat.eq_of_testBit_eq
  intro z
  rw [Bool.eq_iff_iff, lowS_bit, dnF_bit, Bool.and_eq_true, decide_eq_true_iff]
  refine and_congr_right fun hz => ⟨fun h => h x hx (by rw [Nat.testBit_two_pow]; simp), fun h q hq hb => ?_⟩
  rw [Nat.testBit_two_pow, decide_eq_true_iff] at hb
  subst hb; exact h
theorem cuts_at {n x : Nat} {f : Nat → Nat → Bool} (ho : IsO n f) (hx : x < n) : ∃ j : Nat, (cutsF n f).countP (fun y => decide (y < (dnF n f x : Int))) = j ∧ j < (cutsF n f).length ∧ ∀ i, i < (cutsF n f).length → (gt (cutsF n f) i = ((dnF n f x : Nat) : Int) ↔ i = j) := by
  have hd := cut_down ho hx
  have hl := dnF_lt n f x
  obtain ⟨h1, h2⟩ := filtF_at hl hd
  refine ⟨_, count_at hl hd, h1, fun i hi => ⟨fun h => ?_, fun h => by rw [h]; exact h2⟩⟩
  rcases Nat.lt_trichotomy i (filtF (dnF n f x) (cutB n f)).length with h3 | h3 | h3
  · have := gt_asc (filtF_asc _ _) h3 h1; unfold cutsF at h; omega
  · exact h3
  · have := gt_asc (filtF_asc (2 ^ n) (cutB n f)) h3 hi; unfold cutsF at h; omega

set_option maxRecDepth 10000 in
theorem turned_spec (h : Heap) (vp : Value) (hs : List Hdr) (p : List (List Bool)) (hr_vp : RdE encHd h vp hs) (ht_vp : RT encB h hs p) (hp1 : p.length ≤ 12) (hp2 : Sq p p.length) : Fx Try.prog 130 [vp] h (fun v h' => ∃ (s : Value) (hs1 : List Hdr), v = s ∧ OwE encHd h' h.size 70 s hs1 ∧ OT encB h' h.size 4 hs1 (tabF p.length (flipF (pb p))) ∧ Ext h.size h h') := by
  have hl_vp := ht_vp.1
  refine fx_intro (n := 34) [(0, vp)] Try.func130 rfl rfl (by simp) ⟨rfl, trivial⟩ fun g0 => ?_
  refine wi_seq <| wi_reg rfl <| lx_assign (.slice none 0 0) rfl rfl <| lx_nil <| wi_seq <| wi_reg rfl <| lx_assign (.slice none 0 0) rfl rfl <| lx_nil <| wi_seq <| wi_seq <| wi_reg rfl <| lx_assign (.int .i64 0) rfl rfl <| lx_nil <| wi_block <| ?_
  refine wi_loop (σ := Nat × Value × (List Hdr) × (List (List Bool))) (rngB 3 33 []) (fun (ss : Nat × Value × (List Hdr) × (List (List Bool))) => [(4, .int .i64 ((ss.1 : Nat) : Int)), (3, ss.2.1)]) (fun (ss : Nat × Value × (List Hdr) × (List (List Bool))) (hh : Heap) => OwE encHd hh h.size 70 ss.2.1 ss.2.2.1 ∧ OT encB hh h.size 4 ss.2.2.1 ss.2.2.2 ∧ Ext h.size h hh ∧ (ss.1 ≤ p.length) ∧ (ss.2.2.2 = (List.range ss.1).map fun q => rowF p.length (flipF (pb p) q))) (fun (ss : Nat × Value × (List Hdr) × (List (List Bool))) => p.length - ss.1) (0, .slice none 0 0, [], []) ⟨rfl, rfl, trivial⟩ ⟨?_, ?_, (Ext.refl _ _), ?_, ?_⟩ ?_
  · first | exact (owE_nil encHd _ h.size 70) | (simpa using (owE_nil encHd _ h.size 70))
  · first | exact (OT.nil encB _ h.size 4) | (simpa using (OT.nil encB _ h.size 4))
  · try dsimp only
    omega
  · try dsimp only
    first | done | rfl
  rintro g1 ⟨x, v, hv, rows⟩ hh1 ⟨ho1, hot1, hx0_1, hx, hrw⟩ IH1
  dsimp only at *
  have hrl : rows.length = x := by rw [hrw]; simp
  have hl_hot1 := hot1.1
  refine wi_seq <| wi_seq <| wi_reg rfl <| lx_move (.int .i64 ((x : Nat) : Int)) rfl rfl <| lx_move (vp) rfl rfl <| lx_len rfl Try.underlying23 hr_vp rfl <| lx_lssS rfl rfl rfl (fun c1 => ?_) (fun c1 => ?_)
  · refine lx_nil <| wi_true rfl <| wi_skip <| wi_seq <| wi_block <| wi_seq <| wi_reg rfl <| lx_assign (.slice none 0 0) rfl rfl <| lx_nil <| wi_seq <| wi_seq <| wi_reg rfl <| lx_assign (.int .i64 0) rfl rfl <| lx_nil <| wi_block <| ?_
    refine wi_loop (σ := Nat × Value × (List Bool)) (rngB 13 29 [5, 6]) (fun (ss : Nat × Value × (List Bool)) => [(6, .int .i64 ((ss.1 : Nat) : Int)), (5, ss.2.1)]) (fun (ss : Nat × Value × (List Bool)) (hh : Heap) => OwE encHd hh h.size 70 v hv ∧ OT encB hh h.size 4 hv rows ∧ OwE encB hh h.size 4 ss.2.1 ss.2.2 ∧ Djt hv ss.2.1 ∧ Ext h.size h hh ∧ (ss.1 ≤ p.length) ∧ (ss.2.2 = (List.range ss.1).map (flipF (pb p) x))) (fun (ss : Nat × Value × (List Bool)) => p.length - ss.1) (0, .slice none 0 0, []) ⟨rfl, rfl, trivial⟩ ⟨?_, ?_, ?_, (djt_nil _), hx0_1, ?_, ?_⟩ ?_
    · first | exact ho1 | (simpa using ho1)
    · first | exact hot1 | (simpa using hot1)
    · first | exact (owE_nil encB _ h.size 4) | (simpa using (owE_nil encB _ h.size 4))
    · try dsimp only
      omega
    · try dsimp only
      first | done | rfl
    rintro g2 ⟨y, w, l⟩ hh2 ⟨ho2, hot2, ho3, hdt1, hx0_2, hy, hl⟩ IH2
    dsimp only at *
    have hll : l.length = y := by rw [hl]; simp
    have hl_hot2 := hot2.1
    refine wi_seq <| wi_seq <| wi_reg rfl <| lx_move (.int .i64 ((y : Nat) : Int)) rfl rfl <| lx_move (vp) rfl rfl <| lx_len rfl Try.underlying23 hr_vp rfl <| lx_lssS rfl rfl rfl (fun c2 => ?_) (fun c2 => ?_)
    · refine lx_nil <| wi_true rfl <| wi_skip <| wi_seq <| wi_block <| wi_reg rfl <| lx_move (w) rfl rfl <| lx_move (vp) rfl rfl <| lx_move (.int .i64 ((y : Nat) : Int)) rfl rfl <| lx_ix (i := y) rfl eT23 hr_vp rfl rfl (by first | omega | (simp only [List.length_set, List.length_append, List.length_cons, List.length_nil, List.length_replicate, List.length_take, swp_length, exch_length]; omega)) <| lx_ld (i := y) (j := 0) ((gt hs y).v) rfl rfl fl70 (hr_vp.extS hx0_2) (by first | omega | (simp only [List.length_set, List.length_append, List.length_cons, List.length_nil, List.length_replicate, List.length_take, swp_length, exch_length]; omega)) rfl rfl <| lx_move (.int .i64 ((x : Nat) : Int)) rfl rfl <| lx_ix (i := x) rfl eT70 (ht_vp.2 y (by first | omega | (simp only [List.length_set, List.length_append, List.length_cons, List.length_nil, List.length_replicate, List.length_take, swp_length, exch_length]; omega))) rfl rfl (by rw [hp2.2 y (by first | omega | (simp only [List.length_set, List.length_append, List.length_cons, List.length_nil, List.length_replicate, List.length_take, swp_length, exch_length]; omega))]; omega) <| lx_ld (i := x) (j := 0) (.bool (gt (gt p y) x)) rfl rfl fl4 ((ht_vp.extS hx0_2).2 y (by first | omega | (simp only [List.length_set, List.length_append, List.length_cons, List.length_nil, List.length_replicate, List.length_take, swp_length, exch_length]; omega))) (by rw [hp2.2 y (by first | omega | (simp only [List.length_set, List.length_append, List.length_cons, List.length_nil, List.length_replicate, List.length_take, swp_length, exch_length]; omega))]; omega) rfl rfl <| lx_appendL (E := encB) (B := h.size) [gt (gt p y) x] [.bool (gt (gt p y) x)] rfl rfl (fun _ => rfl) rfl eT70 rfl rfl rfl rfl ho3 (fun _ => rfl) (by show l.length + 1 ≤ _; omega) (by show (l.length + 1) * 1 ≤ _; omega) hx0_2.size (fun _ _ => trivial) fun u1 v1 h1 ho4 hc1 hg1 => ?_
      have hx0_3 := hx0_2.trans (ho3.ext hc1 hx0_2.size)
      have ho5 := ho2.chg hc1 (dj_ty ho2 ho3 (by decide))
      have hot3 := hot2.chg hc1 hdt1
      refine lx_assign (v1) rfl rfl <| lx_nil <| wi_inBlock <| wi_reg rfl <| lx_move (.int .i64 ((y : Nat) : Int)) rfl rfl <| lx_add (((y + 1 : Nat) : Int)) rfl rfl rfl (by omega) (by omega) (by omega) <| lx_assign (.int .i64 ((y + 1 : Nat) : Int)) rfl rfl <| lx_nil <| ?_
      -- L2.1
      refine IH2 _ _ (y + 1, v1, l ++ [gt (gt p y) x]) (agree_ups rfl agree_self) ⟨rfl, rfl, trivial⟩ ⟨?_, ?_, ?_, (djt_app hdt1 hot2 hg1), hx0_3, ?_, ?_⟩ ?_
      · first | exact ho5 | (simpa using ho5)
      · first | exact hot3 | (simpa using hot3)
      · first | exact ho4 | (simpa using ho4)
      · try dsimp only
        omega
      · try dsimp only
        rw [hl, List.range_succ, List.map_append]; rfl
      · first | omega | (dsimp only; omega)
    · have hot4 : OT encB hh2 h.size 4 (hv ++ [hdrOf w]) (rows ++ [l]) := OT.snoc hot2 ho3 hdt1
      refine lx_nil <| wi_false rfl <| wi_exit rfl <| wi_reg rfl <| lx_move (v) rfl rfl <| lx_move (w) rfl rfl <| lx_appendL (E := encHd) (B := h.size) [hdrOf w] [w] rfl rfl (fun _ => rfl) rfl eT23 rfl rfl (hdr_cells1 ho3.rd) rfl ho2 (fun _ => rfl) (by show hv.length + 1 ≤ _; omega) (by show (hv.length + 1) * 24 ≤ _; omega) hx0_2.size (fun _ _ => trivial) fun u2 v2 h2 ho6 hc2 hg2 => ?_
      have hx0_4 := hx0_2.trans (ho2.ext hc2 hx0_2.size)
      have hot5 : OT encB h2 h.size 4 (hv ++ [hdrOf w]) (rows ++ [l]) := hot4.chg hc2 (djt_ty hot4 ho2 (by decide))
      have hl_hot5 := hot5.1
      refine lx_assign (v2) rfl rfl <| lx_nil <| wi_inBlock <| wi_reg rfl <| lx_move (.int .i64 ((x : Nat) : Int)) rfl rfl <| lx_add (((x + 1 : Nat) : Int)) rfl rfl rfl (by omega) (by omega) (by omega) <| lx_assign (.int .i64 ((x + 1 : Nat) : Int)) rfl rfl <| lx_nil <| ?_
      -- L0.1
      refine IH1 _ _ (x + 1, v2, hv ++ [hdrOf w], rows ++ [l]) (agree_ups rfl (agree_mix (rngB_sub (by decide) (by decide) rfl) (agree_ups rfl agree_self))) ⟨rfl, rfl, trivial⟩ ⟨?_, ?_, hx0_4, ?_, ?_⟩ ?_
      · first | exact ho6 | (simpa using ho6)
      · first | exact hot5 | (simpa using hot5)
      · try dsimp only
        omega
      · try dsimp only
        rw [hrw, List.range_succ, List.map_append, hl, show y = p.length from by omega]; rfl
      · first | omega | (dsimp only; omega)
  · refine lx_nil <| wi_false rfl <| wi_exit rfl <| wi_seq <| wi_reg rfl <| lx_move (v) rfl rfl <| lx_assign (v) rfl rfl <| lx_nil <| ?_
    -- R1
    refine wi_ret ⟨v, (res_one rfl rfl), ⟨v, hv, rfl, ?_, ?_, hx0_1⟩⟩
    · exact ho1
    · rw [show tabF p.length (flipF (pb p)) = rows from by rw [hrw, show x = p.length from by omega]; rfl]; exact hot1

set_option maxRecDepth 10000 in
theorem lower_spec (h : Heap) (vp : Value) (hs : List Hdr) (p : List (List Bool)) (t : Nat) (hr_vp : RdE encHd h vp hs) (ht_vp : RT encB h hs p) (hp1 : p.length ≤ 12) (hp2 : Sq p p.length) (hp3 : t ≤ 4096) : Fx Try.prog 84 [vp, .int .i64 ((t : Nat) : Int)] h (fun v h' => v = .int .i64 ((lowS p.length (pb p) t : Nat) : Int) ∧ h = h') := by
  have hl_vp := ht_vp.1
  refine fx_intro (n := 44) [(0, vp), (1, .int .i64 ((t : Nat) : Int))] Try.func84 rfl rfl (by simp) ⟨rfl, rfl, trivial⟩ fun g0 => ?_
  refine wi_seq <| wi_reg rfl <| lx_assign (.int .i64 0) rfl rfl <| lx_nil <| wi_seq <| wi_reg rfl <| lx_assign (.int .i64 0) rfl rfl <| lx_nil <| wi_seq <| wi_seq <| wi_reg rfl <| lx_assign (.int .i64 0) rfl rfl <| lx_nil <| wi_block <| ?_
  refine wi_loop (σ := Nat × Nat) (rngB 5 43 []) (fun (ss : Nat × Nat) => [(6, .int .i64 ((ss.1 : Nat) : Int)), (5, .int .i64 ((ss.2 : Nat) : Int))]) (fun (ss : Nat × Nat) (hh : Heap) => h = hh ∧ (ss.1 ≤ p.length) ∧ (ss.2 = colN ss.1 (fun z => (List.range p.length).all (lowQ (pb p) t z)))) (fun (ss : Nat × Nat) => p.length - ss.1) (0, 0) ⟨rfl, rfl, trivial⟩ ⟨rfl, ?_, ?_⟩ ?_
  · try dsimp only
    omega
  · try dsimp only
    first | done | rfl
  rintro g1 ⟨x, o⟩ hh1 ⟨rfl, hx, ho⟩ IH1
  dsimp only at *
  refine wi_seq <| wi_seq <| wi_reg rfl <| lx_move (.int .i64 ((x : Nat) : Int)) rfl rfl <| lx_move (vp) rfl rfl <| lx_len rfl Try.underlying23 hr_vp rfl <| lx_lssS rfl rfl rfl (fun c1 => ?_) (fun c1 => ?_)
  · refine lx_nil <| wi_true rfl <| wi_skip <| wi_seq <| wi_block <| wi_seq <| wi_reg rfl <| lx_assign (.bool true) rfl rfl <| lx_nil <| wi_seq <| wi_seq <| wi_reg rfl <| lx_assign (.int .i64 0) rfl rfl <| lx_nil <| wi_block <| ?_
    refine wi_loop (σ := Nat × Bool) (rngB 15 37 [7, 8]) (fun (ss : Nat × Bool) => [(8, .int .i64 ((ss.1 : Nat) : Int)), (7, .bool ss.2)]) (fun (ss : Nat × Bool) (hh : Heap) => h = hh ∧ (ss.1 ≤ p.length) ∧ (ss.2 = (List.range ss.1).all (lowQ (pb p) t x))) (fun (ss : Nat × Bool) => p.length - ss.1) (0, true) ⟨rfl, rfl, trivial⟩ ⟨rfl, ?_, ?_⟩ ?_
    · try dsimp only
      omega
    · try dsimp only
      first | done | rfl
    rintro g2 ⟨y, w⟩ hh2 ⟨rfl, hy, hw⟩ IH2
    dsimp only at *
    refine wi_seq <| wi_seq <| wi_reg rfl <| lx_move (.int .i64 ((y : Nat) : Int)) rfl rfl <| lx_move (vp) rfl rfl <| lx_len rfl Try.underlying23 hr_vp rfl <| lx_lssS rfl rfl rfl (fun c2 => ?_) (fun c2 => ?_)
    · refine lx_nil <| wi_true rfl <| wi_skip <| wi_seq <| wi_block <| wi_reg rfl <| lx_move (.bool w) rfl rfl <| lx_move (.bool w) rfl rfl <| ?_
      cases c3 : w
      · refine lx_skip rfl <| lx_skip rfl <| lx_skip rfl <| lx_skip rfl <| lx_skip rfl <| lx_skip rfl <| lx_skip rfl <| lx_skip rfl <| lx_skip rfl <| lx_skip rfl <| lx_skip rfl <| lx_skip rfl <| lx_skip rfl <| lx_pick false (.bool false) rfl rfl rfl <| lx_assign (.bool false) rfl rfl <| lx_nil <| wi_inBlock <| wi_reg rfl <| lx_move (.int .i64 ((y : Nat) : Int)) rfl rfl <| lx_add (((y + 1 : Nat) : Int)) rfl rfl rfl (by omega) (by omega) (by omega) <| lx_assign (.int .i64 ((y + 1 : Nat) : Int)) rfl rfl <| lx_nil <| ?_
        -- L2.1
        refine IH2 _ _ (y + 1, false) (agree_ups rfl agree_self) ⟨rfl, rfl, trivial⟩ ⟨rfl, ?_, ?_⟩ ?_
        · try dsimp only
          omega
        · try dsimp only
          rw [rall_succ, ← hw]
          show _ = (w && (!t.testBit y || pb p x y))
          first
          | (rw [show w = false from by assumption]; rfl)
          | (rw [show w = true from by assumption, show t.testBit y = false from by assumption]; rfl)
          | (rw [show w = true from by assumption, show t.testBit y = true from by assumption]; simp; done)
        · first | omega | (dsimp only; omega)
      · refine lx_move (.int .i64 ((t : Nat) : Int)) rfl rfl <| lx_move (.int .i64 ((y : Nat) : Int)) rfl rfl <| lx_call [.int .i64 ((t : Nat) : Int), .int .i64 ((y : Nat) : Int)] rfl rfl Try.call78 rfl (in_spec h t y (by omega) (by omega)) (fun _ _ _ => trivial) ?_
        rintro _ h1 ⟨rfl, rfl⟩
        refine lx_not rfl rfl <| lx_move (.bool (!(t.testBit y))) rfl rfl <| ?_
        cases c4 : (t.testBit y)
        · refine lx_skip rfl <| lx_skip rfl <| lx_skip rfl <| lx_skip rfl <| lx_skip rfl <| lx_skip rfl <| lx_skip rfl <| lx_pick true (.bool true) rfl rfl rfl <| lx_pick true (.bool true) rfl rfl rfl <| lx_assign (.bool true) rfl rfl <| lx_nil <| wi_inBlock <| wi_reg rfl <| lx_move (.int .i64 ((y : Nat) : Int)) rfl rfl <| lx_add (((y + 1 : Nat) : Int)) rfl rfl rfl (by omega) (by omega) (by omega) <| lx_assign (.int .i64 ((y + 1 : Nat) : Int)) rfl rfl <| lx_nil <| ?_
          -- L2.2
          refine IH2 _ _ (y + 1, true) (agree_ups rfl agree_self) ⟨rfl, rfl, trivial⟩ ⟨rfl, ?_, ?_⟩ ?_
          · try dsimp only
            omega
          · try dsimp only
            rw [rall_succ, ← hw]
            show _ = (w && (!t.testBit y || pb p x y))
            first
            | (rw [show w = false from by assumption]; rfl)
            | (rw [show w = true from by assumption, show t.testBit y = false from by assumption]; rfl)
            | (rw [show w = true from by assumption, show t.testBit y = true from by assumption]; simp; done)
          · first | omega | (dsimp only; omega)
        · refine lx_move (vp) rfl rfl <| lx_move (.int .i64 ((x : Nat) : Int)) rfl rfl <| lx_ix (i := x) rfl eT23 hr_vp rfl rfl (by first | omega | (simp only [List.length_set, List.length_append, List.length_cons, List.length_nil, List.length_replicate, List.length_take, swp_length, exch_length]; omega)) <| lx_ld (i := x) (j := 0) ((gt hs x).v) rfl rfl fl70 hr_vp (by first | omega | (simp only [List.length_set, List.length_append, List.length_cons, List.length_nil, List.length_replicate, List.length_take, swp_length, exch_length]; omega)) rfl rfl <| lx_move (.int .i64 ((y : Nat) : Int)) rfl rfl <| lx_ix (i := y) rfl eT70 (ht_vp.2 x (by first | omega | (simp only [List.length_set, List.length_append, List.length_cons, List.length_nil, List.length_replicate, List.length_take, swp_length, exch_length]; omega))) rfl rfl (by rw [hp2.2 x (by first | omega | (simp only [List.length_set, List.length_append, List.length_cons, List.length_nil, List.length_replicate, List.length_take, swp_length, exch_length]; omega))]; omega) <| lx_ld (i := y) (j := 0) (.bool (gt (gt p x) y)) rfl rfl fl4 (ht_vp.2 x (by first | omega | (simp only [List.length_set, List.length_append, List.length_cons, List.length_nil, List.length_replicate, List.length_take, swp_length, exch_length]; omega))) (by rw [hp2.2 x (by first | omega | (simp only [List.length_set, List.length_append, List.length_cons, List.length_nil, List.length_replicate, List.length_take, swp_length, exch_length]; omega))]; omega) rfl rfl <| lx_pick false (.bool (gt (gt p x) y)) rfl rfl rfl <| lx_pick true (.bool (gt (gt p x) y)) rfl rfl rfl <| lx_assign (.bool (gt (gt p x) y)) rfl rfl <| lx_nil <| wi_inBlock <| wi_reg rfl <| lx_move (.int .i64 ((y : Nat) : Int)) rfl rfl <| lx_add (((y + 1 : Nat) : Int)) rfl rfl rfl (by omega) (by omega) (by omega) <| lx_assign (.int .i64 ((y + 1 : Nat) : Int)) rfl rfl <| lx_nil <| ?_
          -- L2.3
          refine IH2 _ _ (y + 1, gt (gt p x) y) (agree_ups rfl agree_self) ⟨rfl, rfl, trivial⟩ ⟨rfl, ?_, ?_⟩ ?_
          · try dsimp only
            omega
          · try dsimp only
            rw [rall_succ, ← hw]
            show _ = (w && (!t.testBit y || pb p x y))
            first
            | (rw [show w = false from by assumption]; rfl)
            | (rw [show w = true from by assumption, show t.testBit y = false from by assumption]; rfl)
            | (rw [show w = true from by assumption, show t.testBit y = true from by assumption]; simp; done)
          · first | omega | (dsimp only; omega)
    · refine lx_nil <| wi_false rfl <| wi_exit rfl <| wi_seq <| wi_reg rfl <| lx_move (.bool w) rfl rfl <| lx_nil <| wi_condS (t := w) rfl (fun c5 => ?_) (fun c5 => ?_)
      · refine wi_reg rfl <| ?_
        have hgx : (fun z => (List.range p.length).all (lowQ (pb p) t z)) x = true := by show (List.range p.length).all (lowQ (pb p) t x) = true; rw [show p.length = y from by omega, ← hw]; assumption
        have hpw := pow12 (show x ≤ 12 by omega)
        have hpw1 := pow12 (show x + 1 ≤ 12 by omega)
        have hlt : o < 2 ^ x := by rw [ho]; exact colN_lt _ _
        have hor : o ||| 1 * 2 ^ x < 2 ^ (x + 1) := by rw [ho, colN_set (n := x) (g := (fun z => (List.range p.length).all (lowQ (pb p) t z))) hgx]; exact colN_lt _ _
        refine lx_move (.int .i64 ((o : Nat) : Int)) rfl rfl <| lx_move (.int .i64 ((x : Nat) : Int)) rfl rfl <| lx_conv ((x : Nat) : Int) rfl Try.underlying3 Try.underlying45 rfl (wrap_u64 (by omega) (by omega)) <| lx_shl (m := 1) (n := x) rfl rfl rfl (by show _ ≤ 64; omega) (wrap_i64 (by omega) (by omega)) <| lx_or (m := o) (n := 1 * 2 ^ x) rfl rfl rfl (by show _ < 2 ^ 64; omega) (by show _ < 2 ^ 64; omega) (wrap_i64 (by omega) (by omega)) <| lx_assign (.int .i64 ((o ||| (1 * 2 ^ x) : Nat) : Int)) rfl rfl <| lx_nil <| wi_inBlock <| wi_reg rfl <| lx_move (.int .i64 ((x : Nat) : Int)) rfl rfl <| lx_add (((x + 1 : Nat) : Int)) rfl rfl rfl (by omega) (by omega) (by omega) <| lx_assign (.int .i64 ((x + 1 : Nat) : Int)) rfl rfl <| lx_nil <| ?_
        -- L0.1
        refine IH1 _ _ (x + 1, o ||| (1 * 2 ^ x)) (agree_ups rfl (agree_mix (rngB_sub (by decide) (by decide) rfl) (agree_ups rfl agree_self))) ⟨rfl, rfl, trivial⟩ ⟨rfl, ?_, ?_⟩ ?_
        · try dsimp only
          omega
        · try dsimp only
          rw [ho]; exact colN_set hgx
        · first | omega | (dsimp only; omega)
      · refine wi_skip <| wi_inBlock <| wi_reg rfl <| lx_move (.int .i64 ((x : Nat) : Int)) rfl rfl <| lx_add (((x + 1 : Nat) : Int)) rfl rfl rfl (by omega) (by omega) (by omega) <| lx_assign (.int .i64 ((x + 1 : Nat) : Int)) rfl rfl <| lx_nil <| ?_
        -- L0.2
        refine IH1 _ _ (x + 1, o) (agree_ups rfl (agree_mix (rngB_sub (by decide) (by decide) rfl) (agree_ups rfl agree_self))) ⟨rfl, rfl, trivial⟩ ⟨rfl, ?_, ?_⟩ ?_
        · try dsimp only
          omega
        · try dsimp only
          rw [ho]; exact colN_skip (by show (List.range p.length).all (lowQ (pb p) t x) = false; rw [show p.length = y from by omega, ← hw]; assumption)
        · first | omega | (dsimp only; omega)
  · refine lx_nil <| wi_false rfl <| wi_exit rfl <| wi_seq <| wi_reg rfl <| lx_move (.int .i64 ((o : Nat) : Int)) rfl rfl <| lx_assign (.int .i64 ((o : Nat) : Int)) rfl rfl <| lx_nil <| ?_
    -- R1
    refine wi_ret ⟨.int .i64 ((o : Nat) : Int), (res_one rfl rfl), ⟨?_, rfl⟩⟩
    · rw [ho, show x = p.length from by omega]; rfl

set_option maxRecDepth 10000 in
theorem upper_spec (h : Heap) (vp : Value) (hs : List Hdr) (p : List (List Bool)) (t : Nat) (hr_vp : RdE encHd h vp hs) (ht_vp : RT encB h hs p) (hp1 : p.length ≤ 12) (hp2 : Sq p p.length) (hp3 : t ≤ 4096) : Fx Try.prog 85 [vp, .int .i64 ((t : Nat) : Int)] h (fun v h' => v = .int .i64 ((uppS p.length (pb p) t : Nat) : Int) ∧ Ext h.size h h') := by
  have hl_vp := ht_vp.1
  refine fx_intro (n := 9) [(0, vp), (1, .int .i64 ((t : Nat) : Int))] Try.func85 rfl rfl (by simp) ⟨rfl, rfl, trivial⟩ fun g0 => ?_
  refine wi_seq <| wi_reg rfl <| lx_assign (.int .i64 0) rfl rfl <| lx_nil <| wi_seq <| wi_reg rfl <| lx_move (vp) rfl rfl <| lx_call [vp] rfl rfl Try.call130 rfl (turned_spec h vp hs p hr_vp ht_vp (by omega) (by first | with_reducible assumption | omega)) (fun _ _ _ => trivial) ?_
  rintro vt h1 ⟨_, ht, rfl, ho1, hot1, hx1⟩
  have ho2 := ho1.base (Nat.le_refl h.size)
  have hot2 := hot1.base (Nat.le_refl h.size)
  have hl_hot2 := hot2.1
  refine lx_move (.int .i64 ((t : Nat) : Int)) rfl rfl <| lx_call [vt, .int .i64 ((t : Nat) : Int)] rfl rfl Try.call84 rfl (lower_spec h1 vt ht (tabF p.length (flipF (pb p))) t ho2.rd hot2.rt (by rw [tabF_length]; omega) (by rw [tabF_length]; exact tabF_sq _ _) (by omega)) (fun _ _ _ => trivial) ?_
  rintro _ h2 ⟨rfl, rfl⟩
  refine lx_assign (.int .i64 ((lowS (tabF p.length (flipF (pb p))).length (pb (tabF p.length (flipF (pb p)))) t : Nat) : Int)) rfl rfl <| lx_nil <| ?_
  -- R1
  refine wi_ret ⟨.int .i64 ((lowS (tabF p.length (flipF (pb p))).length (pb (tabF p.length (flipF (pb p)))) t : Nat) : Int), (res_one rfl rfl), ⟨?_, hx1⟩⟩
  · rw [upp_turn]

set_option maxRecDepth 10000 in
theorem join_spec (h : Heap) (vp : Value) (hs : List Hdr) (p : List (List Bool)) (x : Nat) (y : Nat) (hr_vp : RdE encHd h vp hs) (ht_vp : RT encB h hs p) (hp1 : p.length ≤ 12) (hp2 : Sq p p.length) (hp3 : x < p.length) (hp4 : y < p.length) : Fx Try.prog 88 [vp, .int .i64 ((x : Nat) : Int), .int .i64 ((y : Nat) : Int)] h (fun v h' => v = .int .i64 (joinF p.length (pb p) x y) ∧ h = h') := by
  have hl_vp := ht_vp.1
  refine fx_intro (n := 70) [(0, vp), (1, .int .i64 ((x : Nat) : Int)), (2, .int .i64 ((y : Nat) : Int))] Try.func88 rfl rfl (by simp) ⟨rfl, rfl, rfl, trivial⟩ fun g0 => ?_
  refine wi_seq <| wi_reg rfl <| lx_assign (.int .i64 0) rfl rfl <| lx_nil <| wi_seq <| wi_seq <| wi_reg rfl <| lx_assign (.int .i64 0) rfl rfl <| lx_nil <| wi_block <| ?_
  refine wi_loop (σ := Nat) (rngB 6 70 []) (fun (z : Nat) => [(7, .int .i64 ((z : Nat) : Int))]) (fun (z : Nat) (hh : Heap) => h = hh ∧ (z ≤ p.length) ∧ (∀ i, i < z → jnB p.length (pb p) x y i = false)) (fun (z : Nat) => p.length - z) 0 ⟨rfl, trivial⟩ ⟨rfl, ?_, ?_⟩ ?_
  · try dsimp only
    omega
  · try dsimp only
    intro i hi; omega
  rintro g1 z hh1 ⟨rfl, hz, ha⟩ IH1
  refine wi_seq <| wi_seq <| wi_reg rfl <| lx_move (.int .i64 ((z : Nat) : Int)) rfl rfl <| lx_move (vp) rfl rfl <| lx_len rfl Try.underlying23 hr_vp rfl <| lx_lssS rfl rfl rfl (fun c1 => ?_) (fun c1 => ?_)
  · refine lx_nil <| wi_true rfl <| wi_skip <| wi_seq <| wi_block <| wi_seq <| wi_reg rfl <| lx_move (vp) rfl rfl <| lx_move (.int .i64 ((x : Nat) : Int)) rfl rfl <| lx_ix (i := x) rfl eT23 hr_vp rfl rfl (by first | omega | (simp only [List.length_set, List.length_append, List.length_cons, List.length_nil, List.length_replicate, List.length_take, swp_length, exch_length]; omega)) <| lx_ld (i := x) (j := 0) ((gt hs x).v) rfl rfl fl70 hr_vp (by first | omega | (simp only [List.length_set, List.length_append, List.length_cons, List.length_nil, List.length_replicate, List.length_take, swp_length, exch_length]; omega)) rfl rfl <| lx_move (.int .i64 ((z : Nat) : Int)) rfl rfl <| lx_ix (i := z) rfl eT70 (ht_vp.2 x (by first | omega | (simp only [List.length_set, List.length_append, List.length_cons, List.length_nil, List.length_replicate, List.length_take, swp_length, exch_length]; omega))) rfl rfl (by rw [hp2.2 x (by first | omega | (simp only [List.length_set, List.length_append, List.length_cons, List.length_nil, List.length_replicate, List.length_take, swp_length, exch_length]; omega))]; omega) <| lx_ld (i := z) (j := 0) (.bool (gt (gt p x) z)) rfl rfl fl4 (ht_vp.2 x (by first | omega | (simp only [List.length_set, List.length_append, List.length_cons, List.length_nil, List.length_replicate, List.length_take, swp_length, exch_length]; omega))) (by rw [hp2.2 x (by first | omega | (simp only [List.length_set, List.length_append, List.length_cons, List.length_nil, List.length_replicate, List.length_take, swp_length, exch_length]; omega))]; omega) rfl rfl <| lx_move (.bool (gt (gt p x) z)) rfl rfl <| ?_
    cases c2 : (gt (gt p x) z)
    · refine lx_skip rfl <| lx_skip rfl <| lx_skip rfl <| lx_skip rfl <| lx_skip rfl <| lx_skip rfl <| lx_skip rfl <| lx_pick false (.bool false) rfl rfl rfl <| lx_assign (.bool false) rfl rfl <| lx_nil <| wi_seq <| wi_seq <| wi_reg rfl <| lx_assign (.int .i64 0) rfl rfl <| lx_nil <| wi_block <| ?_
      refine wi_loop (σ := Nat × Bool) (rngB 32 68 [8, 9]) (fun (ss : Nat × Bool) => [(9, .int .i64 ((ss.1 : Nat) : Int)), (8, .bool ss.2)]) (fun (ss : Nat × Bool) (hh : Heap) => h = hh ∧ (ss.1 ≤ p.length) ∧ (ss.2 = (pb p x z && pb p y z && (List.range ss.1).all fun q => !pb p x q || !pb p y q || pb p z q))) (fun (ss : Nat × Bool) => p.length - ss.1) (0, false) ⟨rfl, rfl, trivial⟩ ⟨rfl, ?_, ?_⟩ ?_
      · try dsimp only
        omega
      · try dsimp only
        first
        | (rw [show pb p x z = true from by assumption]; simp; done)
        | (rw [show pb p x z = false from by assumption]; rfl)
      rintro g2 ⟨w, b⟩ hh2 ⟨rfl, hw, hb⟩ IH2
      dsimp only at *
      refine wi_seq <| wi_seq <| wi_reg rfl <| lx_move (.int .i64 ((w : Nat) : Int)) rfl rfl <| lx_move (vp) rfl rfl <| lx_len rfl Try.underlying23 hr_vp rfl <| lx_lssS rfl rfl rfl (fun c3 => ?_) (fun c3 => ?_)
      · refine lx_move (.bool true) rfl rfl <| lx_move (.bool b) rfl rfl <| lx_pick true (.bool b) rfl rfl rfl <| lx_nil <| wi_condS (t := b) rfl (fun c4 => ?_) (fun c4 => ?_)
        · refine wi_skip <| wi_seq <| wi_block <| wi_reg rfl <| lx_move (vp) rfl rfl <| lx_move (.int .i64 ((x : Nat) : Int)) rfl rfl <| lx_ix (i := x) rfl eT23 hr_vp rfl rfl (by first | omega | (simp only [List.length_set, List.length_append, List.length_cons, List.length_nil, List.length_replicate, List.length_take, swp_length, exch_length]; omega)) <| lx_ld (i := x) (j := 0) ((gt hs x).v) rfl rfl fl70 hr_vp (by first | omega | (simp only [List.length_set, List.length_append, List.length_cons, List.length_nil, List.length_replicate, List.length_take, swp_length, exch_length]; omega)) rfl rfl <| lx_move (.int .i64 ((w : Nat) : Int)) rfl rfl <| lx_ix (i := w) rfl eT70 (ht_vp.2 x (by first | omega | (simp only [List.length_set, List.length_append, List.length_cons, List.length_nil, List.length_replicate, List.length_take, swp_length, exch_length]; omega))) rfl rfl (by rw [hp2.2 x (by first | omega | (simp only [List.length_set, List.length_append, List.length_cons, List.length_nil, List.length_replicate, List.length_take, swp_length, exch_length]; omega))]; omega) <| lx_ld (i := w) (j := 0) (.bool (gt (gt p x) w)) rfl rfl fl4 (ht_vp.2 x (by first | omega | (simp only [List.length_set, List.length_append, List.length_cons, List.length_nil, List.length_replicate, List.length_take, swp_length, exch_length]; omega))) (by rw [hp2.2 x (by first | omega | (simp only [List.length_set, List.length_append, List.length_cons, List.length_nil, List.length_replicate, List.length_take, swp_length, exch_length]; omega))]; omega) rfl rfl <| lx_not rfl rfl <| lx_move (.bool (!(gt (gt p x) w))) rfl rfl <| ?_
          cases c5 : (gt (gt p x) w)
          · refine lx_skip rfl <| lx_skip rfl <| lx_skip rfl <| lx_skip rfl <| lx_skip rfl <| lx_skip rfl <| lx_skip rfl <| lx_skip rfl <| lx_pick true (.bool true) rfl rfl rfl <| lx_move (.bool true) rfl rfl <| lx_skip rfl <| lx_skip rfl <| lx_skip rfl <| lx_skip rfl <| lx_skip rfl <| lx_skip rfl <| lx_skip rfl <| lx_pick true (.bool true) rfl rfl rfl <| lx_assign (.bool true) rfl rfl <| lx_nil <| wi_inBlock <| wi_reg rfl <| lx_move (.int .i64 ((w : Nat) : Int)) rfl rfl <| lx_add (((w + 1 : Nat) : Int)) rfl rfl rfl (by omega) (by omega) (by omega) <| lx_assign (.int .i64 ((w + 1 : Nat) : Int)) rfl rfl <| lx_nil <| ?_
            -- L2.1
            refine IH2 _ _ (w + 1, true) (agree_ups rfl agree_self) ⟨rfl, rfl, trivial⟩ ⟨rfl, ?_, ?_⟩ ?_
            · try dsimp only
              omega
            · try dsimp only
              rw [rall_succ, ← Bool.and_assoc, ← hb]
              show _ = (b && (!pb p x w || !pb p y w || pb p z w))
              rw [show b = true from by assumption]
              first
              | (rw [show pb p x w = false from by assumption]; rfl)
              | (rw [show pb p x w = true from by assumption, show pb p y w = false from by assumption]; rfl)
              | (rw [show pb p x w = true from by assumption, show pb p y w = true from by assumption]; simp; done)
            · first | omega | (dsimp only; omega)
          · refine lx_move (vp) rfl rfl <| lx_move (.int .i64 ((y : Nat) : Int)) rfl rfl <| lx_ix (i := y) rfl eT23 hr_vp rfl rfl (by first | omega | (simp only [List.length_set, List.length_append, List.length_cons, List.length_nil, List.length_replicate, List.length_take, swp_length, exch_length]; omega)) <| lx_ld (i := y) (j := 0) ((gt hs y).v) rfl rfl fl70 hr_vp (by first | omega | (simp only [List.length_set, List.length_append, List.length_cons, List.length_nil, List.length_replicate, List.length_take, swp_length, exch_length]; omega)) rfl rfl <| lx_move (.int .i64 ((w : Nat) : Int)) rfl rfl <| lx_ix (i := w) rfl eT70 (ht_vp.2 y (by first | omega | (simp only [List.length_set, List.length_append, List.length_cons, List.length_nil, List.length_replicate, List.length_take, swp_length, exch_length]; omega))) rfl rfl (by rw [hp2.2 y (by first | omega | (simp only [List.length_set, List.length_append, List.length_cons, List.length_nil, List.length_replicate, List.length_take, swp_length, exch_length]; omega))]; omega) <| lx_ld (i := w) (j := 0) (.bool (gt (gt p y) w)) rfl rfl fl4 (ht_vp.2 y (by first | omega | (simp only [List.length_set, List.length_append, List.length_cons, List.length_nil, List.length_replicate, List.length_take, swp_length, exch_length]; omega))) (by rw [hp2.2 y (by first | omega | (simp only [List.length_set, List.length_append, List.length_cons, List.length_nil, List.length_replicate, List.length_take, swp_length, exch_length]; omega))]; omega) rfl rfl <| lx_not rfl rfl <| lx_pick false (.bool (!(gt (gt p y) w))) rfl rfl rfl <| lx_move (.bool (!(gt (gt p y) w))) rfl rfl <| ?_
            cases c6 : (gt (gt p y) w)
            · refine lx_skip rfl <| lx_skip rfl <| lx_skip rfl <| lx_skip rfl <| lx_skip rfl <| lx_skip rfl <| lx_skip rfl <| lx_pick true (.bool true) rfl rfl rfl <| lx_assign (.bool true) rfl rfl <| lx_nil <| wi_inBlock <| wi_reg rfl <| lx_move (.int .i64 ((w : Nat) : Int)) rfl rfl <| lx_add (((w + 1 : Nat) : Int)) rfl rfl rfl (by omega) (by omega) (by omega) <| lx_assign (.int .i64 ((w + 1 : Nat) : Int)) rfl rfl <| lx_nil <| ?_
              -- L2.2
              refine IH2 _ _ (w + 1, true) (agree_ups rfl agree_self) ⟨rfl, rfl, trivial⟩ ⟨rfl, ?_, ?_⟩ ?_
              · try dsimp only
                omega
              · try dsimp only
                rw [rall_succ, ← Bool.and_assoc, ← hb]
                show _ = (b && (!pb p x w || !pb p y w || pb p z w))
                rw [show b = true from by assumption]
                first
                | (rw [show pb p x w = false from by assumption]; rfl)
                | (rw [show pb p x w = true from by assumption, show pb p y w = false from by assumption]; rfl)
                | (rw [show pb p x w = true from by assumption, show pb p y w = true from by assumption]; simp; done)
              · first | omega | (dsimp only; omega)
            · refine lx_move (vp) rfl rfl <| lx_move (.int .i64 ((z : Nat) : Int)) rfl rfl <| lx_ix (i := z) rfl eT23 hr_vp rfl rfl (by first | omega | (simp only [List.length_set, List.length_append, List.length_cons, List.length_nil, List.length_replicate, List.length_take, swp_length, exch_length]; omega)) <| lx_ld (i := z) (j := 0) ((gt hs z).v) rfl rfl fl70 hr_vp (by first | omega | (simp only [List.length_set, List.length_append, List.length_cons, List.length_nil, List.length_replicate, List.length_take, swp_length, exch_length]; omega)) rfl rfl <| lx_move (.int .i64 ((w : Nat) : Int)) rfl rfl <| lx_ix (i := w) rfl eT70 (ht_vp.2 z (by first | omega | (simp only [List.length_set, List.length_append, List.length_cons, List.length_nil, List.length_replicate, List.length_take, swp_length, exch_length]; omega))) rfl rfl (by rw [hp2.2 z (by first | omega | (simp only [List.length_set, List.length_append, List.length_cons, List.length_nil, List.length_replicate, List.length_take, swp_length, exch_length]; omega))]; omega) <| lx_ld (i := w) (j := 0) (.bool (gt (gt p z) w)) rfl rfl fl4 (ht_vp.2 z (by first | omega | (simp only [List.length_set, List.length_append, List.length_cons, List.length_nil, List.length_replicate, List.length_take, swp_length, exch_length]; omega))) (by rw [hp2.2 z (by first | omega | (simp only [List.length_set, List.length_append, List.length_cons, List.length_nil, List.length_replicate, List.length_take, swp_length, exch_length]; omega))]; omega) rfl rfl <| lx_pick false (.bool (gt (gt p z) w)) rfl rfl rfl <| lx_assign (.bool (gt (gt p z) w)) rfl rfl <| lx_nil <| wi_inBlock <| wi_reg rfl <| lx_move (.int .i64 ((w : Nat) : Int)) rfl rfl <| lx_add (((w + 1 : Nat) : Int)) rfl rfl rfl (by omega) (by omega) (by omega) <| lx_assign (.int .i64 ((w + 1 : Nat) : Int)) rfl rfl <| lx_nil <| ?_
              -- L2.3
              refine IH2 _ _ (w + 1, gt (gt p z) w) (agree_ups rfl agree_self) ⟨rfl, rfl, trivial⟩ ⟨rfl, ?_, ?_⟩ ?_
              · try dsimp only
                omega
              · try dsimp only
                rw [rall_succ, ← Bool.and_assoc, ← hb]
                show _ = (b && (!pb p x w || !pb p y w || pb p z w))
                rw [show b = true from by assumption]
                first
                | (rw [show pb p x w = false from by assumption]; rfl)
                | (rw [show pb p x w = true from by assumption, show pb p y w = false from by assumption]; rfl)
                | (rw [show pb p x w = true from by assumption, show pb p y w = true from by assumption]; simp; done)
              · first | omega | (dsimp only; omega)
        · refine wi_exit rfl <| wi_seq <| wi_reg rfl <| ?_
          have hfull : b = jnB p.length (pb p) x y z := by
            rcases Nat.lt_or_ge w p.length with h8 | h8
            · have hbf : b = false := by first | assumption | omega
              rw [hbf]
              symm
              rw [Bool.eq_false_iff]
              intro h9
              obtain ⟨h91, h92, h93⟩ := jnB_iff.1 h9
              have h97 : b = true := by
                rw [hb, h91, h92, Bool.true_and, Bool.true_and, rall_iff]
                intro q hq
                have h94 := h93 q (by omega)
                cases h95 : pb p x q
                · rfl
                · cases h96 : pb p y q
                  · rfl
                  · rw [h94 h95 h96]; rfl
              rw [hbf] at h97; cases h97
            · rw [hb, show w = p.length from by omega]; rfl
          refine lx_move (.bool b) rfl rfl <| lx_nil <| wi_condS (t := b) rfl (fun c7 => ?_) (fun c7 => ?_)
          · refine wi_seq <| wi_reg rfl <| lx_move (.int .i64 ((z : Nat) : Int)) rfl rfl <| lx_assign (.int .i64 ((z : Nat) : Int)) rfl rfl <| lx_nil <| ?_
            -- R1
            refine wi_ret ⟨.int .i64 ((z : Nat) : Int), (res_one rfl rfl), ⟨?_, rfl⟩⟩
            · congr 1
              first
              | exact (firstF_none fun i hi => ha i (by omega)).symm
              | exact (firstF_some (z := z) (by omega) (by rw [← hfull]; assumption) ha).symm
          · refine wi_skip <| wi_inBlock <| wi_reg rfl <| lx_move (.int .i64 ((z : Nat) : Int)) rfl rfl <| lx_add (((z + 1 : Nat) : Int)) rfl rfl rfl (by omega) (by omega) (by omega) <| lx_assign (.int .i64 ((z + 1 : Nat) : Int)) rfl rfl <| lx_nil <| ?_
            -- L0.1
            refine IH1 _ _ (z + 1) (agree_ups rfl (agree_mix (rngB_sub (by decide) (by decide) rfl) (agree_ups rfl agree_self))) ⟨rfl, trivial⟩ ⟨rfl, ?_, ?_⟩ ?_
            · try dsimp only
              omega
            · try dsimp only
              intro i hi
              by_cases e : i = z
              · subst e; rw [← hfull]; assumption
              · exact ha i (by omega)
            · first | omega | (dsimp only; omega)
      · refine lx_move (.bool false) rfl rfl <| lx_skip rfl <| lx_pick false (.bool false) rfl rfl rfl <| lx_nil <| wi_false rfl <| wi_exit rfl <| wi_seq <| wi_reg rfl <| ?_
        have hfull : b = jnB p.length (pb p) x y z := by
          rcases Nat.lt_or_ge w p.length with h8 | h8
          · have hbf : b = false := by first | assumption | omega
            rw [hbf]
            symm
            rw [Bool.eq_false_iff]
            intro h9
            obtain ⟨h91, h92, h93⟩ := jnB_iff.1 h9
            have h97 : b = true := by
              rw [hb, h91, h92, Bool.true_and, Bool.true_and, rall_iff]
              intro q hq
              have h94 := h93 q (by omega)
              cases h95 : pb p x q
              · rfl
              · cases h96 : pb p y q
                · rfl
                · rw [h94 h95 h96]; rfl
            rw [hbf] at h97; cases h97
          · rw [hb, show w = p.length from by omega]; rfl
        refine lx_move (.bool b) rfl rfl <| lx_nil <| wi_condS (t := b) rfl (fun c8 => ?_) (fun c8 => ?_)
        · refine wi_seq <| wi_reg rfl <| lx_move (.int .i64 ((z : Nat) : Int)) rfl rfl <| lx_assign (.int .i64 ((z : Nat) : Int)) rfl rfl <| lx_nil <| ?_
          -- R2
          refine wi_ret ⟨.int .i64 ((z : Nat) : Int), (res_one rfl rfl), ⟨?_, rfl⟩⟩
          · congr 1
            first
            | exact (firstF_none fun i hi => ha i (by omega)).symm
            | exact (firstF_some (z := z) (by omega) (by rw [← hfull]; assumption) ha).symm
        · refine wi_skip <| wi_inBlock <| wi_reg rfl <| lx_move (.int .i64 ((z : Nat) : Int)) rfl rfl <| lx_add (((z + 1 : Nat) : Int)) rfl rfl rfl (by omega) (by omega) (by omega) <| lx_assign (.int .i64 ((z + 1 : Nat) : Int)) rfl rfl <| lx_nil <| ?_
          -- L0.2
          refine IH1 _ _ (z + 1) (agree_ups rfl (agree_mix (rngB_sub (by decide) (by decide) rfl) (agree_ups rfl agree_self))) ⟨rfl, trivial⟩ ⟨rfl, ?_, ?_⟩ ?_
          · try dsimp only
            omega
          · try dsimp only
            intro i hi
            by_cases e : i = z
            · subst e; rw [← hfull]; assumption
            · exact ha i (by omega)
          · first | omega | (dsimp only; omega)
    · refine lx_move (vp) rfl rfl <| lx_move (.int .i64 ((y : Nat) : Int)) rfl rfl <| lx_ix (i := y) rfl eT23 hr_vp rfl rfl (by first | omega | (simp only [List.length_set, List.length_append, List.length_cons, List.length_nil, List.length_replicate, List.length_take, swp_length, exch_length]; omega)) <| lx_ld (i := y) (j := 0) ((gt hs y).v) rfl rfl fl70 hr_vp (by first | omega | (simp only [List.length_set, List.length_append, List.length_cons, List.length_nil, List.length_replicate, List.length_take, swp_length, exch_length]; omega)) rfl rfl <| lx_move (.int .i64 ((z : Nat) : Int)) rfl rfl <| lx_ix (i := z) rfl eT70 (ht_vp.2 y (by first | omega | (simp only [List.length_set, List.length_append, List.length_cons, List.length_nil, List.length_replicate, List.length_take, swp_length, exch_length]; omega))) rfl rfl (by rw [hp2.2 y (by first | omega | (simp only [List.length_set, List.length_append, List.length_cons, List.length_nil, List.length_replicate, List.length_take, swp_length, exch_length]; omega))]; omega) <| lx_ld (i := z) (j := 0) (.bool (gt (gt p y) z)) rfl rfl fl4 (ht_vp.2 y (by first | omega | (simp only [List.length_set, List.length_append, List.length_cons, List.length_nil, List.length_replicate, List.length_take, swp_length, exch_length]; omega))) (by rw [hp2.2 y (by first | omega | (simp only [List.length_set, List.length_append, List.length_cons, List.length_nil, List.length_replicate, List.length_take, swp_length, exch_length]; omega))]; omega) rfl rfl <| lx_pick true (.bool (gt (gt p y) z)) rfl rfl rfl <| lx_assign (.bool (gt (gt p y) z)) rfl rfl <| lx_nil <| wi_seq <| wi_seq <| wi_reg rfl <| lx_assign (.int .i64 0) rfl rfl <| lx_nil <| wi_block <| ?_
      refine wi_loop (σ := Nat × Bool) (rngB 32 68 [8, 9]) (fun (ss : Nat × Bool) => [(9, .int .i64 ((ss.1 : Nat) : Int)), (8, .bool ss.2)]) (fun (ss : Nat × Bool) (hh : Heap) => h = hh ∧ (ss.1 ≤ p.length) ∧ (ss.2 = (pb p x z && pb p y z && (List.range ss.1).all fun q => !pb p x q || !pb p y q || pb p z q))) (fun (ss : Nat × Bool) => p.length - ss.1) (0, gt (gt p y) z) ⟨rfl, rfl, trivial⟩ ⟨rfl, ?_, ?_⟩ ?_
      · try dsimp only
        omega
      · try dsimp only
        first
        | (rw [show pb p x z = true from by assumption]; simp; done)
        | (rw [show pb p x z = false from by assumption]; rfl)
      rintro g3 ⟨w, b⟩ hh3 ⟨rfl, hw, hb⟩ IH3
      dsimp only at *
      refine wi_seq <| wi_seq <| wi_reg rfl <| lx_move (.int .i64 ((w : Nat) : Int)) rfl rfl <| lx_move (vp) rfl rfl <| lx_len rfl Try.underlying23 hr_vp rfl <| lx_lssS rfl rfl rfl (fun c9 => ?_) (fun c9 => ?_)
      · refine lx_move (.bool true) rfl rfl <| lx_move (.bool b) rfl rfl <| lx_pick true (.bool b) rfl rfl rfl <| lx_nil <| wi_condS (t := b) rfl (fun c10 => ?_) (fun c10 => ?_)
        · refine wi_skip <| wi_seq <| wi_block <| wi_reg rfl <| lx_move (vp) rfl rfl <| lx_move (.int .i64 ((x : Nat) : Int)) rfl rfl <| lx_ix (i := x) rfl eT23 hr_vp rfl rfl (by first | omega | (simp only [List.length_set, List.length_append, List.length_cons, List.length_nil, List.length_replicate, List.length_take, swp_length, exch_length]; omega)) <| lx_ld (i := x) (j := 0) ((gt hs x).v) rfl rfl fl70 hr_vp (by first | omega | (simp only [List.length_set, List.length_append, List.length_cons, List.length_nil, List.length_replicate, List.length_take, swp_length, exch_length]; omega)) rfl rfl <| lx_move (.int .i64 ((w : Nat) : Int)) rfl rfl <| lx_ix (i := w) rfl eT70 (ht_vp.2 x (by first | omega | (simp only [List.length_set, List.length_append, List.length_cons, List.length_nil, List.length_replicate, List.length_take, swp_length, exch_length]; omega))) rfl rfl (by rw [hp2.2 x (by first | omega | (simp only [List.length_set, List.length_append, List.length_cons, List.length_nil, List.length_replicate, List.length_take, swp_length, exch_length]; omega))]; omega) <| lx_ld (i := w) (j := 0) (.bool (gt (gt p x) w)) rfl rfl fl4 (ht_vp.2 x (by first | omega | (simp only [List.length_set, List.length_append, List.length_cons, List.length_nil, List.length_replicate, List.length_take, swp_length, exch_length]; omega))) (by rw [hp2.2 x (by first | omega | (simp only [List.length_set, List.length_append, List.length_cons, List.length_nil, List.length_replicate, List.length_take, swp_length, exch_length]; omega))]; omega) rfl rfl <| lx_not rfl rfl <| lx_move (.bool (!(gt (gt p x) w))) rfl rfl <| ?_
          cases c11 : (gt (gt p x) w)
          · refine lx_skip rfl <| lx_skip rfl <| lx_skip rfl <| lx_skip rfl <| lx_skip rfl <| lx_skip rfl <| lx_skip rfl <| lx_skip rfl <| lx_pick true (.bool true) rfl rfl rfl <| lx_move (.bool true) rfl rfl <| lx_skip rfl <| lx_skip rfl <| lx_skip rfl <| lx_skip rfl <| lx_skip rfl <| lx_skip rfl <| lx_skip rfl <| lx_pick true (.bool true) rfl rfl rfl <| lx_assign (.bool true) rfl rfl <| lx_nil <| wi_inBlock <| wi_reg rfl <| lx_move (.int .i64 ((w : Nat) : Int)) rfl rfl <| lx_add (((w + 1 : Nat) : Int)) rfl rfl rfl (by omega) (by omega) (by omega) <| lx_assign (.int .i64 ((w + 1 : Nat) : Int)) rfl rfl <| lx_nil <| ?_
            -- L2.1
            refine IH3 _ _ (w + 1, true) (agree_ups rfl agree_self) ⟨rfl, rfl, trivial⟩ ⟨rfl, ?_, ?_⟩ ?_
            · try dsimp only
              omega
            · try dsimp only
              rw [rall_succ, ← Bool.and_assoc, ← hb]
              show _ = (b && (!pb p x w || !pb p y w || pb p z w))
              rw [show b = true from by assumption]
              first
              | (rw [show pb p x w = false from by assumption]; rfl)
              | (rw [show pb p x w = true from by assumption, show pb p y w = false from by assumption]; rfl)
              | (rw [show pb p x w = true from by assumption, show pb p y w = true from by assumption]; simp; done)
            · first | omega | (dsimp only; omega)
          · refine lx_move (vp) rfl rfl <| lx_move (.int .i64 ((y : Nat) : Int)) rfl rfl <| lx_ix (i := y) rfl eT23 hr_vp rfl rfl (by first | omega | (simp only [List.length_set, List.length_append, List.length_cons, List.length_nil, List.length_replicate, List.length_take, swp_length, exch_length]; omega)) <| lx_ld (i := y) (j := 0) ((gt hs y).v) rfl rfl fl70 hr_vp (by first | omega | (simp only [List.length_set, List.length_append, List.length_cons, List.length_nil, List.length_replicate, List.length_take, swp_length, exch_length]; omega)) rfl rfl <| lx_move (.int .i64 ((w : Nat) : Int)) rfl rfl <| lx_ix (i := w) rfl eT70 (ht_vp.2 y (by first | omega | (simp only [List.length_set, List.length_append, List.length_cons, List.length_nil, List.length_replicate, List.length_take, swp_length, exch_length]; omega))) rfl rfl (by rw [hp2.2 y (by first | omega | (simp only [List.length_set, List.length_append, List.length_cons, List.length_nil, List.length_replicate, List.length_take, swp_length, exch_length]; omega))]; omega) <| lx_ld (i := w) (j := 0) (.bool (gt (gt p y) w)) rfl rfl fl4 (ht_vp.2 y (by first | omega | (simp only [List.length_set, List.length_append, List.length_cons, List.length_nil, List.length_replicate, List.length_take, swp_length, exch_length]; omega))) (by rw [hp2.2 y (by first | omega | (simp only [List.length_set, List.length_append, List.length_cons, List.length_nil, List.length_replicate, List.length_take, swp_length, exch_length]; omega))]; omega) rfl rfl <| lx_not rfl rfl <| lx_pick false (.bool (!(gt (gt p y) w))) rfl rfl rfl <| lx_move (.bool (!(gt (gt p y) w))) rfl rfl <| ?_
            cases c12 : (gt (gt p y) w)
            · refine lx_skip rfl <| lx_skip rfl <| lx_skip rfl <| lx_skip rfl <| lx_skip rfl <| lx_skip rfl <| lx_skip rfl <| lx_pick true (.bool true) rfl rfl rfl <| lx_assign (.bool true) rfl rfl <| lx_nil <| wi_inBlock <| wi_reg rfl <| lx_move (.int .i64 ((w : Nat) : Int)) rfl rfl <| lx_add (((w + 1 : Nat) : Int)) rfl rfl rfl (by omega) (by omega) (by omega) <| lx_assign (.int .i64 ((w + 1 : Nat) : Int)) rfl rfl <| lx_nil <| ?_
              -- L2.2
              refine IH3 _ _ (w + 1, true) (agree_ups rfl agree_self) ⟨rfl, rfl, trivial⟩ ⟨rfl, ?_, ?_⟩ ?_
              · try dsimp only
                omega
              · try dsimp only
                rw [rall_succ, ← Bool.and_assoc, ← hb]
                show _ = (b && (!pb p x w || !pb p y w || pb p z w))
                rw [show b = true from by assumption]
                first
                | (rw [show pb p x w = false from by assumption]; rfl)
                | (rw [show pb p x w = true from by assumption, show pb p y w = false from by assumption]; rfl)
                | (rw [show pb p x w = true from by assumption, show pb p y w = true from by assumption]; simp; done)
              · first | omega | (dsimp only; omega)
            · refine lx_move (vp) rfl rfl <| lx_move (.int .i64 ((z : Nat) : Int)) rfl rfl <| lx_ix (i := z) rfl eT23 hr_vp rfl rfl (by first | omega | (simp only [List.length_set, List.length_append, List.length_cons, List.length_nil, List.length_replicate, List.length_take, swp_length, exch_length]; omega)) <| lx_ld (i := z) (j := 0) ((gt hs z).v) rfl rfl fl70 hr_vp (by first | omega | (simp only [List.length_set, List.length_append, List.length_cons, List.length_nil, List.length_replicate, List.length_take, swp_length, exch_length]; omega)) rfl rfl <| lx_move (.int .i64 ((w : Nat) : Int)) rfl rfl <| lx_ix (i := w) rfl eT70 (ht_vp.2 z (by first | omega | (simp only [List.length_set, List.length_append, List.length_cons, List.length_nil, List.length_replicate, List.length_take, swp_length, exch_length]; omega))) rfl rfl (by rw [hp2.2 z (by first | omega | (simp only [List.length_set, List.length_append, List.length_cons, List.length_nil, List.length_replicate, List.length_take, swp_length, exch_length]; omega))]; omega) <| lx_ld (i := w) (j := 0) (.bool (gt (gt p z) w)) rfl rfl fl4 (ht_vp.2 z (by first | omega | (simp only [List.length_set, List.length_append, List.length_cons, List.length_nil, List.length_replicate, List.length_take, swp_length, exch_length]; omega))) (by rw [hp2.2 z (by first | omega | (simp only [List.length_set, List.length_append, List.length_cons, List.length_nil, List.length_replicate, List.length_take, swp_length, exch_length]; omega))]; omega) rfl rfl <| lx_pick false (.bool (gt (gt p z) w)) rfl rfl rfl <| lx_assign (.bool (gt (gt p z) w)) rfl rfl <| lx_nil <| wi_inBlock <| wi_reg rfl <| lx_move (.int .i64 ((w : Nat) : Int)) rfl rfl <| lx_add (((w + 1 : Nat) : Int)) rfl rfl rfl (by omega) (by omega) (by omega) <| lx_assign (.int .i64 ((w + 1 : Nat) : Int)) rfl rfl <| lx_nil <| ?_
              -- L2.3
              refine IH3 _ _ (w + 1, gt (gt p z) w) (agree_ups rfl agree_self) ⟨rfl, rfl, trivial⟩ ⟨rfl, ?_, ?_⟩ ?_
              · try dsimp only
                omega
              · try dsimp only
                rw [rall_succ, ← Bool.and_assoc, ← hb]
                show _ = (b && (!pb p x w || !pb p y w || pb p z w))
                rw [show b = true from by assumption]
                first
                | (rw [show pb p x w = false from by assumption]; rfl)
                | (rw [show pb p x w = true from by assumption, show pb p y w = false from by assumption]; rfl)
                | (rw [show pb p x w = true from by assumption, show pb p y w = true from by assumption]; simp; done)
              · first | omega | (dsimp only; omega)
        · refine wi_exit rfl <| wi_seq <| wi_reg rfl <| ?_
          have hfull : b = jnB p.length (pb p) x y z := by
            rcases Nat.lt_or_ge w p.length with h8 | h8
            · have hbf : b = false := by first | assumption | omega
              rw [hbf]
              symm
              rw [Bool.eq_false_iff]
              intro h9
              obtain ⟨h91, h92, h93⟩ := jnB_iff.1 h9
              have h97 : b = true := by
                rw [hb, h91, h92, Bool.true_and, Bool.true_and, rall_iff]
                intro q hq
                have h94 := h93 q (by omega)
                cases h95 : pb p x q
                · rfl
                · cases h96 : pb p y q
                  · rfl
                  · rw [h94 h95 h96]; rfl
              rw [hbf] at h97; cases h97
            · rw [hb, show w = p.length from by omega]; rfl
          refine lx_move (.bool b) rfl rfl <| lx_nil <| wi_condS (t := b) rfl (fun c13 => ?_) (fun c13 => ?_)
          · refine wi_seq <| wi_reg rfl <| lx_move (.int .i64 ((z : Nat) : Int)) rfl rfl <| lx_assign (.int .i64 ((z : Nat) : Int)) rfl rfl <| lx_nil <| ?_
            -- R3
            refine wi_ret ⟨.int .i64 ((z : Nat) : Int), (res_one rfl rfl), ⟨?_, rfl⟩⟩
            · congr 1
              first
              | exact (firstF_none fun i hi => ha i (by omega)).symm
              | exact (firstF_some (z := z) (by omega) (by rw [← hfull]; assumption) ha).symm
          · refine wi_skip <| wi_inBlock <| wi_reg rfl <| lx_move (.int .i64 ((z : Nat) : Int)) rfl rfl <| lx_add (((z + 1 : Nat) : Int)) rfl rfl rfl (by omega) (by omega) (by omega) <| lx_assign (.int .i64 ((z + 1 : Nat) : Int)) rfl rfl <| lx_nil <| ?_
            -- L0.3
            refine IH1 _ _ (z + 1) (agree_ups rfl (agree_mix (rngB_sub (by decide) (by decide) rfl) (agree_ups rfl agree_self))) ⟨rfl, trivial⟩ ⟨rfl, ?_, ?_⟩ ?_
            · try dsimp only
              omega
            · try dsimp only
              intro i hi
              by_cases e : i = z
              · subst e; rw [← hfull]; assumption
              · exact ha i (by omega)
            · first | omega | (dsimp only; omega)
      · refine lx_move (.bool false) rfl rfl <| lx_skip rfl <| lx_pick false (.bool false) rfl rfl rfl <| lx_nil <| wi_false rfl <| wi_exit rfl <| wi_seq <| wi_reg rfl <| ?_
        have hfull : b = jnB p.length (pb p) x y z := by
          rcases Nat.lt_or_ge w p.length with h8 | h8
          · have hbf : b = false := by first | assumption | omega
            rw [hbf]
            symm
            rw [Bool.eq_false_iff]
            intro h9
            obtain ⟨h91, h92, h93⟩ := jnB_iff.1 h9
            have h97 : b = true := by
              rw [hb, h91, h92, Bool.true_and, Bool.true_and, rall_iff]
              intro q hq
              have h94 := h93 q (by omega)
              cases h95 : pb p x q
              · rfl
              · cases h96 : pb p y q
                · rfl
                · rw [h94 h95 h96]; rfl
            rw [hbf] at h97; cases h97
          · rw [hb, show w = p.length from by omega]; rfl
        refine lx_move (.bool b) rfl rfl <| lx_nil <| wi_condS (t := b) rfl (fun c14 => ?_) (fun c14 => ?_)
        · refine wi_seq <| wi_reg rfl <| lx_move (.int .i64 ((z : Nat) : Int)) rfl rfl <| lx_assign (.int .i64 ((z : Nat) : Int)) rfl rfl <| lx_nil <| ?_
          -- R4
          refine wi_ret ⟨.int .i64 ((z : Nat) : Int), (res_one rfl rfl), ⟨?_, rfl⟩⟩
          · congr 1
            first
            | exact (firstF_none fun i hi => ha i (by omega)).symm
            | exact (firstF_some (z := z) (by omega) (by rw [← hfull]; assumption) ha).symm
        · refine wi_skip <| wi_inBlock <| wi_reg rfl <| lx_move (.int .i64 ((z : Nat) : Int)) rfl rfl <| lx_add (((z + 1 : Nat) : Int)) rfl rfl rfl (by omega) (by omega) (by omega) <| lx_assign (.int .i64 ((z + 1 : Nat) : Int)) rfl rfl <| lx_nil <| ?_
          -- L0.4
          refine IH1 _ _ (z + 1) (agree_ups rfl (agree_mix (rngB_sub (by decide) (by decide) rfl) (agree_ups rfl agree_self))) ⟨rfl, trivial⟩ ⟨rfl, ?_, ?_⟩ ?_
          · try dsimp only
            omega
          · try dsimp only
            intro i hi
            by_cases e : i = z
            · subst e; rw [← hfull]; assumption
            · exact ha i (by omega)
          · first | omega | (dsimp only; omega)
  · refine lx_nil <| wi_false rfl <| wi_exit rfl <| wi_seq <| wi_reg rfl <| lx_assign (.int .i64 (-1)) rfl rfl <| lx_nil <| ?_
    -- R5
    refine wi_ret ⟨.int .i64 (-1), (res_one rfl rfl), ⟨?_, rfl⟩⟩
    · congr 1
      first
      | exact (firstF_none fun i hi => ha i (by omega)).symm
      | exact (firstF_some (z := z) (by omega) (by rw [← hfull]; assumption) ha).symm

set_option maxRecDepth 10000 in
theorem meet_spec (h : Heap) (vp : Value) (hs : List Hdr) (p : List (List Bool)) (x : Nat) (y : Nat) (hr_vp : RdE encHd h vp hs) (ht_vp : RT encB h hs p) (hp1 : p.length ≤ 12) (hp2 : Sq p p.length) (hp3 : x < p.length) (hp4 : y < p.length) : Fx Try.prog 91 [vp, .int .i64 ((x : Nat) : Int), .int .i64 ((y : Nat) : Int)] h (fun v h' => v = .int .i64 (meetF p.length (pb p) x y) ∧ Ext h.size h h') := by
  have hl_vp := ht_vp.1
  refine fx_intro (n := 12) [(0, vp), (1, .int .i64 ((x : Nat) : Int)), (2, .int .i64 ((y : Nat) : Int))] Try.func91 rfl rfl (by simp) ⟨rfl, rfl, rfl, trivial⟩ fun g0 => ?_
  refine wi_seq <| wi_reg rfl <| lx_assign (.int .i64 0) rfl rfl <| lx_nil <| wi_seq <| wi_reg rfl <| lx_move (vp) rfl rfl <| lx_call [vp] rfl rfl Try.call130 rfl (turned_spec h vp hs p hr_vp ht_vp (by omega) (by first | with_reducible assumption | omega)) (fun _ _ _ => trivial) ?_
  rintro vt h1 ⟨_, ht, rfl, ho1, hot1, hx1⟩
  have ho2 := ho1.base (Nat.le_refl h.size)
  have hot2 := hot1.base (Nat.le_refl h.size)
  have hl_hot2 := hot2.1
  refine lx_move (.int .i64 ((x : Nat) : Int)) rfl rfl <| lx_move (.int .i64 ((y : Nat) : Int)) rfl rfl <| lx_call [vt, .int .i64 ((x : Nat) : Int), .int .i64 ((y : Nat) : Int)] rfl rfl Try.call88 rfl (join_spec h1 vt ht (tabF p.length (flipF (pb p))) x y ho2.rd hot2.rt (by rw [tabF_length]; omega) (by rw [tabF_length]; exact tabF_sq _ _) (by rw [tabF_length]; omega) (by rw [tabF_length]; omega)) (fun _ _ _ => trivial) ?_
  rintro _ h2 ⟨rfl, rfl⟩
  refine lx_assign (.int .i64 (joinF (tabF p.length (flipF (pb p))).length (pb (tabF p.length (flipF (pb p)))) x y)) rfl rfl <| lx_nil <| ?_
  -- R1
  refine wi_ret ⟨.int .i64 (joinF (tabF p.length (flipF (pb p))).length (pb (tabF p.length (flipF (pb p)))) x y), (res_one rfl rfl), ⟨?_, hx1⟩⟩
  · rw [meet_turn _ hp3 hp4]

set_option maxRecDepth 10000 in
theorem rcompletion_spec (h : Heap) (vp : Value) (hs : List Hdr) (p : List (List Bool)) (hr_vp : RdE encHd h vp hs) (ht_vp : RT encB h hs p) (hp1 : p.length ≤ 12) (hp2 : Sq p p.length) (hp3 : IsO p.length (pb p)) : Fx Try.prog 24 [vp] h (fun v h' => ∃ (s : Value) (c : Value), v = .tuple #[s, c] ∧ OwE encI h' h.size 3 s ((cutsF p.length (pb p))) ∧ OwE encI h' h.size 3 c (placesF p.length (pb p) p.length) ∧ Ext h.size h h') := by
  have hl_vp := ht_vp.1
  refine fx_intro (n := 58) [(0, vp)] Try.func24 rfl rfl (by simp) ⟨rfl, trivial⟩ fun g0 => ?_
  refine wi_seq <| wi_reg rfl <| lx_assign (.slice none 0 0) rfl rfl <| lx_assign (.slice none 0 0) rfl rfl <| lx_nil <| wi_seq <| wi_reg rfl <| lx_assign (.slice none 0 0) rfl rfl <| lx_nil <| wi_seq <| wi_seq <| wi_reg rfl <| lx_assign (.int .i64 0) rfl rfl <| lx_nil <| wi_block <| ?_
  refine wi_loop (σ := Nat × Value × (List Int)) (rngB 10 29 [4, 5]) (fun (ss : Nat × Value × (List Int)) => [(5, .int .i64 ((ss.1 : Nat) : Int)), (4, ss.2.1)]) (fun (ss : Nat × Value × (List Int)) (hh : Heap) => OwE encI hh h.size 3 ss.2.1 ss.2.2 ∧ Ext h.size h hh ∧ (ss.1 ≤ 2 ^ p.length) ∧ (ss.2.2 = filtF ss.1 (cutB p.length (pb p)))) (fun (ss : Nat × Value × (List Int)) => 2 ^ p.length - ss.1) (0, .slice none 0 0, []) ⟨rfl, rfl, trivial⟩ ⟨?_, (Ext.refl _ _), ?_, ?_⟩ ?_
  · first | exact (owE_nil encI _ h.size 3) | (simpa using (owE_nil encI _ h.size 3))
  · try dsimp only
    exact Nat.zero_le _
  · try dsimp only
    first | done | rfl
  rintro g1 ⟨t, v, xs⟩ hh1 ⟨ho1, hx0_1, ht, hxs⟩ IH1
  dsimp only at *
  have hxl : xs.length ≤ t := by rw [hxs]; exact filtF_length _ _
  refine wi_seq <| wi_seq <| wi_reg rfl <| ?_
  have hpw := pow12 hp1
  have hpe : 2 ^ hs.length = 2 ^ p.length := by rw [hl_vp]
  refine lx_move (.int .i64 ((t : Nat) : Int)) rfl rfl <| lx_move (vp) rfl rfl <| lx_len rfl Try.underlying23 hr_vp rfl <| lx_conv ((hs.length : Nat) : Int) rfl Try.underlying3 Try.underlying45 rfl (wrap_u64 (by omega) (by omega)) <| lx_shl (m := 1) (n := hs.length) rfl rfl rfl (by show _ ≤ 64; omega) (wrap_i64 (by omega) (by omega)) <| lx_lssS rfl rfl rfl (fun c1 => ?_) (fun c1 => ?_)
  · refine lx_nil <| wi_true rfl <| wi_skip <| wi_seq <| wi_block <| wi_seq <| wi_reg rfl <| ?_
    have hul := uppS_lt p.length (pb p) t
    refine lx_move (vp) rfl rfl <| lx_move (vp) rfl rfl <| lx_move (.int .i64 ((t : Nat) : Int)) rfl rfl <| lx_call [vp, .int .i64 ((t : Nat) : Int)] rfl rfl Try.call85 rfl (upper_spec hh1 vp hs p t (hr_vp.extS hx0_1) (ht_vp.extS hx0_1) (by omega) (by first | with_reducible assumption | omega) (by omega)) (fun _ _ _ => trivial) ?_
    rintro _ h1 ⟨rfl, hx1⟩
    have hx0_2 := hx0_1.trans2 hx1 hx0_1.size
    have ho2 := ho1.extS hx1
    refine lx_call [vp, .int .i64 ((uppS p.length (pb p) t : Nat) : Int)] rfl rfl Try.call84 rfl (lower_spec h1 vp hs p (uppS p.length (pb p) t) (hr_vp.extS hx0_2) (ht_vp.extS hx0_2) (by omega) (by first | with_reducible assumption | omega) (by omega)) (fun _ _ _ => trivial) ?_
    rintro _ h2 ⟨rfl, rfl⟩
    refine lx_move (.int .i64 ((t : Nat) : Int)) rfl rfl <| lx_eqlS rfl rfl rfl (fun c2 => ?_) (fun c2 => ?_)
    · refine lx_nil <| wi_true rfl <| wi_reg rfl <| lx_move (v) rfl rfl <| lx_move (.int .i64 ((t : Nat) : Int)) rfl rfl <| lx_appendL (E := encI) (B := h.size) [((t : Nat) : Int)] [.int .i64 ((t : Nat) : Int)] rfl rfl (fun _ => rfl) rfl eT25 rfl rfl rfl rfl ho2 (fun _ => rfl) (by show xs.length + 1 ≤ _; omega) (by show (xs.length + 1) * 8 ≤ _; omega) hx0_2.size (fun _ _ => trivial) fun u1 v1 h3 ho3 hc1 hg1 => ?_
      have hx0_3 := hx0_2.trans (ho2.ext hc1 hx0_2.size)
      refine lx_assign (v1) rfl rfl <| lx_nil <| wi_inBlock <| wi_reg rfl <| lx_move (.int .i64 ((t : Nat) : Int)) rfl rfl <| lx_add (((t + 1 : Nat) : Int)) rfl rfl rfl (by omega) (by omega) (by omega) <| lx_assign (.int .i64 ((t + 1 : Nat) : Int)) rfl rfl <| lx_nil <| ?_
      -- L0.1
      refine IH1 _ _ (t + 1, v1, xs ++ [((t : Nat) : Int)]) (agree_ups rfl agree_self) ⟨rfl, rfl, trivial⟩ ⟨?_, hx0_3, ?_, ?_⟩ ?_
      · first | exact ho3 | (simpa using ho3)
      · try dsimp only
        omega
      · try dsimp only
        rw [hxs]; exact filtF_yes (by unfold cutB cutF; rw [beq_iff_eq]; omega)
      · first | omega | (dsimp only; omega)
    · refine lx_nil <| wi_false rfl <| wi_skip <| wi_inBlock <| wi_reg rfl <| lx_move (.int .i64 ((t : Nat) : Int)) rfl rfl <| lx_add (((t + 1 : Nat) : Int)) rfl rfl rfl (by omega) (by omega) (by omega) <| lx_assign (.int .i64 ((t + 1 : Nat) : Int)) rfl rfl <| lx_nil <| ?_
      -- L0.2
      refine IH1 _ _ (t + 1, v, xs) (agree_ups rfl agree_self) ⟨rfl, rfl, trivial⟩ ⟨?_, hx0_2, ?_, ?_⟩ ?_
      · first | exact ho2 | (simpa using ho2)
      · try dsimp only
        omega
      · try dsimp only
        rw [hxs]; exact filtF_no (by unfold cutB cutF; rw [beq_eq_false_iff_ne]; omega)
      · first | omega | (dsimp only; omega)
  · refine lx_nil <| wi_false rfl <| wi_exit rfl <| wi_seq <| wi_reg rfl <| lx_assign (.slice none 0 0) rfl rfl <| lx_nil <| wi_seq <| wi_seq <| wi_reg rfl <| ?_
    have hcu : xs = (cutsF p.length (pb p)) := by rw [hxs, show t = 2 ^ p.length from by omega]; rfl
    have hcl : xs.length ≤ 4096 := by rw [hcu]; exact (cutsF_nb hp1).1
    refine lx_assign (.int .i64 0) rfl rfl <| lx_nil <| wi_block <| ?_
    refine wi_loop (σ := Nat × Value × (List Int)) (rngB 29 56 [6, 7, 8, 9]) (fun (ss : Nat × Value × (List Int)) => [(7, .int .i64 ((ss.1 : Nat) : Int)), (6, ss.2.1)]) (fun (ss : Nat × Value × (List Int)) (hh : Heap) => OwE encI hh h.size 3 ss.2.1 ss.2.2 ∧ OwE encI hh h.size 3 v xs ∧ Dj ss.2.1 v ∧ Ext h.size h hh ∧ (ss.1 ≤ p.length) ∧ (ss.2.2 = placesF p.length (pb p) ss.1)) (fun (ss : Nat × Value × (List Int)) => p.length - ss.1) (0, .slice none 0 0, []) ⟨rfl, rfl, trivial⟩ ⟨?_, ?_, (dj_nil_l _), hx0_1, ?_, ?_⟩ ?_
    · first | exact (owE_nil encI _ h.size 3) | (simpa using (owE_nil encI _ h.size 3))
    · first | exact ho1 | (simpa using ho1)
    · try dsimp only
      omega
    · try dsimp only
      first | done | rfl
    rintro g2 ⟨x, w, cs⟩ hh2 ⟨ho4, ho5, hdj1, hx0_4, hx, hcs⟩ IH2
    dsimp only at *
    have hcl9 : cs.length = x := by rw [hcs]; exact placesF_len _ _ _
    refine wi_seq <| wi_seq <| wi_reg rfl <| lx_move (.int .i64 ((x : Nat) : Int)) rfl rfl <| lx_move (vp) rfl rfl <| lx_len rfl Try.underlying23 hr_vp rfl <| lx_lssS rfl rfl rfl (fun c3 => ?_) (fun c3 => ?_)
    · refine lx_nil <| wi_true rfl <| wi_skip <| wi_seq <| wi_block <| wi_seq <| wi_reg rfl <| ?_
      have hpx : 2 ^ x ≤ 4096 := pow12 (by omega)
      obtain ⟨j0, hj0, hj1, hj2⟩ := cuts_at hp3 (show x < p.length by omega)
      have hdl := dnF_lt p.length (pb p) x
      refine lx_move (vp) rfl rfl <| lx_move (.int .i64 ((x : Nat) : Int)) rfl rfl <| lx_conv ((x : Nat) : Int) rfl Try.underlying3 Try.underlying45 rfl (wrap_u64 (by omega) (by omega)) <| lx_shl (m := 1) (n := x) rfl rfl rfl (by show _ ≤ 64; omega) (wrap_i64 (by omega) (by omega)) <| lx_call [vp, .int .i64 ((1 * 2 ^ x : Nat) : Int)] rfl rfl Try.call84 rfl (lower_spec hh2 vp hs p (1 * 2 ^ x) (hr_vp.extS hx0_4) (ht_vp.extS hx0_4) (by omega) (by first | with_reducible assumption | omega) (by omega)) (fun _ _ _ => trivial) ?_
      rintro _ h4 ⟨rfl, rfl⟩
      rw [Nat.one_mul, low_one (show x < p.length by omega)]
      refine lx_assign (.int .i64 ((dnF p.length (pb p) x : Nat) : Int)) rfl rfl <| lx_nil <| wi_seq <| wi_reg rfl <| lx_assign (.int .i64 0) rfl rfl <| lx_nil <| wi_block <| ?_
      refine wi_loop (σ := Nat × Value × (List Int)) (rngB 40 56 [6, 9]) (fun (ss : Nat × Value × (List Int)) => [(9, .int .i64 ((ss.1 : Nat) : Int)), (6, ss.2.1)]) (fun (ss : Nat × Value × (List Int)) (hh : Heap) => OwE encI hh h.size 3 ss.2.1 ss.2.2 ∧ OwE encI hh h.size 3 v xs ∧ Dj ss.2.1 v ∧ Ext h.size h hh ∧ (ss.1 ≤ xs.length) ∧ (ss.2.2 = placesF p.length (pb p) x ++ (if j0 < ss.1 then [(j0 : Int)] else []))) (fun (ss : Nat × Value × (List Int)) => xs.length - ss.1) (0, w, cs) ⟨rfl, rfl, trivial⟩ ⟨?_, ?_, hdj1, hx0_4, ?_, ?_⟩ ?_
      · first | exact ho4 | (simpa using ho4)
      · first | exact ho5 | (simpa using ho5)
      · try dsimp only
        omega
      · try dsimp only
        rw [hcs, if_neg (by omega), List.append_nil]
      rintro g3 ⟨i, w, cs⟩ hh3 ⟨ho6, ho7, hdj2, hx0_5, hi, hpl⟩ IH3
      dsimp only at *
      have hcl8 : cs.length ≤ x + 1 := by rw [hpl, List.length_append, placesF_len]; split <;> simp
      refine wi_seq <| wi_seq <| wi_reg rfl <| lx_move (.int .i64 ((i : Nat) : Int)) rfl rfl <| lx_move (v) rfl rfl <| lx_len rfl Try.underlying25 ho7.rd rfl <| lx_lssS rfl rfl rfl (fun c4 => ?_) (fun c4 => ?_)
      · refine lx_nil <| wi_true rfl <| wi_skip <| wi_seq <| wi_block <| wi_seq <| wi_reg rfl <| ?_
        have hji := hj2 i (by rw [← hcu]; omega)
        rw [← hcu] at hji hj1
        refine lx_move (v) rfl rfl <| lx_move (.int .i64 ((i : Nat) : Int)) rfl rfl <| lx_ix (i := i) rfl eT25 ho7.rd rfl rfl (by first | omega | (simp only [List.length_set, List.length_append, List.length_cons, List.length_nil, List.length_replicate, List.length_take, swp_length, exch_length]; omega)) <| lx_ld (i := i) (j := 0) (.int .i64 (gt xs i)) rfl rfl fl3 ho7.rd (by first | omega | (simp only [List.length_set, List.length_append, List.length_cons, List.length_nil, List.length_replicate, List.length_take, swp_length, exch_length]; omega)) rfl rfl <| lx_move (.int .i64 ((dnF p.length (pb p) x : Nat) : Int)) rfl rfl <| lx_eqlS rfl rfl rfl (fun c5 => ?_) (fun c5 => ?_)
        · refine lx_nil <| wi_true rfl <| wi_reg rfl <| lx_move (w) rfl rfl <| lx_move (.int .i64 ((i : Nat) : Int)) rfl rfl <| lx_appendL (E := encI) (B := h.size) [((i : Nat) : Int)] [.int .i64 ((i : Nat) : Int)] rfl rfl (fun _ => rfl) rfl eT25 rfl rfl rfl rfl ho6 (fun _ => rfl) (by show cs.length + 1 ≤ _; omega) (by show (cs.length + 1) * 8 ≤ _; omega) hx0_5.size (fun _ _ => trivial) fun u2 v2 h5 ho8 hc2 hg2 => ?_
          have hx0_6 := hx0_5.trans (ho6.ext hc2 hx0_5.size)
          have ho9 := ho7.chg hc2 (Dj.symm hdj2)
          refine lx_assign (v2) rfl rfl <| lx_nil <| wi_inBlock <| wi_reg rfl <| lx_move (.int .i64 ((i : Nat) : Int)) rfl rfl <| lx_add (((i + 1 : Nat) : Int)) rfl rfl rfl (by omega) (by omega) (by omega) <| lx_assign (.int .i64 ((i + 1 : Nat) : Int)) rfl rfl <| lx_nil <| ?_
          -- L4.1
          refine IH3 _ _ (i + 1, v2, cs ++ [((i : Nat) : Int)]) (agree_ups rfl agree_self) ⟨rfl, rfl, trivial⟩ ⟨?_, ?_, (Dj.symm (dj_app (Dj.symm hdj2) ho7 hg2)), hx0_6, ?_, ?_⟩ ?_
          · first | exact ho8 | (simpa using ho8)
          · first | exact ho9 | (simpa using ho9)
          · try dsimp only
            omega
          · try dsimp only
            rw [hpl, if_neg (by omega), if_pos (by omega), List.append_nil, show i = j0 from hji.1 (by omega)]
          · first | omega | (dsimp only; omega)
        · refine lx_nil <| wi_false rfl <| wi_skip <| wi_inBlock <| wi_reg rfl <| lx_move (.int .i64 ((i : Nat) : Int)) rfl rfl <| lx_add (((i + 1 : Nat) : Int)) rfl rfl rfl (by omega) (by omega) (by omega) <| lx_assign (.int .i64 ((i + 1 : Nat) : Int)) rfl rfl <| lx_nil <| ?_
          -- L4.2
          refine IH3 _ _ (i + 1, w, cs) (agree_ups rfl agree_self) ⟨rfl, rfl, trivial⟩ ⟨?_, ?_, hdj2, hx0_5, ?_, ?_⟩ ?_
          · first | exact ho6 | (simpa using ho6)
          · first | exact ho7 | (simpa using ho7)
          · try dsimp only
            omega
          · try dsimp only
            have hne : i ≠ j0 := fun e => absurd (hji.2 e) (by omega)
            rw [hpl]; congr 1
            by_cases e : j0 < i
            · rw [if_pos e, if_pos (by omega)]
            · rw [if_neg e, if_neg (by omega)]
          · first | omega | (dsimp only; omega)
      · refine lx_nil <| wi_false rfl <| wi_exit rfl <| wi_inBlock <| wi_reg rfl <| lx_move (.int .i64 ((x : Nat) : Int)) rfl rfl <| lx_add (((x + 1 : Nat) : Int)) rfl rfl rfl (by omega) (by omega) (by omega) <| lx_assign (.int .i64 ((x + 1 : Nat) : Int)) rfl rfl <| lx_nil <| ?_
        -- L2.1
        refine IH2 _ _ (x + 1, w, cs) (agree_ups rfl (agree_mix (rngB_sub (by decide) (by decide) rfl) (agree_ups rfl agree_self))) ⟨rfl, rfl, trivial⟩ ⟨?_, ?_, hdj2, hx0_5, ?_, ?_⟩ ?_
        · first | exact ho6 | (simpa using ho6)
        · first | exact ho7 | (simpa using ho7)
        · try dsimp only
          omega
        · try dsimp only
          rw [placesF_succ, hpl, hj0, if_pos (by rw [← hcu] at hj1; omega)]
        · first | omega | (dsimp only; omega)
    · refine lx_nil <| wi_false rfl <| wi_exit rfl <| wi_seq <| wi_reg rfl <| lx_move (v) rfl rfl <| lx_move (w) rfl rfl <| lx_assign (v) rfl rfl <| lx_assign (w) rfl rfl <| lx_nil <| ?_
      -- R1
      refine wi_ret ⟨.tuple #[v, w], (res_two rfl rfl rfl), ⟨v, w, rfl, ?_, ?_, hx0_4⟩⟩
      · rw [← hcu]; exact ho5
      · rw [show placesF p.length (pb p) p.length = cs from by rw [hcs, show x = p.length from by omega]]; exact ho4

end Go.Proofs.Ytdokijbdnajhgaa
namespace Go.Proofs.Ytdokijbdnajhgaa
open Go Go.X

def inbB (n : Nat) (xs : List Int) : Bool := (List.range xs.length).all fun i => decide (0 ≤ gt xs i ∧ gt xs i < n)
theorem inbB_iff {n : Nat} {xs : List Int} : inbB n xs = true ↔ ∀ i, i < xs.length → 0 ≤ gt xs i ∧ gt xs i < n := by
  unfold inbB
  rw [rall_iff]
  exact ⟨fun h i hi => of_decide_eq_true (h i hi), fun h i hi => decide_eq_true (h i hi)⟩
def monB (f : Nat → Nat → Bool) (xs : List Int) : Bool := (List.range xs.length).all fun x => (List.range xs.length).all fun y => !f x y || f (gt xs x).toNat (gt xs y).toNat
theorem monB_iff {f : Nat → Nat → Bool} {xs : List Int} : monB f xs = true ↔ ∀ x y, x < xs.length → y < xs.length → f x y = true → f (gt xs x).toNat (gt xs y).toNat = true := by
  unfold monB
  rw [rall_iff]
  constructor
  · intro h x y hx hy hf
    have := rall_iff.1 (h x hx) y hy
    rw [hf] at this; simpa using this
  · intro h x hx
    rw [rall_iff]
    intro y hy
    cases hf : f x y
    · rfl
    · rw [h x y hx hy hf]; rfl
/-- What is wrong with a map. -/
def mapE (n : Nat) (f : Nat → Nat → Bool) (xs : List Int) : Int := if xs.length = n then (if inbB n xs then (if monB f xs then 0 else 92) else 1) else 7
theorem mapE_len {n : Nat} {f : Nat → Nat → Bool} {xs : List Int} (h : xs.length ≠ n) : mapE n f xs = 7 := if_neg h
theorem mapE_rng {n : Nat} {f : Nat → Nat → Bool} {xs : List Int} (h : xs.length = n) {i : Nat} (hi : i < xs.length) (hn : ¬ (0 ≤ gt xs i ∧ gt xs i < n)) : mapE n f xs = 1 := by
  unfold mapE
  rw [if_pos h, if_neg fun h9 => hn (inbB_iff.1 h9 i hi)]
theorem mapE_mon {n : Nat} {f : Nat → Nat → Bool} {xs : List Int} (h : xs.length = n) (hr : ∀ i, i < xs.length → 0 ≤ gt xs i ∧ gt xs i < n) {x y : Nat} (hx : x < xs.length) (hy : y < xs.length) (hf : f x y = true) (hn : f (gt xs x).toNat (gt xs y).toNat = false) : mapE n f xs = 92 := by
  unfold mapE
  rw [if_pos h, if_pos (inbB_iff.2 hr), if_neg fun h9 => by have := monB_iff.1 h9 x y hx hy hf; rw [hn] at this; cases this]
theorem mapE_ok {n : Nat} {f : Nat → Nat → Bool} {xs : List Int} (h : xs.length = n) (hr : ∀ i, i < xs.length → 0 ≤ gt xs i ∧ gt xs i < n) (hm : ∀ x y, x < xs.length → y < xs.length → f x y = true → f (gt xs x).toNat (gt xs y).toNat = true) : mapE n f xs = 0 := by
  unfold mapE
  rw [if_pos h, if_pos (inbB_iff.2 hr), if_pos (monB_iff.2 hm)]
theorem mapE_zero {n : Nat} {f : Nat → Nat → Bool} {xs : List Int} (h : mapE n f xs = 0) : xs.length = n ∧ (∀ i, i < xs.length → 0 ≤ gt xs i ∧ gt xs i < n) ∧ ∀ x y, x < xs.length → y < xs.length → f x y = true → f (gt xs x).toNat (gt xs y).toNat = true := by
  unfold mapE at h
  by_cases h1 : xs.length = n
  · rw [if_pos h1] at h
    by_cases h2 : inbB n xs = true
    · rw [if_pos h2] at h
      by_cases h3 : monB f xs = true
      · exact ⟨h1, inbB_iff.1 h2, monB_iff.1 h3⟩
      · rw [if_neg h3] at h; omega
    · rw [if_neg h2] at h; omega
  · rw [if_neg h1] at h; omega
theorem mapE_cases (n : Nat) (f : Nat → Nat → Bool) (xs : List Int) : mapE n f xs = 0 ∨ mapE n f xs = 1 ∨ mapE n f xs = 7 ∨ mapE n f xs = 92 := by
  unfold mapE; split <;> (try split) <;> (try split) <;> simp
def fixE (p : List (List Bool)) (xs : List Int) : Int := if chkT p = 0 then mapE p.length (pb p) xs else chkT p
def fixB (xs : List Int) (x : Nat) : Bool := decide (gt xs x = (x : Int))
def fixF (xs : List Int) : List Int := filtF xs.length (fixB xs)

set_option maxRecDepth 10000 in
theorem rmap_spec (h : Heap) (vp : Value) (hs : List Hdr) (p : List (List Bool)) (vl : Value) (xs : List Int) (hr_vp : RdE encHd h vp hs) (ht_vp : RT encB h hs p) (hr_vl : RdE encI h vl xs) (hp1 : p.length ≤ 12) (hp2 : Sq p p.length) (hp3 : xs.length ≤ 4096) : Fx Try.prog 26 [vp, vl] h (fun v h' => v = .int .i64 (mapE p.length (pb p) xs) ∧ h = h') := by
  have hl_vp := ht_vp.1
  refine fx_intro (n := 68) [(0, vp), (1, vl)] Try.func26 rfl rfl (by simp) ⟨rfl, rfl, trivial⟩ fun g0 => ?_
  refine wi_seq <| wi_reg rfl <| lx_assign (.int .i64 0) rfl rfl <| lx_nil <| wi_seq <| wi_seq <| wi_reg rfl <| lx_move (vl) rfl rfl <| lx_len rfl Try.underlying25 hr_vl rfl <| lx_move (vp) rfl rfl <| lx_len rfl Try.underlying23 hr_vp rfl <| lx_neqS rfl rfl rfl (fun c1 => ?_) (fun c1 => ?_)
  · refine lx_nil <| wi_true rfl <| wi_seq <| wi_reg rfl <| lx_assign (.int .i64 7) rfl rfl <| lx_nil <| ?_
    -- R1
    refine wi_ret ⟨.int .i64 7, (res_one rfl rfl), ⟨?_, rfl⟩⟩
    · first
      | rw [mapE_len (by omega)]
      | rw [mapE_rng (i := i) (by omega) (by omega) (by omega)]
      | rw [mapE_mon (by omega) hrg (x := x) (y := y) (by omega) (by omega) (by assumption) (by rw [hea, heb]; simpa using ‹(!pb p a b) = true›)]
      | rw [mapE_ok (by omega) hrg fun q r hq hr9 h9 => hm q r (by omega) hr9 h9]
  · refine lx_nil <| wi_false rfl <| wi_skip <| wi_seq <| wi_seq <| wi_reg rfl <| lx_assign (.int .i64 0) rfl rfl <| lx_nil <| wi_block <| ?_
    refine wi_loop (σ := Nat) (rngB 13 33 [4, 5]) (fun (i : Nat) => [(5, .int .i64 ((i : Nat) : Int))]) (fun (i : Nat) (hh : Heap) => h = hh ∧ (i ≤ xs.length) ∧ (∀ j, j < i → 0 ≤ gt xs j ∧ gt xs j < p.length)) (fun (i : Nat) => xs.length - i) 0 ⟨rfl, trivial⟩ ⟨rfl, ?_, ?_⟩ ?_
    · try dsimp only
      omega
    · try dsimp only
      intro j hj; omega
    rintro g1 i hh1 ⟨rfl, hi, hr⟩ IH1
    refine wi_seq <| wi_seq <| wi_reg rfl <| lx_move (.int .i64 ((i : Nat) : Int)) rfl rfl <| lx_move (vl) rfl rfl <| lx_len rfl Try.underlying25 hr_vl rfl <| lx_lssS rfl rfl rfl (fun c2 => ?_) (fun c2 => ?_)
    · refine lx_nil <| wi_true rfl <| wi_skip <| wi_seq <| wi_block <| wi_seq <| wi_reg rfl <| lx_move (vl) rfl rfl <| lx_move (.int .i64 ((i : Nat) : Int)) rfl rfl <| lx_ix (i := i) rfl eT25 hr_vl rfl rfl (by first | omega | (simp only [List.length_set, List.length_append, List.length_cons, List.length_nil, List.length_replicate, List.length_take, swp_length, exch_length]; omega)) <| lx_ld (i := i) (j := 0) (.int .i64 (gt xs i)) rfl rfl fl3 hr_vl (by first | omega | (simp only [List.length_set, List.length_append, List.length_cons, List.length_nil, List.length_replicate, List.length_take, swp_length, exch_length]; omega)) rfl rfl <| lx_lssS rfl rfl rfl (fun c3 => ?_) (fun c3 => ?_)
      · refine lx_move (.bool true) rfl rfl <| lx_skip rfl <| lx_skip rfl <| lx_skip rfl <| lx_skip rfl <| lx_skip rfl <| lx_skip rfl <| lx_skip rfl <| lx_pick true (.bool true) rfl rfl rfl <| lx_nil <| wi_true rfl <| wi_seq <| wi_reg rfl <| lx_assign (.int .i64 1) rfl rfl <| lx_nil <| ?_
        -- R2
        refine wi_ret ⟨.int .i64 1, (res_one rfl rfl), ⟨?_, rfl⟩⟩
        · first
          | rw [mapE_len (by omega)]
          | rw [mapE_rng (i := i) (by omega) (by omega) (by omega)]
          | rw [mapE_mon (by omega) hrg (x := x) (y := y) (by omega) (by omega) (by assumption) (by rw [hea, heb]; simpa using ‹(!pb p a b) = true›)]
          | rw [mapE_ok (by omega) hrg fun q r hq hr9 h9 => hm q r (by omega) hr9 h9]
      · refine lx_move (.bool false) rfl rfl <| lx_move (vl) rfl rfl <| lx_move (.int .i64 ((i : Nat) : Int)) rfl rfl <| lx_ix (i := i) rfl eT25 hr_vl rfl rfl (by first | omega | (simp only [List.length_set, List.length_append, List.length_cons, List.length_nil, List.length_replicate, List.length_take, swp_length, exch_length]; omega)) <| lx_ld (i := i) (j := 0) (.int .i64 (gt xs i)) rfl rfl fl3 hr_vl (by first | omega | (simp only [List.length_set, List.length_append, List.length_cons, List.length_nil, List.length_replicate, List.length_take, swp_length, exch_length]; omega)) rfl rfl <| lx_move (vp) rfl rfl <| lx_len rfl Try.underlying23 hr_vp rfl <| lx_geqS rfl rfl rfl (fun c4 => ?_) (fun c4 => ?_)
        · refine lx_pick false (.bool true) rfl rfl rfl <| lx_nil <| wi_true rfl <| wi_seq <| wi_reg rfl <| lx_assign (.int .i64 1) rfl rfl <| lx_nil <| ?_
          -- R3
          refine wi_ret ⟨.int .i64 1, (res_one rfl rfl), ⟨?_, rfl⟩⟩
          · first
            | rw [mapE_len (by omega)]
            | rw [mapE_rng (i := i) (by omega) (by omega) (by omega)]
            | rw [mapE_mon (by omega) hrg (x := x) (y := y) (by omega) (by omega) (by assumption) (by rw [hea, heb]; simpa using ‹(!pb p a b) = true›)]
            | rw [mapE_ok (by omega) hrg fun q r hq hr9 h9 => hm q r (by omega) hr9 h9]
        · refine lx_pick false (.bool false) rfl rfl rfl <| lx_nil <| wi_false rfl <| wi_skip <| wi_inBlock <| wi_reg rfl <| lx_move (.int .i64 ((i : Nat) : Int)) rfl rfl <| lx_add (((i + 1 : Nat) : Int)) rfl rfl rfl (by omega) (by omega) (by omega) <| lx_assign (.int .i64 ((i + 1 : Nat) : Int)) rfl rfl <| lx_nil <| ?_
          -- L0.1
          refine IH1 _ _ (i + 1) (agree_ups rfl agree_self) ⟨rfl, trivial⟩ ⟨rfl, ?_, ?_⟩ ?_
          · try dsimp only
            omega
          · try dsimp only
            intro j hj
            by_cases e : j = i
            · subst e; omega
            · exact hr j (by omega)
          · first | omega | (dsimp only; omega)
    · refine lx_nil <| wi_false rfl <| wi_exit rfl <| wi_seq <| wi_seq <| wi_reg rfl <| ?_
      have hrg : ∀ j, j < xs.length → 0 ≤ gt xs j ∧ gt xs j < p.length := fun j hj => hr j (by omega)
      refine lx_assign (.int .i64 0) rfl rfl <| lx_nil <| wi_block <| ?_
      refine wi_loop (σ := Nat) (rngB 33 68 [4, 6, 7]) (fun (x : Nat) => [(6, .int .i64 ((x : Nat) : Int))]) (fun (x : Nat) (hh : Heap) => h = hh ∧ (x ≤ xs.length) ∧ (∀ q r, q < x → r < xs.length → pb p q r = true → pb p (gt xs q).toNat (gt xs r).toNat = true)) (fun (x : Nat) => xs.length - x) 0 ⟨rfl, trivial⟩ ⟨rfl, ?_, ?_⟩ ?_
      · try dsimp only
        omega
      · try dsimp only
        intro q r hq; omega
      rintro g2 x hh2 ⟨rfl, hx, hm⟩ IH2
      refine wi_seq <| wi_seq <| wi_reg rfl <| lx_move (.int .i64 ((x : Nat) : Int)) rfl rfl <| lx_move (vl) rfl rfl <| lx_len rfl Try.underlying25 hr_vl rfl <| lx_lssS rfl rfl rfl (fun c5 => ?_) (fun c5 => ?_)
      · refine lx_nil <| wi_true rfl <| wi_skip <| wi_seq <| wi_block <| wi_seq <| wi_reg rfl <| lx_assign (.int .i64 0) rfl rfl <| lx_nil <| wi_block <| ?_
        refine wi_loop (σ := Nat) (rngB 39 68 [4, 7]) (fun (y : Nat) => [(7, .int .i64 ((y : Nat) : Int))]) (fun (y : Nat) (hh : Heap) => h = hh ∧ (y ≤ xs.length) ∧ (∀ r, r < y → pb p x r = true → pb p (gt xs x).toNat (gt xs r).toNat = true)) (fun (y : Nat) => xs.length - y) 0 ⟨rfl, trivial⟩ ⟨rfl, ?_, ?_⟩ ?_
        · try dsimp only
          omega
        · try dsimp only
          intro r hr9; omega
        rintro g3 y hh3 ⟨rfl, hy, hn⟩ IH3
        refine wi_seq <| wi_seq <| wi_reg rfl <| lx_move (.int .i64 ((y : Nat) : Int)) rfl rfl <| lx_move (vl) rfl rfl <| lx_len rfl Try.underlying25 hr_vl rfl <| lx_lssS rfl rfl rfl (fun c6 => ?_) (fun c6 => ?_)
        · refine lx_nil <| wi_true rfl <| wi_skip <| wi_seq <| wi_block <| wi_seq <| wi_draw mo rfl (by decide +kernel) <| ?_
          obtain ⟨a, hga, ha4⟩ : ∃ a : Nat, gt xs x = (a : Int) ∧ a < p.length := ⟨(gt xs x).toNat, by have := hrg x (by omega); omega, by have := hrg x (by omega); omega⟩
          obtain ⟨b, hgb, hb4⟩ : ∃ b : Nat, gt xs y = (b : Int) ∧ b < p.length := ⟨(gt xs y).toNat, by have := hrg y (by omega); omega, by have := hrg y (by omega); omega⟩
          have hea : (gt xs x).toNat = a := by rw [hga]; rfl
          have heb : (gt xs y).toNat = b := by rw [hgb]; rfl
          refine lx_move (vp) rfl rfl <| lx_move (.int .i64 ((x : Nat) : Int)) rfl rfl <| lx_ix (i := x) rfl eT23 hr_vp rfl rfl (by first | omega | (simp only [List.length_set, List.length_append, List.length_cons, List.length_nil, List.length_replicate, List.length_take, swp_length, exch_length]; omega)) <| lx_ld (i := x) (j := 0) ((gt hs x).v) rfl rfl fl70 hr_vp (by first | omega | (simp only [List.length_set, List.length_append, List.length_cons, List.length_nil, List.length_replicate, List.length_take, swp_length, exch_length]; omega)) rfl rfl <| lx_move (.int .i64 ((y : Nat) : Int)) rfl rfl <| lx_ix (i := y) rfl eT70 (ht_vp.2 x (by first | omega | (simp only [List.length_set, List.length_append, List.length_cons, List.length_nil, List.length_replicate, List.length_take, swp_length, exch_length]; omega))) rfl rfl (by rw [hp2.2 x (by first | omega | (simp only [List.length_set, List.length_append, List.length_cons, List.length_nil, List.length_replicate, List.length_take, swp_length, exch_length]; omega))]; omega) <| lx_ld (i := y) (j := 0) (.bool (gt (gt p x) y)) rfl rfl fl4 (ht_vp.2 x (by first | omega | (simp only [List.length_set, List.length_append, List.length_cons, List.length_nil, List.length_replicate, List.length_take, swp_length, exch_length]; omega))) (by rw [hp2.2 x (by first | omega | (simp only [List.length_set, List.length_append, List.length_cons, List.length_nil, List.length_replicate, List.length_take, swp_length, exch_length]; omega))]; omega) rfl rfl <| lx_move (.bool (gt (gt p x) y)) rfl rfl <| ?_
          cases c7 : (gt (gt p x) y)
          · refine lx_skip rfl <| lx_skip rfl <| lx_skip rfl <| lx_skip rfl <| lx_skip rfl <| lx_skip rfl <| lx_skip rfl <| lx_skip rfl <| lx_skip rfl <| lx_skip rfl <| lx_skip rfl <| lx_skip rfl <| lx_skip rfl <| lx_skip rfl <| lx_pick false (.bool false) rfl rfl rfl <| lx_nil <| wi_false rfl <| wi_skip <| wi_inBlock <| wi_reg rfl <| lx_move (.int .i64 ((y : Nat) : Int)) rfl rfl <| lx_add (((y + 1 : Nat) : Int)) rfl rfl rfl (by omega) (by omega) (by omega) <| lx_assign (.int .i64 ((y + 1 : Nat) : Int)) rfl rfl <| lx_nil <| ?_
            -- L4.1
            refine IH3 _ _ (y + 1) (agree_ups rfl agree_self) ⟨rfl, trivial⟩ ⟨rfl, ?_, ?_⟩ ?_
            · try dsimp only
              omega
            · try dsimp only
              intro r hr9 h9
              by_cases e : r = y
              · subst e; first | (rw [show pb p x r = false from by assumption] at h9; cases h9) | (rw [hea, heb]; assumption) | (rw [hea, heb]; simpa using ‹(!pb p a b) = false›)
              · exact hn r (by omega) h9
            · first | omega | (dsimp only; omega)
          · refine lx_move (vp) rfl rfl <| lx_move (vl) rfl rfl <| lx_move (.int .i64 ((x : Nat) : Int)) rfl rfl <| lx_ix (i := x) rfl eT25 hr_vl rfl rfl (by first | omega | (simp only [List.length_set, List.length_append, List.length_cons, List.length_nil, List.length_replicate, List.length_take, swp_length, exch_length]; omega)) <| lx_ld (i := x) (j := 0) (.int .i64 ((a : Nat) : Int)) rfl rfl fl3 hr_vl (by first | omega | (simp only [List.length_set, List.length_append, List.length_cons, List.length_nil, List.length_replicate, List.length_take, swp_length, exch_length]; omega)) (by show some (Value.int .i64 (gt xs x)) = _; rw [hga]) rfl <| lx_ix (i := a) rfl eT23 hr_vp rfl rfl (by first | omega | (simp only [List.length_set, List.length_append, List.length_cons, List.length_nil, List.length_replicate, List.length_take, swp_length, exch_length]; omega)) <| lx_ld (i := a) (j := 0) ((gt hs a).v) rfl rfl fl70 hr_vp (by first | omega | (simp only [List.length_set, List.length_append, List.length_cons, List.length_nil, List.length_replicate, List.length_take, swp_length, exch_length]; omega)) rfl rfl <| lx_move (vl) rfl rfl <| lx_move (.int .i64 ((y : Nat) : Int)) rfl rfl <| lx_ix (i := y) rfl eT25 hr_vl rfl rfl (by first | omega | (simp only [List.length_set, List.length_append, List.length_cons, List.length_nil, List.length_replicate, List.length_take, swp_length, exch_length]; omega)) <| lx_ld (i := y) (j := 0) (.int .i64 ((b : Nat) : Int)) rfl rfl fl3 hr_vl (by first | omega | (simp only [List.length_set, List.length_append, List.length_cons, List.length_nil, List.length_replicate, List.length_take, swp_length, exch_length]; omega)) (by show some (Value.int .i64 (gt xs y)) = _; rw [hgb]) rfl <| lx_ix (i := b) rfl eT70 (ht_vp.2 a (by first | omega | (simp only [List.length_set, List.length_append, List.length_cons, List.length_nil, List.length_replicate, List.length_take, swp_length, exch_length]; omega))) rfl rfl (by rw [hp2.2 a (by first | omega | (simp only [List.length_set, List.length_append, List.length_cons, List.length_nil, List.length_replicate, List.length_take, swp_length, exch_length]; omega))]; omega) <| lx_ld (i := b) (j := 0) (.bool (gt (gt p a) b)) rfl rfl fl4 (ht_vp.2 a (by first | omega | (simp only [List.length_set, List.length_append, List.length_cons, List.length_nil, List.length_replicate, List.length_take, swp_length, exch_length]; omega))) (by rw [hp2.2 a (by first | omega | (simp only [List.length_set, List.length_append, List.length_cons, List.length_nil, List.length_replicate, List.length_take, swp_length, exch_length]; omega))]; omega) rfl rfl <| lx_not rfl rfl <| lx_pick true (.bool (!(gt (gt p a) b))) rfl rfl rfl <| lx_nil <| wi_condS (t := !(gt (gt p a) b)) rfl (fun c8 => ?_) (fun c8 => ?_)
            · refine wi_seq <| wi_reg rfl <| lx_assign (.int .i64 92) rfl rfl <| lx_nil <| ?_
              -- R4
              refine wi_ret ⟨.int .i64 92, (res_one rfl rfl), ⟨?_, rfl⟩⟩
              · first
                | rw [mapE_len (by omega)]
                | rw [mapE_rng (i := i) (by omega) (by omega) (by omega)]
                | rw [mapE_mon (by omega) hrg (x := x) (y := y) (by omega) (by omega) (by assumption) (by rw [hea, heb]; simpa using ‹(!pb p a b) = true›)]
                | rw [mapE_ok (by omega) hrg fun q r hq hr9 h9 => hm q r (by omega) hr9 h9]
            · refine wi_skip <| wi_inBlock <| wi_reg rfl <| lx_move (.int .i64 ((y : Nat) : Int)) rfl rfl <| lx_add (((y + 1 : Nat) : Int)) rfl rfl rfl (by omega) (by omega) (by omega) <| lx_assign (.int .i64 ((y + 1 : Nat) : Int)) rfl rfl <| lx_nil <| ?_
              -- L4.2
              refine IH3 _ _ (y + 1) (agree_ups rfl agree_self) ⟨rfl, trivial⟩ ⟨rfl, ?_, ?_⟩ ?_
              · try dsimp only
                omega
              · try dsimp only
                intro r hr9 h9
                by_cases e : r = y
                · subst e; first | (rw [show pb p x r = false from by assumption] at h9; cases h9) | (rw [hea, heb]; assumption) | (rw [hea, heb]; simpa using ‹(!pb p a b) = false›)
                · exact hn r (by omega) h9
              · first | omega | (dsimp only; omega)
        · refine lx_nil <| wi_false rfl <| wi_exit rfl <| wi_inBlock <| wi_reg rfl <| lx_move (.int .i64 ((x : Nat) : Int)) rfl rfl <| lx_add (((x + 1 : Nat) : Int)) rfl rfl rfl (by omega) (by omega) (by omega) <| lx_assign (.int .i64 ((x + 1 : Nat) : Int)) rfl rfl <| lx_nil <| ?_
          -- L2.1
          refine IH2 _ _ (x + 1) (agree_ups rfl (agree_mix (rngB_sub (by decide) (by decide) rfl) (agree_ups rfl agree_self))) ⟨rfl, trivial⟩ ⟨rfl, ?_, ?_⟩ ?_
          · try dsimp only
            omega
          · try dsimp only
            intro q r hq hr9 h9
            by_cases e : q = x
            · subst e; exact hn r (by omega) h9
            · exact hm q r (by omega) hr9 h9
          · first | omega | (dsimp only; omega)
      · refine lx_nil <| wi_false rfl <| wi_exit rfl <| wi_seq <| wi_reg rfl <| lx_assign (.int .i64 0) rfl rfl <| lx_nil <| ?_
        -- R5
        refine wi_ret ⟨.int .i64 0, (res_one rfl rfl), ⟨?_, rfl⟩⟩
        · first
          | rw [mapE_len (by omega)]
          | rw [mapE_rng (i := i) (by omega) (by omega) (by omega)]
          | rw [mapE_mon (by omega) hrg (x := x) (y := y) (by omega) (by omega) (by assumption) (by rw [hea, heb]; simpa using ‹(!pb p a b) = true›)]
          | rw [mapE_ok (by omega) hrg fun q r hq hr9 h9 => hm q r (by omega) hr9 h9]

set_option maxRecDepth 10000 in
theorem rfixed_spec (h : Heap) (vl : Value) (xs : List Int) (hr_vl : RdE encI h vl xs) (hp1 : xs.length ≤ 4096) : Fx Try.prog 27 [vl] h (fun v h' => ∃ (s : Value), v = s ∧ OwE encI h' h.size 3 s (fixF xs) ∧ Ext h.size h h') := by
  refine fx_intro (n := 22) [(0, vl)] Try.func27 rfl rfl (by simp) ⟨rfl, trivial⟩ fun g0 => ?_
  refine wi_seq <| wi_reg rfl <| lx_assign (.slice none 0 0) rfl rfl <| lx_nil <| wi_seq <| wi_reg rfl <| lx_assign (.slice none 0 0) rfl rfl <| lx_nil <| wi_seq <| wi_seq <| wi_reg rfl <| lx_assign (.int .i64 0) rfl rfl <| lx_nil <| wi_block <| ?_
  refine wi_loop (σ := Nat × Value × (List Int)) (rngB 3 21 []) (fun (ss : Nat × Value × (List Int)) => [(4, .int .i64 ((ss.1 : Nat) : Int)), (3, ss.2.1)]) (fun (ss : Nat × Value × (List Int)) (hh : Heap) => OwE encI hh h.size 3 ss.2.1 ss.2.2 ∧ Ext h.size h hh ∧ (ss.1 ≤ xs.length) ∧ (ss.2.2 = filtF ss.1 (fixB xs))) (fun (ss : Nat × Value × (List Int)) => xs.length - ss.1) (0, .slice none 0 0, []) ⟨rfl, rfl, trivial⟩ ⟨?_, (Ext.refl _ _), ?_, ?_⟩ ?_
  · first | exact (owE_nil encI _ h.size 3) | (simpa using (owE_nil encI _ h.size 3))
  · try dsimp only
    omega
  · try dsimp only
    first | done | rfl
  rintro g1 ⟨x, v, ys⟩ hh1 ⟨ho1, hx0_1, hx, hys⟩ IH1
  dsimp only at *
  have hyl : ys.length ≤ x := by rw [hys]; exact filtF_length _ _
  refine wi_seq <| wi_seq <| wi_reg rfl <| lx_move (.int .i64 ((x : Nat) : Int)) rfl rfl <| lx_move (vl) rfl rfl <| lx_len rfl Try.underlying25 hr_vl rfl <| lx_lssS rfl rfl rfl (fun c1 => ?_) (fun c1 => ?_)
  · refine lx_nil <| wi_true rfl <| wi_skip <| wi_seq <| wi_block <| wi_seq <| wi_reg rfl <| lx_move (vl) rfl rfl <| lx_move (.int .i64 ((x : Nat) : Int)) rfl rfl <| lx_ix (i := x) rfl eT25 hr_vl rfl rfl (by first | omega | (simp only [List.length_set, List.length_append, List.length_cons, List.length_nil, List.length_replicate, List.length_take, swp_length, exch_length]; omega)) <| lx_ld (i := x) (j := 0) (.int .i64 (gt xs x)) rfl rfl fl3 (hr_vl.extS hx0_1) (by first | omega | (simp only [List.length_set, List.length_append, List.length_cons, List.length_nil, List.length_replicate, List.length_take, swp_length, exch_length]; omega)) rfl rfl <| lx_move (.int .i64 ((x : Nat) : Int)) rfl rfl <| lx_eqlS rfl rfl rfl (fun c2 => ?_) (fun c2 => ?_)
    · refine lx_nil <| wi_true rfl <| wi_reg rfl <| lx_move (v) rfl rfl <| lx_move (.int .i64 ((x : Nat) : Int)) rfl rfl <| lx_appendL (E := encI) (B := h.size) [((x : Nat) : Int)] [.int .i64 ((x : Nat) : Int)] rfl rfl (fun _ => rfl) rfl eT25 rfl rfl rfl rfl ho1 (fun _ => rfl) (by show ys.length + 1 ≤ _; omega) (by show (ys.length + 1) * 8 ≤ _; omega) hx0_1.size (fun _ _ => trivial) fun u1 v1 h1 ho2 hc1 hg1 => ?_
      have hx0_2 := hx0_1.trans (ho1.ext hc1 hx0_1.size)
      refine lx_assign (v1) rfl rfl <| lx_nil <| wi_inBlock <| wi_reg rfl <| lx_move (.int .i64 ((x : Nat) : Int)) rfl rfl <| lx_add (((x + 1 : Nat) : Int)) rfl rfl rfl (by omega) (by omega) (by omega) <| lx_assign (.int .i64 ((x + 1 : Nat) : Int)) rfl rfl <| lx_nil <| ?_
      -- L0.1
      refine IH1 _ _ (x + 1, v1, ys ++ [((x : Nat) : Int)]) (agree_ups rfl agree_self) ⟨rfl, rfl, trivial⟩ ⟨?_, hx0_2, ?_, ?_⟩ ?_
      · first | exact ho2 | (simpa using ho2)
      · try dsimp only
        omega
      · try dsimp only
        rw [hys]; exact filtF_yes (decide_eq_true (by omega))
      · first | omega | (dsimp only; omega)
    · refine lx_nil <| wi_false rfl <| wi_skip <| wi_inBlock <| wi_reg rfl <| lx_move (.int .i64 ((x : Nat) : Int)) rfl rfl <| lx_add (((x + 1 : Nat) : Int)) rfl rfl rfl (by omega) (by omega) (by omega) <| lx_assign (.int .i64 ((x + 1 : Nat) : Int)) rfl rfl <| lx_nil <| ?_
      -- L0.2
      refine IH1 _ _ (x + 1, v, ys) (agree_ups rfl agree_self) ⟨rfl, rfl, trivial⟩ ⟨?_, hx0_1, ?_, ?_⟩ ?_
      · first | exact ho1 | (simpa using ho1)
      · try dsimp only
        omega
      · try dsimp only
        rw [hys]; exact filtF_no (decide_eq_false (by omega))
      · first | omega | (dsimp only; omega)
  · refine lx_nil <| wi_false rfl <| wi_exit rfl <| wi_seq <| wi_reg rfl <| lx_move (v) rfl rfl <| lx_assign (v) rfl rfl <| lx_nil <| ?_
    -- R1
    refine wi_ret ⟨v, (res_one rfl rfl), ⟨v, rfl, ?_, hx0_1⟩⟩
    · rw [show fixF xs = ys from by rw [hys, show x = xs.length from by omega]; rfl]; exact ho1

set_option maxRecDepth 10000 in
theorem fix1_spec (h : Heap) (x : Int) (vp : Value) (hs : List Hdr) (p : List (List Bool)) (bx : Nat) (hb_bx : Blk h bx (#[vp]) 29) (hr_vp : RdE encHd h vp hs) (ht_vp : RT encB h hs p) (hp1 : p.length ≤ 1000000) : Fx Try.prog 87 [.int .i64 x, .pointer (some ⟨bx, 0, none⟩)] h (fun v h' => v = .bool (decide (¬ (0 ≤ x ∧ x < p.length))) ∧ h = h') := by
  have hl_vp := ht_vp.1
  refine fx_intro (n := 12) [(0, .int .i64 x), (1, .pointer (some ⟨bx, 0, none⟩))] Try.func87 rfl rfl (by simp) ⟨rfl, rfl, trivial⟩ fun g0 => ?_
  refine wi_seq <| wi_reg rfl <| lx_assign (.bool false) rfl rfl <| lx_nil <| wi_seq <| wi_reg rfl <| lx_move (.int .i64 x) rfl rfl <| lx_lssS rfl rfl rfl (fun c1 => ?_) (fun c1 => ?_)
  · refine lx_move (.bool true) rfl rfl <| lx_skip rfl <| lx_skip rfl <| lx_skip rfl <| lx_skip rfl <| lx_pick true (.bool true) rfl rfl rfl <| lx_assign (.bool true) rfl rfl <| lx_nil <| ?_
    -- R1
    refine wi_ret ⟨.bool true, (res_one rfl rfl), ⟨?_, rfl⟩⟩
    · congr 1
      first
      | exact (decide_eq_true (by omega)).symm
      | exact (decide_eq_false (by omega)).symm
  · refine lx_move (.bool false) rfl rfl <| lx_move (.int .i64 x) rfl rfl <| lx_ldB (vp) rfl rfl fl29 hb_bx rfl rfl <| lx_len rfl Try.underlying29 hr_vp rfl <| lx_geqS rfl rfl rfl (fun c2 => ?_) (fun c2 => ?_)
    · refine lx_pick false (.bool true) rfl rfl rfl <| lx_assign (.bool true) rfl rfl <| lx_nil <| ?_
      -- R2
      refine wi_ret ⟨.bool true, (res_one rfl rfl), ⟨?_, rfl⟩⟩
      · congr 1
        first
        | exact (decide_eq_true (by omega)).symm
        | exact (decide_eq_false (by omega)).symm
    · refine lx_pick false (.bool false) rfl rfl rfl <| lx_assign (.bool false) rfl rfl <| lx_nil <| ?_
      -- R3
      refine wi_ret ⟨.bool false, (res_one rfl rfl), ⟨?_, rfl⟩⟩
      · congr 1
        first
        | exact (decide_eq_true (by omega)).symm
        | exact (decide_eq_false (by omega)).symm

set_option maxRecDepth 10000 in
theorem iindex_spec (h : Heap) (vl : Value) (xs : List Int) (vp : Value) (hs : List Hdr) (p : List (List Bool)) (bx : Nat) (hb_bx : Blk h bx (#[vp]) 29) (hr_vp : RdE encHd h vp hs) (ht_vp : RT encB h hs p) (hr_vl : RdE encI h vl xs) (hp1 : p.length ≤ 1000000) (hp2 : xs.length ≤ 1000000) : Fx Try.prog 131 [vl, .func (.func 87) #[] #[.pointer (some ⟨bx, 0, none⟩)]] h (fun v h' => ∃ (r : Int), v = .int .i64 r ∧ ((r = -1 ∧ ∀ i, i < xs.length → 0 ≤ gt xs i ∧ gt xs i < p.length) ∨ (0 ≤ r ∧ ∃ i, i < xs.length ∧ ¬ (0 ≤ gt xs i ∧ gt xs i < p.length))) ∧ h = h') := by
  have hl_vp := ht_vp.1
  refine fx_intro (n := 19) [(0, vl), (1, .func (.func 87) #[] #[.pointer (some ⟨bx, 0, none⟩)])] Try.func131 rfl rfl (by simp) ⟨rfl, rfl, trivial⟩ fun g0 => ?_
  refine wi_seq <| wi_reg rfl <| lx_assign (.int .i64 0) rfl rfl <| lx_nil <| wi_seq <| wi_seq <| wi_reg rfl <| lx_move (vl) rfl rfl <| lx_len rfl Try.underlying25 hr_vl rfl <| lx_move (.int .i64 0) rfl rfl <| lx_nil <| wi_block <| ?_
  refine wi_loop (σ := Nat) (rngB 8 19 [4, 5]) (fun (i : Nat) => [(8, .int .i64 ((i : Nat) : Int))]) (fun (i : Nat) (hh : Heap) => h = hh ∧ (i ≤ xs.length) ∧ (∀ j, j < i → 0 ≤ gt xs j ∧ gt xs j < p.length)) (fun (i : Nat) => xs.length - i) 0 ⟨rfl, trivial⟩ ⟨rfl, ?_, ?_⟩ ?_
  · try dsimp only
    omega
  · try dsimp only
    intro j hj; omega
  rintro g1 i hh1 ⟨rfl, hi, he⟩ IH1
  refine wi_seq <| wi_reg rfl <| lx_lssS rfl rfl rfl (fun c1 => ?_) (fun c1 => ?_)
  · refine lx_nil <| wi_seq <| wi_true rfl <| wi_skip <| wi_seq <| wi_block <| wi_seq <| wi_reg rfl <| lx_move (.int .i64 ((i : Nat) : Int)) rfl rfl <| lx_assign (.int .i64 ((i : Nat) : Int)) rfl rfl <| lx_nil <| wi_seq <| wi_reg rfl <| lx_move (.func (.func 87) #[] #[.pointer (some ⟨bx, 0, none⟩)]) rfl rfl <| lx_move (vl) rfl rfl <| lx_move (.int .i64 ((i : Nat) : Int)) rfl rfl <| lx_ix (i := i) rfl eT25 hr_vl rfl rfl (by first | omega | (simp only [List.length_set, List.length_append, List.length_cons, List.length_nil, List.length_replicate, List.length_take, swp_length, exch_length]; omega)) <| lx_ld (i := i) (j := 0) (.int .i64 (gt xs i)) rfl rfl fl3 hr_vl (by first | omega | (simp only [List.length_set, List.length_append, List.length_cons, List.length_nil, List.length_replicate, List.length_take, swp_length, exch_length]; omega)) rfl rfl <| lx_callV [] [.pointer (some ⟨bx, 0, none⟩)] [.int .i64 (gt xs i)] rfl rfl Try.call87 rfl rfl (fix1_spec h (gt xs i) vp hs p bx hb_bx hr_vp ht_vp (by omega)) (fun _ _ _ => trivial) ?_
    rintro _ h1 ⟨rfl, rfl⟩
    refine lx_nil <| wi_condS (t := decide (¬ (0 ≤ (gt xs i) ∧ (gt xs i) < p.length))) rfl (fun c2 => ?_) (fun c2 => ?_)
    · refine wi_seq <| wi_reg rfl <| lx_move (.int .i64 ((i : Nat) : Int)) rfl rfl <| lx_assign (.int .i64 ((i : Nat) : Int)) rfl rfl <| lx_nil <| ?_
      -- R1
      refine wi_ret ⟨.int .i64 ((i : Nat) : Int), (res_one rfl rfl), ⟨((i : Nat) : Int), ?_, ?_, rfl⟩⟩
      · first | rfl | (simp; done) | (simp; omega)
      · refine .inr ⟨by omega, i, by omega, ?_⟩
        exact of_decide_eq_true c2
    · refine wi_skip <| wi_inBlock <| wi_reg rfl <| lx_add (((i + 1 : Nat) : Int)) rfl rfl rfl (by omega) (by omega) (by omega) <| lx_move (.int .i64 ((i + 1 : Nat) : Int)) rfl rfl <| lx_nil <| ?_
      -- L0.1
      refine IH1 _ _ (i + 1) (agree_ups rfl agree_self) ⟨rfl, trivial⟩ ⟨rfl, ?_, ?_⟩ ?_
      · try dsimp only
        omega
      · try dsimp only
        intro j hj; by_cases e : j = i
        · subst e; have h9 := of_decide_eq_false c2; omega
        · exact he j (by omega)
      · first | omega | (dsimp only; omega)
  · refine lx_nil <| wi_seq <| wi_false rfl <| wi_exit rfl <| wi_seq <| wi_reg rfl <| lx_assign (.int .i64 (-1)) rfl rfl <| lx_nil <| ?_
    -- R2
    refine wi_ret ⟨.int .i64 (-1), (res_one rfl rfl), ⟨(-1), ?_, ?_, rfl⟩⟩
    · first | rfl | (simp; done) | (simp; omega)
    · exact .inl ⟨rfl, fun j hj => he j (by omega)⟩

set_option maxRecDepth 10000 in
theorem icontains_spec (h : Heap) (vl : Value) (xs : List Int) (vp : Value) (hs : List Hdr) (p : List (List Bool)) (bx : Nat) (hb_bx : Blk h bx (#[vp]) 29) (hr_vp : RdE encHd h vp hs) (ht_vp : RT encB h hs p) (hr_vl : RdE encI h vl xs) (hp1 : p.length ≤ 1000000) (hp2 : xs.length ≤ 1000000) : Fx Try.prog 86 [vl, .func (.func 87) #[] #[.pointer (some ⟨bx, 0, none⟩)]] h (fun v h' => v = .bool (!inbB p.length xs) ∧ h = h') := by
  have hl_vp := ht_vp.1
  refine fx_intro (n := 9) [(0, vl), (1, .func (.func 87) #[] #[.pointer (some ⟨bx, 0, none⟩)])] Try.func86 rfl rfl (by simp) ⟨rfl, rfl, trivial⟩ fun g0 => ?_
  refine wi_seq <| wi_reg rfl <| lx_assign (.bool false) rfl rfl <| lx_nil <| wi_seq <| wi_reg rfl <| lx_move (vl) rfl rfl <| lx_move (.func (.func 87) #[] #[.pointer (some ⟨bx, 0, none⟩)]) rfl rfl <| lx_call [vl, .func (.func 87) #[] #[.pointer (some ⟨bx, 0, none⟩)]] rfl rfl Try.call131 rfl (iindex_spec h vl xs vp hs p bx hb_bx hr_vp ht_vp hr_vl (by omega) (by omega)) (fun _ _ _ => trivial) ?_
  rintro _ h1 ⟨r_1, rfl, hr_1, rfl⟩
  refine lx_geq rfl rfl rfl <| lx_assign (.bool (decide ((0 : Int) ≤ r_1))) rfl rfl <| lx_nil <| ?_
  -- R1
  refine wi_ret ⟨.bool (decide ((0 : Int) ≤ r_1)), (res_one rfl rfl), ⟨?_, rfl⟩⟩
  · congr 1
    rcases hr_1 with ⟨h1, h2⟩ | ⟨h1, j, h2, h3⟩
    · rw [decide_eq_false (by omega), inbB_iff.2 h2]; rfl
    · rw [decide_eq_true (by omega)]
      symm
      rw [Bool.not_eq_true', Bool.eq_false_iff]
      exact fun h => h3 (inbB_iff.1 h j h2)

set_option maxRecDepth 10000 in
theorem ofixed_spec (h : Heap) (vp : Value) (hs : List Hdr) (p : List (List Bool)) (vl : Value) (xs : List Int) (hr_vp : RdE encHd h vp hs) (ht_vp : RT encB h hs p) (hr_vl : RdE encI h vl xs) (hp1 : p.length ≤ 1000000) (hp2 : ∀ i, i < p.length → (gt p i).length ≤ 1000000) (hp3 : xs.length ≤ 1000000) : Fx Try.prog 25 [vp, vl] h (fun v h' => ∃ (s : Value) (zs : List Int), v = .tuple #[s, .int .i64 (fixE p xs)] ∧ OwE encI h' h.size 3 s zs ∧ (zs = if fixE p xs = 0 then fixF xs else []) ∧ Ext h.size h h') := by
  have hl_vp := ht_vp.1
  refine fx_intro (n := 66) [(0, vp), (1, vl)] Try.func25 rfl rfl (by simp) ⟨rfl, rfl, trivial⟩ fun g0 => ?_
  refine wi_seq <| wi_reg rfl <| lx_box #[vp] rfl rfl (sl_cells hr_vp) (fun _ _ _ => trivial) fun bn1 h1 hbn1 hbk1 hx1 hsz1 => ?_
  have hbb1 : h.size ≤ bn1 := by have := (Nat.le_refl h.size); omega
  refine lx_assign (.slice none 0 0) rfl rfl <| lx_assign (.int .i64 0) rfl rfl <| lx_nil <| wi_seq <| wi_seq <| wi_reg rfl <| lx_ldB (vp) rfl rfl fl29 hbk1 rfl rfl <| lx_call [vp] rfl rfl Try.call62 rfl (ocheck_spec h1 vp hs p (hr_vp.extS hx1) (ht_vp.extS hx1) (by omega) (by first | with_reducible assumption | omega)) (fun _ _ _ => trivial) ?_
  rintro _ h2 ⟨rfl, hx2⟩
  have hx0_1 := hx1.trans2 hx2 hx1.size
  have hb1 := hbk1.extS hx2
  refine lx_assign (.int .i64 (chkT p)) rfl rfl <| lx_nil <| wi_seq <| wi_reg rfl <| lx_move (.int .i64 (chkT p)) rfl rfl <| lx_neqS rfl rfl rfl (fun c1 => ?_) (fun c1 => ?_)
  · refine lx_nil <| wi_true rfl <| wi_seq <| wi_reg rfl <| lx_move (.int .i64 (chkT p)) rfl rfl <| lx_assign (.slice none 0 0) rfl rfl <| lx_assign (.int .i64 (chkT p)) rfl rfl <| lx_nil <| ?_
    have h9 : fixE p xs = chkT p := if_neg (by omega)
    -- R1
    refine wi_ret ⟨.tuple #[.slice none 0 0, .int .i64 (chkT p)], (res_two rfl rfl rfl), ⟨.slice none 0 0, [], ?_, (owE_nil encI _ h.size 3), ?_, hx0_1⟩⟩
    · rw [h9]
    · rw [if_neg (by omega)]
  · refine lx_nil <| wi_false rfl <| wi_skip <| wi_seq <| wi_seq <| wi_reg rfl <| ?_
    have hok := chkT_ok (p := p) (by omega)
    have hp12 : p.length ≤ 12 := hok.2.1
    have hpq : Sq p p.length := isT_sq hok.2.2
    refine lx_move (vl) rfl rfl <| lx_len rfl Try.underlying25 hr_vl rfl <| lx_ldB (vp) rfl rfl fl29 hb1 rfl rfl <| lx_len rfl Try.underlying29 hr_vp rfl <| lx_neqS rfl rfl rfl (fun c2 => ?_) (fun c2 => ?_)
    · refine lx_nil <| wi_true rfl <| wi_seq <| wi_reg rfl <| lx_assign (.slice none 0 0) rfl rfl <| lx_assign (.int .i64 7) rfl rfl <| lx_nil <| ?_
      have h9 : fixE p xs = 7 := by unfold fixE; rw [if_pos (by omega), mapE_len (by omega)]
      -- R2
      refine wi_ret ⟨.tuple #[.slice none 0 0, .int .i64 7], (res_two rfl rfl rfl), ⟨.slice none 0 0, [], ?_, (owE_nil encI _ h.size 3), ?_, hx0_1⟩⟩
      · rw [h9]
      · rw [if_neg (by omega)]
    · refine lx_nil <| wi_false rfl <| wi_skip <| wi_seq <| wi_seq <| wi_reg rfl <| lx_move (vl) rfl rfl <| lx_makeFunc [] [.pointer (some ⟨bn1, 0, none⟩)] rfl rfl rfl <| lx_call [vl, .func (.func 87) #[] #[.pointer (some ⟨bn1, 0, none⟩)]] rfl rfl Try.call86 rfl (icontains_spec h2 vl xs vp hs p bn1 hb1 (hr_vp.extS hx0_1) (ht_vp.extS hx0_1) (hr_vl.extS hx0_1) (by omega) (by omega)) (fun _ _ _ => trivial) ?_
      rintro _ h3 ⟨rfl, rfl⟩
      refine lx_nil <| wi_condS (t := !inbB p.length xs) rfl (fun c3 => ?_) (fun c3 => ?_)
      · refine wi_seq <| wi_reg rfl <| lx_assign (.slice none 0 0) rfl rfl <| lx_assign (.int .i64 1) rfl rfl <| lx_nil <| ?_
        have h9 : fixE p xs = 1 := by unfold fixE mapE; rw [if_pos (by omega), if_pos (by omega), if_neg (by simpa using c3)]
        -- R3
        refine wi_ret ⟨.tuple #[.slice none 0 0, .int .i64 1], (res_two rfl rfl rfl), ⟨.slice none 0 0, [], ?_, (owE_nil encI _ h.size 3), ?_, hx0_1⟩⟩
        · rw [h9]
        · rw [if_neg (by omega)]
      · refine wi_skip <| wi_seq <| wi_reg rfl <| ?_
        have hrb : inbB p.length xs = true := by simpa using ‹(!inbB p.length xs) = false›
        have hrg := inbB_iff.1 hrb
        refine lx_assign (.slice none 0 0) rfl rfl <| lx_nil <| wi_seq <| wi_seq <| wi_reg rfl <| lx_move (vl) rfl rfl <| lx_len rfl Try.underlying25 hr_vl rfl <| lx_move (.int .i64 0) rfl rfl <| lx_nil <| wi_block <| ?_
        refine wi_loop (σ := Nat × Value × (List Int)) (rngB 26 65 [4, 5, 7, 8, 9, 10]) (fun (ss : Nat × Value × (List Int)) => [(26, .int .i64 ((ss.1 : Nat) : Int)), (7, ss.2.1)]) (fun (ss : Nat × Value × (List Int)) (hh : Heap) => OwE encI hh h.size 3 ss.2.1 ss.2.2 ∧ Blk hh bn1 #[vp] 29 ∧ Ext h.size h hh ∧ (ss.1 ≤ xs.length) ∧ (∀ q r, q < ss.1 → r < xs.length → pb p q r = true → pb p (gt xs q).toNat (gt xs r).toNat = true) ∧ (ss.2.2 = filtF ss.1 (fixB xs))) (fun (ss : Nat × Value × (List Int)) => xs.length - ss.1) (0, .slice none 0 0, []) ⟨rfl, rfl, trivial⟩ ⟨?_, ?_, hx0_1, ?_, ?_, ?_⟩ ?_
        · first | exact (owE_nil encI _ h.size 3) | (simpa using (owE_nil encI _ h.size 3))
        · exact hb1
        · try dsimp only
          omega
        · try dsimp only
          intro q r hq; omega
        · try dsimp only
          first | done | rfl
        rintro g1 ⟨x, v, ys⟩ hh1 ⟨ho1, hbk2, hx0_2, hx, hm, hys⟩ IH1
        dsimp only at *
        have hyl : ys.length ≤ x := by rw [hys]; exact filtF_length _ _
        refine wi_seq <| wi_reg rfl <| lx_lssS rfl rfl rfl (fun c4 => ?_) (fun c4 => ?_)
        · refine lx_nil <| wi_seq <| wi_true rfl <| wi_skip <| wi_seq <| wi_block <| wi_seq <| wi_reg rfl <| ?_
          obtain ⟨a, hga, ha4⟩ : ∃ a : Nat, gt xs x = (a : Int) ∧ a < p.length := ⟨(gt xs x).toNat, by have := hrg x (by omega); omega, by have := hrg x (by omega); omega⟩
          have hea : (gt xs x).toNat = a := by rw [hga]; rfl
          refine lx_move (.int .i64 ((x : Nat) : Int)) rfl rfl <| lx_ix (i := x) rfl eT25 hr_vl rfl rfl (by first | omega | (simp only [List.length_set, List.length_append, List.length_cons, List.length_nil, List.length_replicate, List.length_take, swp_length, exch_length]; omega)) <| lx_ld (i := x) (j := 0) (.int .i64 ((a : Nat) : Int)) rfl rfl fl3 (hr_vl.extS hx0_2) (by first | omega | (simp only [List.length_set, List.length_append, List.length_cons, List.length_nil, List.length_replicate, List.length_take, swp_length, exch_length]; omega)) (by show some (Value.int .i64 (gt xs x)) = _; rw [hga]) rfl <| lx_assign (.int .i64 ((x : Nat) : Int)) rfl rfl <| lx_assign (.int .i64 ((a : Nat) : Int)) rfl rfl <| lx_nil <| wi_seq <| wi_seq <| wi_reg rfl <| lx_ldB (vp) rfl rfl fl29 hbk2 rfl rfl <| lx_len rfl Try.underlying29 hr_vp rfl <| lx_move (.int .i64 0) rfl rfl <| lx_nil <| wi_block <| ?_
          refine wi_loop (σ := Nat) (rngB 33 57 [4, 5, 10]) (fun (y : Nat) => [(33, .int .i64 ((y : Nat) : Int))]) (fun (y : Nat) (hh : Heap) => hh1 = hh ∧ (y ≤ p.length) ∧ (∀ r, r < y → pb p x r = true → pb p (gt xs x).toNat (gt xs r).toNat = true)) (fun (y : Nat) => p.length - y) 0 ⟨rfl, trivial⟩ ⟨rfl, ?_, ?_⟩ ?_
          · try dsimp only
            omega
          · try dsimp only
            intro r hr9; omega
          rintro g2 y hh2 ⟨rfl, hy, hn⟩ IH2
          refine wi_seq <| wi_reg rfl <| lx_lssS rfl rfl rfl (fun c5 => ?_) (fun c5 => ?_)
          · refine lx_nil <| wi_seq <| wi_true rfl <| wi_skip <| wi_seq <| wi_block <| wi_seq <| wi_reg rfl <| lx_move (.int .i64 ((y : Nat) : Int)) rfl rfl <| lx_assign (.int .i64 ((y : Nat) : Int)) rfl rfl <| lx_nil <| wi_seq <| wi_draw mo rfl (by decide +kernel) <| ?_
            obtain ⟨b, hgb, hb4⟩ : ∃ b : Nat, gt xs y = (b : Int) ∧ b < p.length := ⟨(gt xs y).toNat, by have := hrg y (by omega); omega, by have := hrg y (by omega); omega⟩
            have heb : (gt xs y).toNat = b := by rw [hgb]; rfl
            refine lx_ldB (vp) rfl rfl fl29 hbk2 rfl rfl <| lx_move (.int .i64 ((x : Nat) : Int)) rfl rfl <| lx_ix (i := x) rfl eT29 hr_vp rfl rfl (by first | omega | (simp only [List.length_set, List.length_append, List.length_cons, List.length_nil, List.length_replicate, List.length_take, swp_length, exch_length]; omega)) <| lx_ld (i := x) (j := 0) ((gt hs x).v) rfl rfl fl70 (hr_vp.extS hx0_2) (by first | omega | (simp only [List.length_set, List.length_append, List.length_cons, List.length_nil, List.length_replicate, List.length_take, swp_length, exch_length]; omega)) rfl rfl <| lx_move (.int .i64 ((y : Nat) : Int)) rfl rfl <| lx_ix (i := y) rfl eT70 (ht_vp.2 x (by first | omega | (simp only [List.length_set, List.length_append, List.length_cons, List.length_nil, List.length_replicate, List.length_take, swp_length, exch_length]; omega))) rfl rfl (by rw [hpq.2 x (by first | omega | (simp only [List.length_set, List.length_append, List.length_cons, List.length_nil, List.length_replicate, List.length_take, swp_length, exch_length]; omega))]; omega) <| lx_ld (i := y) (j := 0) (.bool (gt (gt p x) y)) rfl rfl fl4 ((ht_vp.extS hx0_2).2 x (by first | omega | (simp only [List.length_set, List.length_append, List.length_cons, List.length_nil, List.length_replicate, List.length_take, swp_length, exch_length]; omega))) (by rw [hpq.2 x (by first | omega | (simp only [List.length_set, List.length_append, List.length_cons, List.length_nil, List.length_replicate, List.length_take, swp_length, exch_length]; omega))]; omega) rfl rfl <| lx_move (.bool (gt (gt p x) y)) rfl rfl <| ?_
            cases c6 : (gt (gt p x) y)
            · refine lx_skip rfl <| lx_skip rfl <| lx_skip rfl <| lx_skip rfl <| lx_skip rfl <| lx_skip rfl <| lx_skip rfl <| lx_skip rfl <| lx_skip rfl <| lx_skip rfl <| lx_skip rfl <| lx_pick false (.bool false) rfl rfl rfl <| lx_nil <| wi_false rfl <| wi_skip <| wi_inBlock <| wi_reg rfl <| lx_add (((y + 1 : Nat) : Int)) rfl rfl rfl (by omega) (by omega) (by omega) <| lx_move (.int .i64 ((y + 1 : Nat) : Int)) rfl rfl <| lx_nil <| ?_
              -- L2.1
              refine IH2 _ _ (y + 1) (agree_ups rfl agree_self) ⟨rfl, trivial⟩ ⟨rfl, ?_, ?_⟩ ?_
              · try dsimp only
                omega
              · try dsimp only
                intro r hr9 h9
                by_cases e : r = y
                · subst e; first | (rw [show pb p x r = false from by assumption] at h9; cases h9) | (rw [hea, heb]; assumption) | (rw [hea, heb]; simpa using ‹(!pb p a b) = false›)
                · exact hn r (by omega) h9
              · first | omega | (dsimp only; omega)
            · refine lx_ldB (vp) rfl rfl fl29 hbk2 rfl rfl <| lx_move (.int .i64 ((a : Nat) : Int)) rfl rfl <| lx_ix (i := a) rfl eT29 hr_vp rfl rfl (by first | omega | (simp only [List.length_set, List.length_append, List.length_cons, List.length_nil, List.length_replicate, List.length_take, swp_length, exch_length]; omega)) <| lx_ld (i := a) (j := 0) ((gt hs a).v) rfl rfl fl70 (hr_vp.extS hx0_2) (by first | omega | (simp only [List.length_set, List.length_append, List.length_cons, List.length_nil, List.length_replicate, List.length_take, swp_length, exch_length]; omega)) rfl rfl <| lx_move (vl) rfl rfl <| lx_move (.int .i64 ((y : Nat) : Int)) rfl rfl <| lx_ix (i := y) rfl eT25 hr_vl rfl rfl (by first | omega | (simp only [List.length_set, List.length_append, List.length_cons, List.length_nil, List.length_replicate, List.length_take, swp_length, exch_length]; omega)) <| lx_ld (i := y) (j := 0) (.int .i64 ((b : Nat) : Int)) rfl rfl fl3 (hr_vl.extS hx0_2) (by first | omega | (simp only [List.length_set, List.length_append, List.length_cons, List.length_nil, List.length_replicate, List.length_take, swp_length, exch_length]; omega)) (by show some (Value.int .i64 (gt xs y)) = _; rw [hgb]) rfl <| lx_ix (i := b) rfl eT70 (ht_vp.2 a (by first | omega | (simp only [List.length_set, List.length_append, List.length_cons, List.length_nil, List.length_replicate, List.length_take, swp_length, exch_length]; omega))) rfl rfl (by rw [hpq.2 a (by first | omega | (simp only [List.length_set, List.length_append, List.length_cons, List.length_nil, List.length_replicate, List.length_take, swp_length, exch_length]; omega))]; omega) <| lx_ld (i := b) (j := 0) (.bool (gt (gt p a) b)) rfl rfl fl4 ((ht_vp.extS hx0_2).2 a (by first | omega | (simp only [List.length_set, List.length_append, List.length_cons, List.length_nil, List.length_replicate, List.length_take, swp_length, exch_length]; omega))) (by rw [hpq.2 a (by first | omega | (simp only [List.length_set, List.length_append, List.length_cons, List.length_nil, List.length_replicate, List.length_take, swp_length, exch_length]; omega))]; omega) rfl rfl <| lx_not rfl rfl <| lx_pick true (.bool (!(gt (gt p a) b))) rfl rfl rfl <| lx_nil <| wi_condS (t := !(gt (gt p a) b)) rfl (fun c7 => ?_) (fun c7 => ?_)
              · refine wi_seq <| wi_reg rfl <| lx_assign (.slice none 0 0) rfl rfl <| lx_assign (.int .i64 92) rfl rfl <| lx_nil <| ?_
                have h9 : fixE p xs = 92 := by unfold fixE; rw [if_pos (by omega), mapE_mon (by omega) hrg (x := x) (y := y) (by omega) (by omega) (by assumption) (by rw [hea, heb]; simpa using ‹(!pb p a b) = true›)]
                -- R4
                refine wi_ret ⟨.tuple #[.slice none 0 0, .int .i64 92], (res_two rfl rfl rfl), ⟨.slice none 0 0, [], ?_, (owE_nil encI _ h.size 3), ?_, hx0_2⟩⟩
                · rw [h9]
                · rw [if_neg (by omega)]
              · refine wi_skip <| wi_inBlock <| wi_reg rfl <| lx_add (((y + 1 : Nat) : Int)) rfl rfl rfl (by omega) (by omega) (by omega) <| lx_move (.int .i64 ((y + 1 : Nat) : Int)) rfl rfl <| lx_nil <| ?_
                -- L2.2
                refine IH2 _ _ (y + 1) (agree_ups rfl agree_self) ⟨rfl, trivial⟩ ⟨rfl, ?_, ?_⟩ ?_
                · try dsimp only
                  omega
                · try dsimp only
                  intro r hr9 h9
                  by_cases e : r = y
                  · subst e; first | (rw [show pb p x r = false from by assumption] at h9; cases h9) | (rw [hea, heb]; assumption) | (rw [hea, heb]; simpa using ‹(!pb p a b) = false›)
                  · exact hn r (by omega) h9
                · first | omega | (dsimp only; omega)
          · refine lx_nil <| wi_seq <| wi_false rfl <| wi_exit rfl <| wi_seq <| wi_reg rfl <| lx_move (.int .i64 ((x : Nat) : Int)) rfl rfl <| lx_move (.int .i64 ((a : Nat) : Int)) rfl rfl <| lx_eqlS rfl rfl rfl (fun c8 => ?_) (fun c8 => ?_)
            · refine lx_nil <| wi_true rfl <| wi_reg rfl <| lx_move (v) rfl rfl <| lx_move (.int .i64 ((x : Nat) : Int)) rfl rfl <| lx_appendL (E := encI) (B := h.size) [((x : Nat) : Int)] [.int .i64 ((x : Nat) : Int)] rfl rfl (fun _ => rfl) rfl eT25 rfl rfl rfl rfl ho1 (fun _ => rfl) (by show ys.length + 1 ≤ _; omega) (by show (ys.length + 1) * 8 ≤ _; omega) hx0_2.size (fun _ _ => trivial) fun u1 v1 h4 ho2 hc1 hg1 => ?_
              have hx0_3 := hx0_2.trans (ho1.ext hc1 hx0_2.size)
              have hb2 := hbk2.chg hc1 (nb_ty ho1 hbk2 (by decide))
              refine lx_assign (v1) rfl rfl <| lx_nil <| wi_inBlock <| wi_reg rfl <| lx_add (((x + 1 : Nat) : Int)) rfl rfl rfl (by omega) (by omega) (by omega) <| lx_move (.int .i64 ((x + 1 : Nat) : Int)) rfl rfl <| lx_nil <| ?_
              -- L0.1
              refine IH1 _ _ (x + 1, v1, ys ++ [((x : Nat) : Int)]) (agree_ups rfl (agree_mix (rngB_sub (by decide) (by decide) rfl) (agree_ups rfl agree_self))) ⟨rfl, rfl, trivial⟩ ⟨?_, ?_, hx0_3, ?_, ?_, ?_⟩ ?_
              · first | exact ho2 | (simpa using ho2)
              · exact hb2
              · try dsimp only
                omega
              · try dsimp only
                intro q r hq hr9 h9
                by_cases e : q = x
                · subst e; exact hn r (by omega) h9
                · exact hm q r (by omega) hr9 h9
              · try dsimp only
                rw [hys]; exact filtF_yes (decide_eq_true (by omega))
              · first | omega | (dsimp only; omega)
            · refine lx_nil <| wi_false rfl <| wi_skip <| wi_inBlock <| wi_reg rfl <| lx_add (((x + 1 : Nat) : Int)) rfl rfl rfl (by omega) (by omega) (by omega) <| lx_move (.int .i64 ((x + 1 : Nat) : Int)) rfl rfl <| lx_nil <| ?_
              -- L0.2
              refine IH1 _ _ (x + 1, v, ys) (agree_ups rfl (agree_mix (rngB_sub (by decide) (by decide) rfl) (agree_ups rfl agree_self))) ⟨rfl, rfl, trivial⟩ ⟨?_, ?_, hx0_2, ?_, ?_, ?_⟩ ?_
              · first | exact ho1 | (simpa using ho1)
              · exact hbk2
              · try dsimp only
                omega
              · try dsimp only
                intro q r hq hr9 h9
                by_cases e : q = x
                · subst e; exact hn r (by omega) h9
                · exact hm q r (by omega) hr9 h9
              · try dsimp only
                rw [hys]; exact filtF_no (decide_eq_false (by omega))
              · first | omega | (dsimp only; omega)
        · refine lx_nil <| wi_seq <| wi_false rfl <| wi_exit rfl <| wi_seq <| wi_reg rfl <| lx_move (v) rfl rfl <| lx_assign (v) rfl rfl <| lx_assign (.int .i64 0) rfl rfl <| lx_nil <| ?_
          have h9 : fixE p xs = 0 := by unfold fixE; rw [if_pos (by omega), mapE_ok (by omega) hrg fun q r hq hr9 h9 => hm q r (by omega) hr9 h9]
          -- R5
          refine wi_ret ⟨.tuple #[v, .int .i64 0], (res_two rfl rfl rfl), ⟨v, ys, ?_, ho1, ?_, hx0_2⟩⟩
          · rw [h9]
          · rw [if_pos h9, hys, show x = xs.length from by omega]; rfl

end Go.Proofs.Ytdokijbdnajhgaa
namespace Go.Proofs.Ytdokijbdnajhgaa
open Go.Shelf
def Try.laysNm225_ren : Go.Shelf.Ren := ⟨fun | 25 => 83 | 31 => 128 | 32 => 129 | 37 => 168 | n => n, fun | 22 => 25 | 3 => 3 | 4 => 4 | 40 => 45 | 0 => 0 | n => n, fun | n => n⟩
theorem Try.laysNm225 : Go.Proofs.Lays2.n25 Try.prog Try.laysNm225_ren := {
  mixed := by kernel_rfl
  f25 := Try.func83.trans (congrArg some (by kernel_rfl))
  f31 := Try.func128.trans (congrArg some (by kernel_rfl))
  f32 := Try.func129.trans (congrArg some (by kernel_rfl))
  f37 := Try.func168.trans (congrArg some (by kernel_rfl))
  t0 := Try.underlying0
  a0 := Try.isAgg0
  z0 := Try.sizeOf0
  v0 := Try.zeroValue0
  t3 := Try.underlying3
  a3 := Try.isAgg3
  z3 := Try.sizeOf3
  v3 := Try.zeroValue3
  t4 := Try.underlying4
  a4 := Try.isAgg4
  z4 := Try.sizeOf4
  v4 := Try.zeroValue4
  t22 := Try.underlying25
  a22 := Try.isAgg25
  z22 := Try.sizeOf25
  v22 := Try.zeroValue25
  t40 := Try.underlying45
  a40 := Try.isAgg45
  z40 := Try.sizeOf45
  v40 := Try.zeroValue45 }
open Go.RowKit Go.Lib in
theorem Try.slices_BinarySearch_int (b off n c : Nat) (zs : List Int) (x : Int) (w : World) (hz : n ≤ zs.length) (hbig : n < 4611686018427387904) (hc : ∀ j, j < zs.length → w.cell? ⟨b, off + j, none⟩ = some (.int .i64 (zs.getD j 0))) (hs : (zs.take n).Pairwise (· ≤ ·)) :
    Calls Try.prog 83 #[.slice (some ⟨b, off, none⟩) n c, .int .i64 x] w fun e w' => e = .returned (.tuple #[.int .i64 ((zs.take n).countP (· < x) : Nat), .bool ((zs.take n).contains x)]) ∧ ∃ q, w' = w.drewN q := Any.slices_BinarySearch_int Try.laysNm225 b off n c zs x w hz hbig hc hs
end Go.Proofs.Ytdokijbdnajhgaa
namespace Go.Proofs.Ytdokijbdnajhgaa
open Go Go.X Go.Sort
theorem lfind_spec (h : Heap) (B : Nat) (v : Value) (xs : List Int) (x : Int) (ho : OwE encI h B 3 v xs) (_ : B ≤ h.size) (hne : xs ≠ []) (hl : xs.length ≤ 1000000) (hs : xs.Pairwise (· ≤ ·)) :
    Fx Try.prog 83 [v, .int .i64 x] h (fun r h' => r = .tuple #[.int .i64 ((xs.countP (fun y => decide (y < x)) : Nat) : Int), .bool (xs.contains x)] ∧ h = h') := by
  obtain ⟨g, cap, cur, rfl, hB, hg, hn, hm, hsz, ht⟩ := own_parts ho hne
  intro w hw
  subst hw
  have hH := own_holds (w := w) (B := B) (cap := cap) hg ht
  refine (Try.slices_BinarySearch_int g 0 xs.length cap xs x w (Nat.le_refl _) (by omega) (fun j hj => ?_) (by rw [List.take_length]; exact hs)).mono ?_
  · have := (hH j (by simpa using hj)).1
    rw [this, getElem!_pos xs.toArray j (by simpa using hj)]
    simp [List.getD, List.getElem?_eq_getElem hj]
  · rintro e w' ⟨rfl, q, rfl⟩
    rw [List.take_length]
    exact ⟨_, rfl, by exact ⟨rfl, rfl, rfl⟩, rfl, rfl⟩
end Go.Proofs.Ytdokijbdnajhgaa
namespace Go.Proofs.Ytdokijbdnajhgaa
open Go Go.X

set_option maxRecDepth 10000 in
theorem common_up_spec (h : Heap) (vp : Value) (hs : List Hdr) (p : List (List Bool)) (t : Nat) (hr_vp : RdE encHd h vp hs) (ht_vp : RT encB h hs p) (hp1 : p.length ≤ 12) (hp2 : Sq p p.length) (hp3 : t < 4096) : Fx Try.prog 79 [vp, .int .i64 ((t : Nat) : Int), .func (.func 80) #[vp] #[]] h (fun v h' => v = .int .i64 ((uppS p.length (pb p) t : Nat) : Int) ∧ h = h') := by
  have hl_vp := ht_vp.1
  refine fx_intro (n := 32) [(0, vp), (1, .int .i64 ((t : Nat) : Int)), (2, .func (.func 80) #[vp] #[])] Try.func79 rfl rfl (by simp) ⟨rfl, rfl, rfl, trivial⟩ fun g0 => ?_
  refine wi_seq <| wi_reg rfl <| lx_assign (.int .i64 0) rfl rfl <| lx_nil <| wi_seq <| wi_reg rfl <| ?_
  have hpw := pow12 hp1
  have hpe : 2 ^ hs.length = 2 ^ p.length := by rw [hl_vp]
  have hp0 := Nat.two_pow_pos p.length
  refine lx_move (vp) rfl rfl <| lx_len rfl Try.underlying29 hr_vp rfl <| lx_conv ((hs.length : Nat) : Int) rfl Try.underlying3 Try.underlying45 rfl (wrap_u64 (by omega) (by omega)) <| lx_shl (m := 1) (n := hs.length) rfl rfl rfl (by show _ ≤ 64; omega) (wrap_i64 (by omega) (by omega)) <| lx_sub (((1 * 2 ^ hs.length - 1 : Nat) : Int)) rfl rfl rfl (by omega) (by omega) (by omega) <| lx_assign (.int .i64 ((1 * 2 ^ hs.length - 1 : Nat) : Int)) rfl rfl <| lx_nil <| wi_seq <| wi_seq <| wi_reg rfl <| lx_move (vp) rfl rfl <| lx_len rfl Try.underlying29 hr_vp rfl <| lx_move (.int .i64 0) rfl rfl <| lx_nil <| wi_block <| ?_
  refine wi_loop (σ := Nat × Nat) (rngB 16 31 [7, 8]) (fun (ss : Nat × Nat) => [(16, .int .i64 ((ss.1 : Nat) : Int)), (7, .int .i64 ((ss.2 : Nat) : Int))]) (fun (ss : Nat × Nat) (hh : Heap) => h = hh ∧ (ss.1 ≤ p.length) ∧ (ss.2 = cmF p.length t (upF p.length (pb p)) ss.1)) (fun (ss : Nat × Nat) => p.length - ss.1) (0, 1 * 2 ^ hs.length - 1) ⟨rfl, rfl, trivial⟩ ⟨rfl, ?_, ?_⟩ ?_
  · try dsimp only
    omega
  · try dsimp only
    rw [cmF_zero, Nat.one_mul, hpe]
  rintro g1 ⟨x, o⟩ hh1 ⟨rfl, hx, ho⟩ IH1
  dsimp only at *
  refine wi_seq <| wi_reg rfl <| lx_lssS rfl rfl rfl (fun c1 => ?_) (fun c1 => ?_)
  · refine lx_nil <| wi_seq <| wi_true rfl <| wi_skip <| wi_seq <| wi_block <| wi_seq <| wi_reg rfl <| lx_move (.int .i64 ((x : Nat) : Int)) rfl rfl <| lx_assign (.int .i64 ((x : Nat) : Int)) rfl rfl <| lx_nil <| wi_seq <| wi_reg rfl <| ?_
    have hbl : t / 2 ^ x &&& 1 ≤ 1 := Nat.and_le_right
    have hdv := Nat.div_le_self t (2 ^ x)
    have hol : o < 2 ^ p.length := by rw [ho]; exact cmF_lt _ _ _ _
    refine lx_move (.int .i64 ((t : Nat) : Int)) rfl rfl <| lx_move (.int .i64 ((x : Nat) : Int)) rfl rfl <| lx_conv ((x : Nat) : Int) rfl Try.underlying3 Try.underlying45 rfl (wrap_u64 (by omega) (by omega)) <| lx_shr (m := t) (n := x) rfl rfl rfl (by show _ ≤ 64; omega) <| lx_and (m := t / 2 ^ x) (n := 1) rfl rfl rfl (by show _ < 2 ^ 64; omega) (by show _ < 2 ^ 64; omega) (wrap_i64 (by omega) (by omega)) <| lx_eqlS rfl rfl rfl (fun c2 => ?_) (fun c2 => ?_)
    · refine lx_nil <| wi_true rfl <| wi_reg rfl <| ?_
      have hul := upF_lt p.length (pb p) x
      have hal : o &&& upF p.length (pb p) x ≤ o := Nat.and_le_left
      refine lx_move (.int .i64 ((o : Nat) : Int)) rfl rfl <| lx_move (.func (.func 80) #[vp] #[]) rfl rfl <| lx_move (.int .i64 ((x : Nat) : Int)) rfl rfl <| lx_callV [vp] [] [.int .i64 ((x : Nat) : Int)] rfl rfl Try.call80 rfl rfl (up_spec h vp hs p x hr_vp ht_vp (by omega) (by first | with_reducible assumption | omega) (by omega)) (fun _ _ _ => trivial) ?_
      rintro _ h1 ⟨rfl, rfl⟩
      refine lx_and (m := o) (n := upF p.length (pb p) x) rfl rfl rfl (by show _ < 2 ^ 64; omega) (by show _ < 2 ^ 64; omega) (wrap_i64 (by omega) (by omega)) <| lx_assign (.int .i64 ((o &&& (upF p.length (pb p) x) : Nat) : Int)) rfl rfl <| lx_nil <| wi_inBlock <| wi_reg rfl <| lx_add (((x + 1 : Nat) : Int)) rfl rfl rfl (by omega) (by omega) (by omega) <| lx_move (.int .i64 ((x + 1 : Nat) : Int)) rfl rfl <| lx_nil <| ?_
      -- L0.1
      refine IH1 _ _ (x + 1, o &&& (upF p.length (pb p) x)) (agree_ups rfl agree_self) ⟨rfl, rfl, trivial⟩ ⟨rfl, ?_, ?_⟩ ?_
      · try dsimp only
        omega
      · try dsimp only
        rw [ho]
        first
        | exact cmF_yes (bit_nz (by omega))
        | exact cmF_no (bit_zero.1 (by omega))
      · first | omega | (dsimp only; omega)
    · refine lx_nil <| wi_false rfl <| wi_skip <| wi_inBlock <| wi_reg rfl <| lx_add (((x + 1 : Nat) : Int)) rfl rfl rfl (by omega) (by omega) (by omega) <| lx_move (.int .i64 ((x + 1 : Nat) : Int)) rfl rfl <| lx_nil <| ?_
      -- L0.2
      refine IH1 _ _ (x + 1, o) (agree_ups rfl agree_self) ⟨rfl, rfl, trivial⟩ ⟨rfl, ?_, ?_⟩ ?_
      · try dsimp only
        omega
      · try dsimp only
        rw [ho]
        first
        | exact cmF_yes (bit_nz (by omega))
        | exact cmF_no (bit_zero.1 (by omega))
      · first | omega | (dsimp only; omega)
  · refine lx_nil <| wi_seq <| wi_false rfl <| wi_exit rfl <| wi_seq <| wi_reg rfl <| lx_move (.int .i64 ((o : Nat) : Int)) rfl rfl <| lx_assign (.int .i64 ((o : Nat) : Int)) rfl rfl <| lx_nil <| ?_
    -- R1
    refine wi_ret ⟨.int .i64 ((o : Nat) : Int), (res_one rfl rfl), ⟨?_, rfl⟩⟩
    · rw [ho, show x = p.length from by omega, cmF_up]

set_option maxRecDepth 10000 in
theorem common_dn_spec (h : Heap) (vp : Value) (hs : List Hdr) (p : List (List Bool)) (t : Nat) (hr_vp : RdE encHd h vp hs) (ht_vp : RT encB h hs p) (hp1 : p.length ≤ 12) (hp2 : Sq p p.length) (hp3 : t < 4096) : Fx Try.prog 79 [vp, .int .i64 ((t : Nat) : Int), .func (.func 81) #[vp] #[]] h (fun v h' => v = .int .i64 ((lowS p.length (pb p) t : Nat) : Int) ∧ h = h') := by
  have hl_vp := ht_vp.1
  refine fx_intro (n := 32) [(0, vp), (1, .int .i64 ((t : Nat) : Int)), (2, .func (.func 81) #[vp] #[])] Try.func79 rfl rfl (by simp) ⟨rfl, rfl, rfl, trivial⟩ fun g0 => ?_
  refine wi_seq <| wi_reg rfl <| lx_assign (.int .i64 0) rfl rfl <| lx_nil <| wi_seq <| wi_reg rfl <| ?_
  have hpw := pow12 hp1
  have hpe : 2 ^ hs.length = 2 ^ p.length := by rw [hl_vp]
  have hp0 := Nat.two_pow_pos p.length
  refine lx_move (vp) rfl rfl <| lx_len rfl Try.underlying29 hr_vp rfl <| lx_conv ((hs.length : Nat) : Int) rfl Try.underlying3 Try.underlying45 rfl (wrap_u64 (by omega) (by omega)) <| lx_shl (m := 1) (n := hs.length) rfl rfl rfl (by show _ ≤ 64; omega) (wrap_i64 (by omega) (by omega)) <| lx_sub (((1 * 2 ^ hs.length - 1 : Nat) : Int)) rfl rfl rfl (by omega) (by omega) (by omega) <| lx_assign (.int .i64 ((1 * 2 ^ hs.length - 1 : Nat) : Int)) rfl rfl <| lx_nil <| wi_seq <| wi_seq <| wi_reg rfl <| lx_move (vp) rfl rfl <| lx_len rfl Try.underlying29 hr_vp rfl <| lx_move (.int .i64 0) rfl rfl <| lx_nil <| wi_block <| ?_
  refine wi_loop (σ := Nat × Nat) (rngB 16 31 [7, 8]) (fun (ss : Nat × Nat) => [(16, .int .i64 ((ss.1 : Nat) : Int)), (7, .int .i64 ((ss.2 : Nat) : Int))]) (fun (ss : Nat × Nat) (hh : Heap) => h = hh ∧ (ss.1 ≤ p.length) ∧ (ss.2 = cmF p.length t (dnF p.length (pb p)) ss.1)) (fun (ss : Nat × Nat) => p.length - ss.1) (0, 1 * 2 ^ hs.length - 1) ⟨rfl, rfl, trivial⟩ ⟨rfl, ?_, ?_⟩ ?_
  · try dsimp only
    omega
  · try dsimp only
    rw [cmF_zero, Nat.one_mul, hpe]
  rintro g1 ⟨x, o⟩ hh1 ⟨rfl, hx, ho⟩ IH1
  dsimp only at *
  refine wi_seq <| wi_reg rfl <| lx_lssS rfl rfl rfl (fun c1 => ?_) (fun c1 => ?_)
  · refine lx_nil <| wi_seq <| wi_true rfl <| wi_skip <| wi_seq <| wi_block <| wi_seq <| wi_reg rfl <| lx_move (.int .i64 ((x : Nat) : Int)) rfl rfl <| lx_assign (.int .i64 ((x : Nat) : Int)) rfl rfl <| lx_nil <| wi_seq <| wi_reg rfl <| ?_
    have hbl : t / 2 ^ x &&& 1 ≤ 1 := Nat.and_le_right
    have hdv := Nat.div_le_self t (2 ^ x)
    have hol : o < 2 ^ p.length := by rw [ho]; exact cmF_lt _ _ _ _
    refine lx_move (.int .i64 ((t : Nat) : Int)) rfl rfl <| lx_move (.int .i64 ((x : Nat) : Int)) rfl rfl <| lx_conv ((x : Nat) : Int) rfl Try.underlying3 Try.underlying45 rfl (wrap_u64 (by omega) (by omega)) <| lx_shr (m := t) (n := x) rfl rfl rfl (by show _ ≤ 64; omega) <| lx_and (m := t / 2 ^ x) (n := 1) rfl rfl rfl (by show _ < 2 ^ 64; omega) (by show _ < 2 ^ 64; omega) (wrap_i64 (by omega) (by omega)) <| lx_eqlS rfl rfl rfl (fun c2 => ?_) (fun c2 => ?_)
    · refine lx_nil <| wi_true rfl <| wi_reg rfl <| ?_
      have hul := dnF_lt p.length (pb p) x
      have hal : o &&& dnF p.length (pb p) x ≤ o := Nat.and_le_left
      refine lx_move (.int .i64 ((o : Nat) : Int)) rfl rfl <| lx_move (.func (.func 81) #[vp] #[]) rfl rfl <| lx_move (.int .i64 ((x : Nat) : Int)) rfl rfl <| lx_callV [vp] [] [.int .i64 ((x : Nat) : Int)] rfl rfl Try.call81 rfl rfl (down_spec h vp hs p x hr_vp ht_vp (by omega) (by first | with_reducible assumption | omega) (by omega)) (fun _ _ _ => trivial) ?_
      rintro _ h1 ⟨rfl, rfl⟩
      refine lx_and (m := o) (n := dnF p.length (pb p) x) rfl rfl rfl (by show _ < 2 ^ 64; omega) (by show _ < 2 ^ 64; omega) (wrap_i64 (by omega) (by omega)) <| lx_assign (.int .i64 ((o &&& (dnF p.length (pb p) x) : Nat) : Int)) rfl rfl <| lx_nil <| wi_inBlock <| wi_reg rfl <| lx_add (((x + 1 : Nat) : Int)) rfl rfl rfl (by omega) (by omega) (by omega) <| lx_move (.int .i64 ((x + 1 : Nat) : Int)) rfl rfl <| lx_nil <| ?_
      -- L0.1
      refine IH1 _ _ (x + 1, o &&& (dnF p.length (pb p) x)) (agree_ups rfl agree_self) ⟨rfl, rfl, trivial⟩ ⟨rfl, ?_, ?_⟩ ?_
      · try dsimp only
        omega
      · try dsimp only
        rw [ho]
        first
        | exact cmF_yes (bit_nz (by omega))
        | exact cmF_no (bit_zero.1 (by omega))
      · first | omega | (dsimp only; omega)
    · refine lx_nil <| wi_false rfl <| wi_skip <| wi_inBlock <| wi_reg rfl <| lx_add (((x + 1 : Nat) : Int)) rfl rfl rfl (by omega) (by omega) (by omega) <| lx_move (.int .i64 ((x + 1 : Nat) : Int)) rfl rfl <| lx_nil <| ?_
      -- L0.2
      refine IH1 _ _ (x + 1, o) (agree_ups rfl agree_self) ⟨rfl, rfl, trivial⟩ ⟨rfl, ?_, ?_⟩ ?_
      · try dsimp only
        omega
      · try dsimp only
        rw [ho]
        first
        | exact cmF_yes (bit_nz (by omega))
        | exact cmF_no (bit_zero.1 (by omega))
      · first | omega | (dsimp only; omega)
  · refine lx_nil <| wi_seq <| wi_false rfl <| wi_exit rfl <| wi_seq <| wi_reg rfl <| lx_move (.int .i64 ((o : Nat) : Int)) rfl rfl <| lx_assign (.int .i64 ((o : Nat) : Int)) rfl rfl <| lx_nil <| ?_
    -- R1
    refine wi_ret ⟨.int .i64 ((o : Nat) : Int), (res_one rfl rfl), ⟨?_, rfl⟩⟩
    · rw [ho, show x = p.length from by omega, cmF_dn]

end Go.Proofs.Ytdokijbdnajhgaa
