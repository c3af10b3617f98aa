/-
  Texts in one: OZ, PA, PB, XResC, XDist, XLatP, PC, XTwo, XPop, XLin, XMapO, XComp, XLinM.
-/
import Derived.Test.YtdokijbdnajhgaaMBir3
import Derived.Maps.RangeRun
import Derived.MapKept
set_option linter.unusedSimpArgs false
set_option linter.unusedVariables false
namespace Go.Proofs.Ytdokijbdnajhgaa
open Go Go.X

theorem st119 : StrL Try.prog 119 49 { name := "join", type := 49, offset := 0, embedded := false, tag := "", pkgPath := "stadda/order", byteOffset := 0 } { name := "meet", type := 49, offset := 1, embedded := false, tag := "", pkgPath := "stadda/order", byteOffset := 24 } := ⟨Try.underlying119, rfl, rfl, rfl, rfl, Try.sizeOf49⟩

set_option maxRecDepth 10000 in
theorem omoebius_spec (h : Heap) (vp : Value) (hs : List Hdr) (p : List (List Bool)) (hr_vp : RdE encHd h vp hs) (ht_vp : RT encB h hs p) (hp1 : p.length ≤ 1000000) (hp2 : ∀ i, i < p.length → (gt p i).length ≤ 1000000) : Fx Try.prog 49 [vp] h (fun v h' => ∃ (s : Value) (hm : List Hdr) (r : List (List Int)), v = .tuple #[s, .int .i64 (chkT p)] ∧ OwE encHd h' h.size 25 s hm ∧ OT encI h' h.size 3 hm r ∧ ((chkT p ≠ 0 ∧ r = []) ∨ (chkT p = 0 ∧ r = muT p.length (pb p))) ∧ Ext h.size h h') := by
  have hl_vp := ht_vp.1
  refine fx_intro (n := 12) [(0, vp)] Try.func49 rfl rfl (by simp) ⟨rfl, trivial⟩ fun g0 => ?_
  refine wi_seq <| wi_reg rfl <| lx_assign (.slice none 0 0) rfl rfl <| lx_assign (.int .i64 0) rfl rfl <| lx_nil <| wi_seq <| wi_seq <| wi_reg rfl <| lx_move (vp) rfl rfl <| lx_call [vp] rfl rfl Try.call62 rfl (ocheck_spec h vp hs p hr_vp ht_vp (by omega) (by first | with_reducible assumption | omega)) (fun _ _ _ => trivial) ?_
  rintro _ h1 ⟨rfl, hx1⟩
  refine lx_assign (.int .i64 (chkT p)) rfl rfl <| lx_nil <| wi_seq <| wi_reg rfl <| lx_move (.int .i64 (chkT p)) rfl rfl <| lx_neqS rfl rfl rfl (fun c1 => ?_) (fun c1 => ?_)
  · refine lx_nil <| wi_true rfl <| wi_seq <| wi_reg rfl <| lx_move (.int .i64 (chkT p)) rfl rfl <| lx_assign (.slice none 0 0) rfl rfl <| lx_assign (.int .i64 (chkT p)) rfl rfl <| lx_nil <| ?_
    -- R1
    refine wi_ret ⟨.tuple #[.slice none 0 0, .int .i64 (chkT p)], (res_two rfl rfl rfl), ⟨.slice none 0 0, [], [], rfl, (owE_nil encHd _ h.size 25), (OT.nil encI _ h.size 3), ?_, hx1⟩⟩
    · exact .inl ⟨by omega, rfl⟩
  · refine lx_nil <| wi_false rfl <| wi_skip <| wi_seq <| wi_reg rfl <| ?_
    have hok := chkT_ok (p := p) (by omega)
    have hp12 : p.length ≤ 12 := hok.2.1
    have hpq : Sq p p.length := isT_sq hok.2.2
    refine lx_move (vp) rfl rfl <| lx_call [vp] rfl rfl Try.call108 rfl (moebius_spec h1 vp hs p (hr_vp.extS hx1) (ht_vp.extS hx1) (by omega) hok.2.2) (fun _ _ _ => trivial) ?_
    rintro v1 h2 ⟨_, hm_1, rfl, ho1, hot1, hx2⟩
    have hx0_1 := hx1.trans2 hx2 hx1.size
    have ho2 := ho1.base hx1.size
    have hot2 := hot1.base hx1.size
    have hl_hot2 := hot2.1
    refine lx_assign (v1) rfl rfl <| lx_assign (.int .i64 0) rfl rfl <| lx_nil <| ?_
    -- R2
    refine wi_ret ⟨.tuple #[v1, .int .i64 0], (res_two rfl rfl rfl), ⟨v1, hm_1, muT p.length (pb p), ?_, ho2, hot2, ?_, hx0_1⟩⟩
    · rw [show chkT p = 0 from by omega]
    · exact .inr ⟨by omega, rfl⟩

/-- Right below. -/
def rbF (n : Nat) (f : Nat → Nat → Bool) (x y : Nat) : Bool := (decide (x ≠ y) && f x y) && (List.range n).all fun z => !((decide (x ≠ z) && f x z) && (decide (z ≠ y) && f z y))
theorem rb_no {n x y z : Nat} {f : Nat → Nat → Bool} (hz : z < n) (h1 : (decide (x ≠ z) && f x z) = true) (h2 : (decide (z ≠ y) && f z y) = true) : rbF n f x y = false := by
  unfold rbF
  rw [Bool.and_eq_false_iff]
  right
  rw [Bool.eq_false_iff]
  intro h
  have := rall_iff.1 h z hz
  rw [h1, h2] at this
  cases this
theorem rb_yes {n x y : Nat} {f : Nat → Nat → Bool} (h : ∀ z, z < n → ((decide (x ≠ z) && f x z) && (decide (z ≠ y) && f z y)) = false) : rbF n f x y = (decide (x ≠ y) && f x y) := by
  unfold rbF
  rw [show ((List.range n).all fun z => !((decide (x ≠ z) && f x z) && (decide (z ≠ y) && f z y))) = true from rall_iff.2 fun z hz => by rw [h z hz]; rfl, Bool.and_true]
/-- How many are right below. -/
def rbN (n : Nat) (f : Nat → Nat → Bool) (x k : Nat) : Nat := (List.range k).countP fun y => rbF n f y x
theorem rbN_le (n : Nat) (f : Nat → Nat → Bool) (x k : Nat) : rbN n f x k ≤ k := by
  have := List.countP_le_length (p := fun y => rbF n f y x) (l := List.range k)
  simpa [rbN] using this
theorem rbN_succ (n : Nat) (f : Nat → Nat → Bool) (x k : Nat) : rbN n f x (k + 1) = rbN n f x k + if rbF n f k x then 1 else 0 := by
  unfold rbN
  rw [List.range_succ, List.countP_append, List.countP_cons, List.countP_nil]; simp
def jelB (n : Nat) (f : Nat → Nat → Bool) (x : Nat) : Bool := decide (rbN n f x n = 1)
def jelF (n : Nat) (f : Nat → Nat → Bool) : List Int := filtF n (jelB n f)

set_option maxRecDepth 10000 in
theorem rightBelow_spec (h : Heap) (vp : Value) (hs : List Hdr) (p : List (List Bool)) (x : Nat) (y : Nat) (hr_vp : RdE encHd h vp hs) (ht_vp : RT encB h hs p) (hp1 : p.length ≤ 12) (hp2 : Sq p p.length) (hp3 : x < p.length) (hp4 : y < p.length) : Fx Try.prog 96 [vp, .int .i64 ((x : Nat) : Int), .int .i64 ((y : Nat) : Int)] h (fun v h' => v = .bool (rbF p.length (pb p) x y) ∧ h = h') := by
  have hl_vp := ht_vp.1
  refine fx_intro (n := 28) [(0, vp), (1, .int .i64 ((x : Nat) : Int)), (2, .int .i64 ((y : Nat) : Int))] Try.func96 rfl rfl (by simp) ⟨rfl, rfl, rfl, trivial⟩ fun g0 => ?_
  refine wi_seq <| wi_reg rfl <| lx_assign (.bool false) rfl rfl <| lx_nil <| wi_seq <| wi_seq <| wi_reg rfl <| lx_move (vp) rfl rfl <| lx_len rfl Try.underlying29 hr_vp rfl <| lx_move (.int .i64 0) rfl rfl <| lx_nil <| wi_block <| ?_
  refine wi_loop (σ := Nat) (rngB 10 24 [6, 7]) (fun (z : Nat) => [(10, .int .i64 ((z : Nat) : Int))]) (fun (z : Nat) (hh : Heap) => h = hh ∧ (z ≤ p.length) ∧ (∀ w, w < z → ((decide (x ≠ w) && pb p x w) && (decide (w ≠ y) && pb p w y)) = false)) (fun (z : Nat) => p.length - z) 0 ⟨rfl, trivial⟩ ⟨rfl, ?_, ?_⟩ ?_
  · try dsimp only
    omega
  · try dsimp only
    intro w hw; omega
  rintro g1 z hh1 ⟨rfl, hz, ha⟩ IH1
  refine wi_seq <| wi_reg rfl <| lx_lssS rfl rfl rfl (fun c1 => ?_) (fun c1 => ?_)
  · refine lx_nil <| wi_seq <| wi_true rfl <| wi_skip <| wi_seq <| wi_block <| wi_seq <| wi_reg rfl <| lx_move (.int .i64 ((z : Nat) : Int)) rfl rfl <| lx_assign (.int .i64 ((z : Nat) : Int)) rfl rfl <| lx_nil <| wi_seq <| wi_reg rfl <| lx_move (vp) rfl rfl <| lx_move (.int .i64 ((x : Nat) : Int)) rfl rfl <| lx_move (.int .i64 ((z : Nat) : Int)) rfl rfl <| lx_call [vp, .int .i64 ((x : Nat) : Int), .int .i64 ((z : Nat) : Int)] rfl rfl Try.call106 rfl (below_spec h vp hs p x z hr_vp ht_vp (by omega) (by first | with_reducible assumption | omega) (by omega) (by omega)) (fun _ _ _ => trivial) ?_
    rintro _ h1 ⟨rfl, rfl⟩
    refine lx_move (.bool (decide (x ≠ z) && pb p x z)) rfl rfl <| ?_
    cases c2 : (decide (x ≠ z) && pb p x z)
    · refine lx_skip rfl <| lx_skip rfl <| lx_skip rfl <| lx_skip rfl <| lx_pick false (.bool false) rfl rfl rfl <| lx_nil <| wi_false rfl <| wi_skip <| wi_inBlock <| wi_reg rfl <| lx_add (((z + 1 : Nat) : Int)) rfl rfl rfl (by omega) (by omega) (by omega) <| lx_move (.int .i64 ((z + 1 : Nat) : Int)) rfl rfl <| lx_nil <| ?_
      -- L0.1
      refine IH1 _ _ (z + 1) (agree_ups rfl agree_self) ⟨rfl, trivial⟩ ⟨rfl, ?_, ?_⟩ ?_
      · try dsimp only
        omega
      · try dsimp only
        intro w hw
        by_cases e : w = z
        · subst e; first | (rw [show (decide (x ≠ w) && pb p x w) = false from by assumption]; rfl) | (rw [show (decide (w ≠ y) && pb p w y) = false from by assumption, Bool.and_false])
        · exact ha w (by omega)
      · first | omega | (dsimp only; omega)
    · refine lx_move (vp) rfl rfl <| lx_move (.int .i64 ((z : Nat) : Int)) rfl rfl <| lx_move (.int .i64 ((y : Nat) : Int)) rfl rfl <| lx_call [vp, .int .i64 ((z : Nat) : Int), .int .i64 ((y : Nat) : Int)] rfl rfl Try.call106 rfl (below_spec h vp hs p z y hr_vp ht_vp (by omega) (by first | with_reducible assumption | omega) (by omega) (by omega)) (fun _ _ _ => trivial) ?_
      rintro _ h2 ⟨rfl, rfl⟩
      refine lx_pick true (.bool (decide (z ≠ y) && pb p z y)) rfl rfl rfl <| lx_nil <| wi_condS (t := decide (z ≠ y) && pb p z y) rfl (fun c3 => ?_) (fun c3 => ?_)
      · refine wi_seq <| wi_reg rfl <| lx_assign (.bool false) rfl rfl <| lx_nil <| ?_
        -- R1
        refine wi_ret ⟨.bool false, (res_one rfl rfl), ⟨?_, rfl⟩⟩
        · congr 1
          first
          | exact (rb_no (z := z) (by omega) (by assumption) (by assumption)).symm
          | exact (rb_yes (fun w hw => ha w (by omega))).symm
      · refine wi_skip <| wi_inBlock <| wi_reg rfl <| lx_add (((z + 1 : Nat) : Int)) rfl rfl rfl (by omega) (by omega) (by omega) <| lx_move (.int .i64 ((z + 1 : Nat) : Int)) rfl rfl <| lx_nil <| ?_
        -- L0.2
        refine IH1 _ _ (z + 1) (agree_ups rfl agree_self) ⟨rfl, trivial⟩ ⟨rfl, ?_, ?_⟩ ?_
        · try dsimp only
          omega
        · try dsimp only
          intro w hw
          by_cases e : w = z
          · subst e; first | (rw [show (decide (x ≠ w) && pb p x w) = false from by assumption]; rfl) | (rw [show (decide (w ≠ y) && pb p w y) = false from by assumption, Bool.and_false])
          · exact ha w (by omega)
        · first | omega | (dsimp only; omega)
  · refine lx_nil <| wi_seq <| wi_false rfl <| wi_exit rfl <| wi_seq <| wi_reg rfl <| lx_move (vp) rfl rfl <| lx_move (.int .i64 ((x : Nat) : Int)) rfl rfl <| lx_move (.int .i64 ((y : Nat) : Int)) rfl rfl <| lx_call [vp, .int .i64 ((x : Nat) : Int), .int .i64 ((y : Nat) : Int)] rfl rfl Try.call106 rfl (below_spec h vp hs p x y hr_vp ht_vp (by omega) (by first | with_reducible assumption | omega) (by omega) (by omega)) (fun _ _ _ => trivial) ?_
    rintro _ h3 ⟨rfl, rfl⟩
    refine lx_assign (.bool (decide (x ≠ y) && pb p x y)) rfl rfl <| lx_nil <| ?_
    -- R2
    refine wi_ret ⟨.bool (decide (x ≠ y) && pb p x y), (res_one rfl rfl), ⟨?_, rfl⟩⟩
    · congr 1
      first
      | exact (rb_no (z := z) (by omega) (by assumption) (by assumption)).symm
      | exact (rb_yes (fun w hw => ha w (by omega))).symm

set_option maxRecDepth 10000 in
theorem joinElements_spec (h : Heap) (vp : Value) (hs : List Hdr) (p : List (List Bool)) (hr_vp : RdE encHd h vp hs) (ht_vp : RT encB h hs p) (hp1 : p.length ≤ 12) (hp2 : Sq p p.length) : Fx Try.prog 93 [vp] h (fun v h' => ∃ (s : Value), v = s ∧ OwE encI h' h.size 3 s (jelF p.length (pb p)) ∧ Ext h.size h h') := by
  have hl_vp := ht_vp.1
  refine fx_intro (n := 32) [(0, vp)] Try.func93 rfl rfl (by simp) ⟨rfl, trivial⟩ fun g0 => ?_
  refine wi_seq <| wi_reg rfl <| lx_assign (.slice none 0 0) rfl rfl <| lx_nil <| wi_seq <| wi_reg rfl <| lx_assign (.slice none 0 0) rfl rfl <| lx_nil <| wi_seq <| wi_seq <| wi_reg rfl <| lx_move (vp) rfl rfl <| lx_len rfl Try.underlying29 hr_vp rfl <| lx_move (.int .i64 0) rfl rfl <| lx_nil <| wi_block <| ?_
  refine wi_loop (σ := Nat × Value × (List Int)) (rngB 9 31 [3, 4, 5, 6]) (fun (ss : Nat × Value × (List Int)) => [(9, .int .i64 ((ss.1 : Nat) : Int)), (3, ss.2.1)]) (fun (ss : Nat × Value × (List Int)) (hh : Heap) => OwE encI hh h.size 3 ss.2.1 ss.2.2 ∧ Ext h.size h hh ∧ (ss.1 ≤ p.length) ∧ (ss.2.2 = filtF ss.1 (jelB p.length (pb p)))) (fun (ss : Nat × Value × (List Int)) => p.length - ss.1) (0, .slice none 0 0, []) ⟨rfl, rfl, trivial⟩ ⟨?_, (Ext.refl _ _), ?_, ?_⟩ ?_
  · first | exact (owE_nil encI _ h.size 3) | (simpa using (owE_nil encI _ h.size 3))
  · try dsimp only
    omega
  · try dsimp only
    first | done | rfl
  rintro g1 ⟨x, v, xs⟩ hh1 ⟨ho1, hx0_1, hx, hxs⟩ IH1
  dsimp only at *
  have hxl : xs.length ≤ x := by rw [hxs]; exact filtF_length _ _
  refine wi_seq <| wi_reg rfl <| lx_lssS rfl rfl rfl (fun c1 => ?_) (fun c1 => ?_)
  · refine lx_nil <| wi_seq <| wi_true rfl <| wi_skip <| wi_seq <| wi_block <| wi_seq <| wi_reg rfl <| lx_move (.int .i64 ((x : Nat) : Int)) rfl rfl <| lx_assign (.int .i64 ((x : Nat) : Int)) rfl rfl <| lx_nil <| wi_seq <| wi_reg rfl <| lx_assign (.int .i64 0) rfl rfl <| lx_nil <| wi_seq <| wi_seq <| wi_reg rfl <| lx_move (vp) rfl rfl <| lx_len rfl Try.underlying29 hr_vp rfl <| lx_move (.int .i64 0) rfl rfl <| lx_nil <| wi_block <| ?_
    refine wi_loop (σ := Nat × Nat) (rngB 14 24 [5, 6]) (fun (ss : Nat × Nat) => [(14, .int .i64 ((ss.1 : Nat) : Int)), (5, .int .i64 ((ss.2 : Nat) : Int))]) (fun (ss : Nat × Nat) (hh : Heap) => hh1 = hh ∧ (ss.1 ≤ p.length) ∧ (ss.2 = rbN p.length (pb p) x ss.1)) (fun (ss : Nat × Nat) => p.length - ss.1) (0, 0) ⟨rfl, rfl, trivial⟩ ⟨rfl, ?_, ?_⟩ ?_
    · try dsimp only
      omega
    · try dsimp only
      first | done | rfl
    rintro g2 ⟨y, n⟩ hh2 ⟨rfl, hy, hn⟩ IH2
    dsimp only at *
    have hnl := rbN_le p.length (pb p) x y
    rw [← hn] at hnl
    refine wi_seq <| wi_reg rfl <| lx_lssS rfl rfl rfl (fun c2 => ?_) (fun c2 => ?_)
    · refine lx_nil <| wi_seq <| wi_true rfl <| wi_skip <| wi_seq <| wi_block <| wi_seq <| wi_reg rfl <| lx_move (.int .i64 ((y : Nat) : Int)) rfl rfl <| lx_assign (.int .i64 ((y : Nat) : Int)) rfl rfl <| lx_nil <| wi_seq <| wi_reg rfl <| lx_move (vp) rfl rfl <| lx_move (.int .i64 ((y : Nat) : Int)) rfl rfl <| lx_move (.int .i64 ((x : Nat) : Int)) rfl rfl <| lx_call [vp, .int .i64 ((y : Nat) : Int), .int .i64 ((x : Nat) : Int)] rfl rfl Try.call96 rfl (rightBelow_spec hh1 vp hs p y x (hr_vp.extS hx0_1) (ht_vp.extS hx0_1) (by omega) (by first | with_reducible assumption | omega) (by omega) (by omega)) (fun _ _ _ => trivial) ?_
      rintro _ h1 ⟨rfl, rfl⟩
      refine lx_nil <| wi_condS (t := rbF p.length (pb p) y x) rfl (fun c3 => ?_) (fun c3 => ?_)
      · refine wi_reg rfl <| lx_move (.int .i64 ((n : Nat) : Int)) rfl rfl <| lx_add (((n + 1 : Nat) : Int)) rfl rfl rfl (by omega) (by omega) (by omega) <| lx_assign (.int .i64 ((n + 1 : Nat) : Int)) rfl rfl <| lx_nil <| wi_inBlock <| wi_reg rfl <| lx_add (((y + 1 : Nat) : Int)) rfl rfl rfl (by omega) (by omega) (by omega) <| lx_move (.int .i64 ((y + 1 : Nat) : Int)) rfl rfl <| lx_nil <| ?_
        -- L2.1
        refine IH2 _ _ (y + 1, n + 1) (agree_ups rfl agree_self) ⟨rfl, rfl, trivial⟩ ⟨rfl, ?_, ?_⟩ ?_
        · try dsimp only
          omega
        · try dsimp only
          rw [rbN_succ, ← hn]
          first
          | rw [show rbF p.length (pb p) y x = true from by assumption, if_pos rfl]
          | (rw [show rbF p.length (pb p) y x = false from by assumption]; rfl)
        · first | omega | (dsimp only; omega)
      · refine wi_skip <| wi_inBlock <| wi_reg rfl <| lx_add (((y + 1 : Nat) : Int)) rfl rfl rfl (by omega) (by omega) (by omega) <| lx_move (.int .i64 ((y + 1 : Nat) : Int)) rfl rfl <| lx_nil <| ?_
        -- L2.2
        refine IH2 _ _ (y + 1, n) (agree_ups rfl agree_self) ⟨rfl, rfl, trivial⟩ ⟨rfl, ?_, ?_⟩ ?_
        · try dsimp only
          omega
        · try dsimp only
          rw [rbN_succ, ← hn]
          first
          | rw [show rbF p.length (pb p) y x = true from by assumption, if_pos rfl]
          | (rw [show rbF p.length (pb p) y x = false from by assumption]; rfl)
        · first | omega | (dsimp only; omega)
    · refine lx_nil <| wi_seq <| wi_false rfl <| wi_exit rfl <| wi_seq <| wi_reg rfl <| lx_move (.int .i64 ((n : Nat) : Int)) rfl rfl <| lx_eqlS rfl rfl rfl (fun c4 => ?_) (fun c4 => ?_)
      · refine lx_nil <| wi_true rfl <| wi_reg rfl <| lx_move (v) rfl rfl <| lx_move (.int .i64 ((x : Nat) : Int)) rfl rfl <| lx_appendL (E := encI) (B := h.size) [((x : Nat) : Int)] [.int .i64 ((x : Nat) : Int)] rfl rfl (fun _ => rfl) rfl eT25 rfl rfl rfl rfl ho1 (fun _ => rfl) (by show xs.length + 1 ≤ _; omega) (by show (xs.length + 1) * 8 ≤ _; omega) hx0_1.size (fun _ _ => trivial) fun u1 v1 h2 ho2 hc1 hg1 => ?_
        have hx0_2 := hx0_1.trans (ho1.ext hc1 hx0_1.size)
        refine lx_assign (v1) rfl rfl <| lx_nil <| wi_inBlock <| wi_reg rfl <| lx_add (((x + 1 : Nat) : Int)) rfl rfl rfl (by omega) (by omega) (by omega) <| lx_move (.int .i64 ((x + 1 : Nat) : Int)) rfl rfl <| lx_nil <| ?_
        -- L0.1
        refine IH1 _ _ (x + 1, v1, xs ++ [((x : Nat) : Int)]) (agree_ups rfl (agree_mix (rngB_sub (by decide) (by decide) rfl) (agree_ups rfl agree_self))) ⟨rfl, rfl, trivial⟩ ⟨?_, hx0_2, ?_, ?_⟩ ?_
        · first | exact ho2 | (simpa using ho2)
        · try dsimp only
          omega
        · try dsimp only
          rw [hxs]
          have hje : jelB p.length (pb p) x = decide (n = 1) := by unfold jelB; rw [hn, show y = p.length from by omega]
          first
          | exact filtF_yes (by rw [hje]; exact decide_eq_true (by omega))
          | exact filtF_no (by rw [hje]; exact decide_eq_false (by omega))
        · first | omega | (dsimp only; omega)
      · refine lx_nil <| wi_false rfl <| wi_skip <| wi_inBlock <| wi_reg rfl <| lx_add (((x + 1 : Nat) : Int)) rfl rfl rfl (by omega) (by omega) (by omega) <| lx_move (.int .i64 ((x + 1 : Nat) : Int)) rfl rfl <| lx_nil <| ?_
        -- L0.2
        refine IH1 _ _ (x + 1, v, xs) (agree_ups rfl (agree_mix (rngB_sub (by decide) (by decide) rfl) (agree_ups rfl agree_self))) ⟨rfl, rfl, trivial⟩ ⟨?_, hx0_1, ?_, ?_⟩ ?_
        · first | exact ho1 | (simpa using ho1)
        · try dsimp only
          omega
        · try dsimp only
          rw [hxs]
          have hje : jelB p.length (pb p) x = decide (n = 1) := by unfold jelB; rw [hn, show y = p.length from by omega]
          first
          | exact filtF_yes (by rw [hje]; exact decide_eq_true (by omega))
          | exact filtF_no (by rw [hje]; exact decide_eq_false (by omega))
        · first | omega | (dsimp only; omega)
  · refine lx_nil <| wi_seq <| wi_false rfl <| wi_exit rfl <| wi_seq <| wi_reg rfl <| lx_move (v) rfl rfl <| lx_assign (v) rfl rfl <| lx_nil <| ?_
    -- R1
    refine wi_ret ⟨v, (res_one rfl rfl), ⟨v, rfl, ?_, hx0_1⟩⟩
    · rw [show jelF p.length (pb p) = xs from by rw [hxs, show x = p.length from by omega]; rfl]; exact ho1

end Go.Proofs.Ytdokijbdnajhgaa
namespace Go.Proofs.Ytdokijbdnajhgaa
open Go Go.X

set_option maxRecDepth 10000 in
theorem bound_up_spec (h : Heap) (vp : Value) (hs : List Hdr) (p : List (List Bool)) (t : Nat) (hr_vp : RdE encHd h vp hs) (ht_vp : RT encB h hs p) (hp1 : p.length ≤ 12) (hp2 : Sq p p.length) (hp3 : t < 4096) : Fx Try.prog 95 [vp, .int .i64 ((t : Nat) : Int), .func (.func 80) #[vp] #[]] h (fun v h' => v = .int .i64 (firstF p.length (bndB (upF p.length (pb p)) t)) ∧ h = h') := by
  have hl_vp := ht_vp.1
  refine fx_intro (n := 29) [(0, vp), (1, .int .i64 ((t : Nat) : Int)), (2, .func (.func 80) #[vp] #[])] Try.func95 rfl rfl (by simp) ⟨rfl, rfl, rfl, trivial⟩ fun g0 => ?_
  refine wi_seq <| wi_reg rfl <| lx_assign (.int .i64 0) rfl rfl <| lx_nil <| wi_seq <| wi_seq <| wi_reg rfl <| lx_move (vp) rfl rfl <| lx_len rfl Try.underlying29 hr_vp rfl <| lx_move (.int .i64 0) rfl rfl <| lx_nil <| wi_block <| ?_
  refine wi_loop (σ := Nat) (rngB 10 29 [6, 7]) (fun (x : Nat) => [(10, .int .i64 ((x : Nat) : Int))]) (fun (x : Nat) (hh : Heap) => h = hh ∧ (x ≤ p.length) ∧ (∀ i, i < x → bndB (upF p.length (pb p)) t i = false)) (fun (x : Nat) => p.length - x) 0 ⟨rfl, trivial⟩ ⟨rfl, ?_, ?_⟩ ?_
  · try dsimp only
    omega
  · try dsimp only
    intro i hi; omega
  rintro g1 x hh1 ⟨rfl, hx, ha⟩ IH1
  refine wi_seq <| wi_reg rfl <| lx_lssS rfl rfl rfl (fun c1 => ?_) (fun c1 => ?_)
  · refine lx_nil <| wi_seq <| wi_true rfl <| wi_skip <| wi_seq <| wi_block <| wi_seq <| wi_reg rfl <| lx_move (.int .i64 ((x : Nat) : Int)) rfl rfl <| lx_assign (.int .i64 ((x : Nat) : Int)) rfl rfl <| lx_nil <| wi_seq <| wi_reg rfl <| ?_
    have hbl : t / 2 ^ x &&& 1 ≤ 1 := Nat.and_le_right
    have hdv := Nat.div_le_self t (2 ^ x)
    have hul := upF_lt p.length (pb p) x
    have hpw := pow12 hp1
    have hal := andNot_le t (upF p.length (pb p) x)
    refine lx_move (.int .i64 ((t : Nat) : Int)) rfl rfl <| lx_move (.int .i64 ((x : Nat) : Int)) rfl rfl <| lx_conv ((x : Nat) : Int) rfl Try.underlying3 Try.underlying45 rfl (wrap_u64 (by omega) (by omega)) <| lx_shr (m := t) (n := x) rfl rfl rfl (by show _ ≤ 64; omega) <| lx_and (m := t / 2 ^ x) (n := 1) rfl rfl rfl (by show _ < 2 ^ 64; omega) (by show _ < 2 ^ 64; omega) (wrap_i64 (by omega) (by omega)) <| lx_eqlS rfl rfl rfl (fun c2 => ?_) (fun c2 => ?_)
    · refine lx_move (.bool true) rfl rfl <| lx_move (.int .i64 ((t : Nat) : Int)) rfl rfl <| lx_move (.func (.func 80) #[vp] #[]) rfl rfl <| lx_move (.int .i64 ((x : Nat) : Int)) rfl rfl <| lx_callV [vp] [] [.int .i64 ((x : Nat) : Int)] rfl rfl Try.call80 rfl rfl (up_spec h vp hs p x hr_vp ht_vp (by omega) (by first | with_reducible assumption | omega) (by omega)) (fun _ _ _ => trivial) ?_
      rintro _ h1 ⟨rfl, rfl⟩
      refine lx_andNot (m := t) (n := upF p.length (pb p) x) rfl rfl rfl (by show _ < 2 ^ 64; omega) (by show _ < 2 ^ 64; omega) (wrap_i64 (by omega) (by omega)) <| lx_eqlS rfl rfl rfl (fun c3 => ?_) (fun c3 => ?_)
      · refine lx_pick true (.bool true) rfl rfl rfl <| lx_nil <| wi_true rfl <| wi_seq <| wi_reg rfl <| lx_move (.int .i64 ((x : Nat) : Int)) rfl rfl <| lx_assign (.int .i64 ((x : Nat) : Int)) rfl rfl <| lx_nil <| ?_
        -- R1
        refine wi_ret ⟨.int .i64 ((x : Nat) : Int), (res_one rfl rfl), ⟨?_, rfl⟩⟩
        · congr 1
          first
          | exact (firstF_none (fun i hi => ha i (by omega))).symm
          | exact (firstF_some (z := x) (by omega) (by unfold bndB; rw [bit_nz (by omega), ← incl_D, decide_eq_true (by omega)]; rfl) ha).symm
      · refine lx_pick true (.bool false) rfl rfl rfl <| lx_nil <| wi_false rfl <| wi_skip <| wi_inBlock <| wi_reg rfl <| lx_add (((x + 1 : Nat) : Int)) rfl rfl rfl (by omega) (by omega) (by omega) <| lx_move (.int .i64 ((x + 1 : Nat) : Int)) rfl rfl <| lx_nil <| ?_
        -- L0.1
        refine IH1 _ _ (x + 1) (agree_ups rfl agree_self) ⟨rfl, trivial⟩ ⟨rfl, ?_, ?_⟩ ?_
        · try dsimp only
          omega
        · try dsimp only
          intro i hi
          by_cases e : i = x
          · subst e; unfold bndB; first | (rw [show t.testBit i = false from bit_zero.1 (by omega)]; rfl) | (rw [← incl_D, decide_eq_false (by omega), Bool.and_false])
          · exact ha i (by omega)
        · first | omega | (dsimp only; omega)
    · refine lx_move (.bool false) rfl rfl <| lx_skip rfl <| lx_skip rfl <| lx_skip rfl <| lx_skip rfl <| lx_skip rfl <| lx_skip rfl <| lx_pick false (.bool false) rfl rfl rfl <| lx_nil <| wi_false rfl <| wi_skip <| wi_inBlock <| wi_reg rfl <| lx_add (((x + 1 : Nat) : Int)) rfl rfl rfl (by omega) (by omega) (by omega) <| lx_move (.int .i64 ((x + 1 : Nat) : Int)) rfl rfl <| lx_nil <| ?_
      -- L0.2
      refine IH1 _ _ (x + 1) (agree_ups rfl agree_self) ⟨rfl, trivial⟩ ⟨rfl, ?_, ?_⟩ ?_
      · try dsimp only
        omega
      · try dsimp only
        intro i hi
        by_cases e : i = x
        · subst e; unfold bndB; first | (rw [show t.testBit i = false from bit_zero.1 (by omega)]; rfl) | (rw [← incl_D, decide_eq_false (by omega), Bool.and_false])
        · exact ha i (by omega)
      · first | omega | (dsimp only; omega)
  · refine lx_nil <| wi_seq <| wi_false rfl <| wi_exit rfl <| wi_seq <| wi_reg rfl <| lx_assign (.int .i64 (-1)) rfl rfl <| lx_nil <| ?_
    -- R2
    refine wi_ret ⟨.int .i64 (-1), (res_one rfl rfl), ⟨?_, rfl⟩⟩
    · congr 1
      first
      | exact (firstF_none (fun i hi => ha i (by omega))).symm
      | exact (firstF_some (z := x) (by omega) (by unfold bndB; rw [bit_nz (by omega), ← incl_D, decide_eq_true (by omega)]; rfl) ha).symm

set_option maxRecDepth 10000 in
theorem bound_dn_spec (h : Heap) (vp : Value) (hs : List Hdr) (p : List (List Bool)) (t : Nat) (hr_vp : RdE encHd h vp hs) (ht_vp : RT encB h hs p) (hp1 : p.length ≤ 12) (hp2 : Sq p p.length) (hp3 : t < 4096) : Fx Try.prog 95 [vp, .int .i64 ((t : Nat) : Int), .func (.func 81) #[vp] #[]] h (fun v h' => v = .int .i64 (firstF p.length (bndB (dnF p.length (pb p)) t)) ∧ h = h') := by
  have hl_vp := ht_vp.1
  refine fx_intro (n := 29) [(0, vp), (1, .int .i64 ((t : Nat) : Int)), (2, .func (.func 81) #[vp] #[])] Try.func95 rfl rfl (by simp) ⟨rfl, rfl, rfl, trivial⟩ fun g0 => ?_
  refine wi_seq <| wi_reg rfl <| lx_assign (.int .i64 0) rfl rfl <| lx_nil <| wi_seq <| wi_seq <| wi_reg rfl <| lx_move (vp) rfl rfl <| lx_len rfl Try.underlying29 hr_vp rfl <| lx_move (.int .i64 0) rfl rfl <| lx_nil <| wi_block <| ?_
  refine wi_loop (σ := Nat) (rngB 10 29 [6, 7]) (fun (x : Nat) => [(10, .int .i64 ((x : Nat) : Int))]) (fun (x : Nat) (hh : Heap) => h = hh ∧ (x ≤ p.length) ∧ (∀ i, i < x → bndB (dnF p.length (pb p)) t i = false)) (fun (x : Nat) => p.length - x) 0 ⟨rfl, trivial⟩ ⟨rfl, ?_, ?_⟩ ?_
  · try dsimp only
    omega
  · try dsimp only
    intro i hi; omega
  rintro g1 x hh1 ⟨rfl, hx, ha⟩ IH1
  refine wi_seq <| wi_reg rfl <| lx_lssS rfl rfl rfl (fun c1 => ?_) (fun c1 => ?_)
  · refine lx_nil <| wi_seq <| wi_true rfl <| wi_skip <| wi_seq <| wi_block <| wi_seq <| wi_reg rfl <| lx_move (.int .i64 ((x : Nat) : Int)) rfl rfl <| lx_assign (.int .i64 ((x : Nat) : Int)) rfl rfl <| lx_nil <| wi_seq <| wi_reg rfl <| ?_
    have hbl : t / 2 ^ x &&& 1 ≤ 1 := Nat.and_le_right
    have hdv := Nat.div_le_self t (2 ^ x)
    have hul := dnF_lt p.length (pb p) x
    have hpw := pow12 hp1
    have hal := andNot_le t (dnF p.length (pb p) x)
    refine lx_move (.int .i64 ((t : Nat) : Int)) rfl rfl <| lx_move (.int .i64 ((x : Nat) : Int)) rfl rfl <| lx_conv ((x : Nat) : Int) rfl Try.underlying3 Try.underlying45 rfl (wrap_u64 (by omega) (by omega)) <| lx_shr (m := t) (n := x) rfl rfl rfl (by show _ ≤ 64; omega) <| lx_and (m := t / 2 ^ x) (n := 1) rfl rfl rfl (by show _ < 2 ^ 64; omega) (by show _ < 2 ^ 64; omega) (wrap_i64 (by omega) (by omega)) <| lx_eqlS rfl rfl rfl (fun c2 => ?_) (fun c2 => ?_)
    · refine lx_move (.bool true) rfl rfl <| lx_move (.int .i64 ((t : Nat) : Int)) rfl rfl <| lx_move (.func (.func 81) #[vp] #[]) rfl rfl <| lx_move (.int .i64 ((x : Nat) : Int)) rfl rfl <| lx_callV [vp] [] [.int .i64 ((x : Nat) : Int)] rfl rfl Try.call81 rfl rfl (down_spec h vp hs p x hr_vp ht_vp (by omega) (by first | with_reducible assumption | omega) (by omega)) (fun _ _ _ => trivial) ?_
      rintro _ h1 ⟨rfl, rfl⟩
      refine lx_andNot (m := t) (n := dnF p.length (pb p) x) rfl rfl rfl (by show _ < 2 ^ 64; omega) (by show _ < 2 ^ 64; omega) (wrap_i64 (by omega) (by omega)) <| lx_eqlS rfl rfl rfl (fun c3 => ?_) (fun c3 => ?_)
      · refine lx_pick true (.bool true) rfl rfl rfl <| lx_nil <| wi_true rfl <| wi_seq <| wi_reg rfl <| lx_move (.int .i64 ((x : Nat) : Int)) rfl rfl <| lx_assign (.int .i64 ((x : Nat) : Int)) rfl rfl <| lx_nil <| ?_
        -- R1
        refine wi_ret ⟨.int .i64 ((x : Nat) : Int), (res_one rfl rfl), ⟨?_, rfl⟩⟩
        · congr 1
          first
          | exact (firstF_none (fun i hi => ha i (by omega))).symm
          | exact (firstF_some (z := x) (by omega) (by unfold bndB; rw [bit_nz (by omega), ← incl_D, decide_eq_true (by omega)]; rfl) ha).symm
      · refine lx_pick true (.bool false) rfl rfl rfl <| lx_nil <| wi_false rfl <| wi_skip <| wi_inBlock <| wi_reg rfl <| lx_add (((x + 1 : Nat) : Int)) rfl rfl rfl (by omega) (by omega) (by omega) <| lx_move (.int .i64 ((x + 1 : Nat) : Int)) rfl rfl <| lx_nil <| ?_
        -- L0.1
        refine IH1 _ _ (x + 1) (agree_ups rfl agree_self) ⟨rfl, trivial⟩ ⟨rfl, ?_, ?_⟩ ?_
        · try dsimp only
          omega
        · try dsimp only
          intro i hi
          by_cases e : i = x
          · subst e; unfold bndB; first | (rw [show t.testBit i = false from bit_zero.1 (by omega)]; rfl) | (rw [← incl_D, decide_eq_false (by omega), Bool.and_false])
          · exact ha i (by omega)
        · first | omega | (dsimp only; omega)
    · refine lx_move (.bool false) rfl rfl <| lx_skip rfl <| lx_skip rfl <| lx_skip rfl <| lx_skip rfl <| lx_skip rfl <| lx_skip rfl <| lx_pick false (.bool false) rfl rfl rfl <| lx_nil <| wi_false rfl <| wi_skip <| wi_inBlock <| wi_reg rfl <| lx_add (((x + 1 : Nat) : Int)) rfl rfl rfl (by omega) (by omega) (by omega) <| lx_move (.int .i64 ((x + 1 : Nat) : Int)) rfl rfl <| lx_nil <| ?_
      -- L0.2
      refine IH1 _ _ (x + 1) (agree_ups rfl agree_self) ⟨rfl, trivial⟩ ⟨rfl, ?_, ?_⟩ ?_
      · try dsimp only
        omega
      · try dsimp only
        intro i hi
        by_cases e : i = x
        · subst e; unfold bndB; first | (rw [show t.testBit i = false from bit_zero.1 (by omega)]; rfl) | (rw [← incl_D, decide_eq_false (by omega), Bool.and_false])
        · exact ha i (by omega)
      · first | omega | (dsimp only; omega)
  · refine lx_nil <| wi_seq <| wi_false rfl <| wi_exit rfl <| wi_seq <| wi_reg rfl <| lx_assign (.int .i64 (-1)) rfl rfl <| lx_nil <| ?_
    -- R2
    refine wi_ret ⟨.int .i64 (-1), (res_one rfl rfl), ⟨?_, rfl⟩⟩
    · congr 1
      first
      | exact (firstF_none (fun i hi => ha i (by omega))).symm
      | exact (firstF_some (z := x) (by omega) (by unfold bndB; rw [bit_nz (by omega), ← incl_D, decide_eq_true (by omega)]; rfl) ha).symm

set_option maxRecDepth 10000 in
theorem tab_up_spec (h : Heap) (vp : Value) (hs : List Hdr) (p : List (List Bool)) (b1 : Nat) (hb_b1 : Blk h b1 (#[vp]) 29) (hr_vp : RdE encHd h vp hs) (ht_vp : RT encB h hs p) (hp1 : p.length ≤ 12) (hp2 : Sq p p.length) : Fx Try.prog 132 [.func (.func 80) #[vp] #[], .pointer (some ⟨b1, 0, none⟩)] h (fun v h' => ∃ (s : Value) (hm : List Hdr), v = s ∧ OwE encHd h' h.size 25 s hm ∧ OT encI h' h.size 3 hm (tabI p.length (joinF p.length (pb p))) ∧ Ext h.size h h') := by
  have hl_vp := ht_vp.1
  refine fx_intro (n := 38) [(0, .func (.func 80) #[vp] #[]), (1, .pointer (some ⟨b1, 0, none⟩))] Try.func132 rfl rfl (by simp) ⟨rfl, rfl, trivial⟩ fun g0 => ?_
  refine wi_seq <| wi_reg rfl <| lx_assign (.slice none 0 0) rfl rfl <| lx_nil <| wi_seq <| wi_reg rfl <| lx_assign (.slice none 0 0) rfl rfl <| lx_nil <| wi_seq <| wi_seq <| wi_reg rfl <| lx_ldB (vp) rfl rfl fl29 hb_b1 rfl rfl <| lx_len rfl Try.underlying29 hr_vp rfl <| lx_move (.int .i64 0) rfl rfl <| lx_nil <| wi_block <| ?_
  refine wi_loop (σ := Nat × Value × (List Hdr) × (List (List Int))) (rngB 10 37 [4, 5, 6, 7]) (fun (ss : Nat × Value × (List Hdr) × (List (List Int))) => [(10, .int .i64 ((ss.1 : Nat) : Int)), (4, ss.2.1)]) (fun (ss : Nat × Value × (List Hdr) × (List (List Int))) (hh : Heap) => OwE encHd hh h.size 25 ss.2.1 ss.2.2.1 ∧ OT encI hh h.size 3 ss.2.2.1 ss.2.2.2 ∧ Blk hh b1 #[vp] 29 ∧ Ext h.size h hh ∧ (ss.1 ≤ p.length) ∧ (ss.2.2.2 = (List.range ss.1).map fun q => mapR p.length (joinF p.length (pb p) q))) (fun (ss : Nat × Value × (List Hdr) × (List (List Int))) => p.length - ss.1) (0, .slice none 0 0, [], []) ⟨rfl, rfl, trivial⟩ ⟨?_, ?_, ?_, (Ext.refl _ _), ?_, ?_⟩ ?_
  · first | exact (owE_nil encHd _ h.size 25) | (simpa using (owE_nil encHd _ h.size 25))
  · first | exact (OT.nil encI _ h.size 3) | (simpa using (OT.nil encI _ h.size 3))
  · exact hb_b1
  · try dsimp only
    omega
  · try dsimp only
    first | done | rfl
  rintro g1 ⟨x, v, hm, rows⟩ hh1 ⟨ho1, hot1, hbk1, hx0_1, hx, hrw⟩ IH1
  dsimp only at *
  have hrl : rows.length = x := by rw [hrw]; simp
  have hl_hot1 := hot1.1
  refine wi_seq <| wi_reg rfl <| lx_lssS rfl rfl rfl (fun c1 => ?_) (fun c1 => ?_)
  · refine lx_nil <| wi_seq <| wi_true rfl <| wi_skip <| wi_seq <| wi_block <| wi_seq <| wi_reg rfl <| lx_move (.int .i64 ((x : Nat) : Int)) rfl rfl <| lx_assign (.int .i64 ((x : Nat) : Int)) rfl rfl <| lx_nil <| wi_seq <| wi_reg rfl <| lx_assign (.slice none 0 0) rfl rfl <| lx_nil <| wi_seq <| wi_seq <| wi_reg rfl <| lx_ldB (vp) rfl rfl fl29 hbk1 rfl rfl <| lx_len rfl Try.underlying29 hr_vp rfl <| lx_move (.int .i64 0) rfl rfl <| lx_nil <| wi_block <| ?_
    refine wi_loop (σ := Nat × Value × (List Int)) (rngB 15 32 [6, 7]) (fun (ss : Nat × Value × (List Int)) => [(15, .int .i64 ((ss.1 : Nat) : Int)), (6, ss.2.1)]) (fun (ss : Nat × Value × (List Int)) (hh : Heap) => OwE encHd hh h.size 25 v hm ∧ OT encI hh h.size 3 hm rows ∧ OwE encI hh h.size 3 ss.2.1 ss.2.2 ∧ Djt hm ss.2.1 ∧ Blk hh b1 #[vp] 29 ∧ Ext h.size h hh ∧ (ss.1 ≤ p.length) ∧ (ss.2.2 = mapR ss.1 (joinF p.length (pb p) x))) (fun (ss : Nat × Value × (List Int)) => p.length - ss.1) (0, .slice none 0 0, []) ⟨rfl, rfl, trivial⟩ ⟨?_, ?_, ?_, (djt_nil _), ?_, hx0_1, ?_, ?_⟩ ?_
    · first | exact ho1 | (simpa using ho1)
    · first | exact hot1 | (simpa using hot1)
    · first | exact (owE_nil encI _ h.size 3) | (simpa using (owE_nil encI _ h.size 3))
    · exact hbk1
    · try dsimp only
      omega
    · try dsimp only
      first | done | rfl
    rintro g2 ⟨y, w, l⟩ hh2 ⟨ho2, hot2, ho3, hdt1, hbk2, hx0_2, hy, hl⟩ IH2
    dsimp only at *
    have hll : l.length = y := by rw [hl]; exact mapR_len _ _
    have hl_hot2 := hot2.1
    refine wi_seq <| wi_reg rfl <| lx_lssS rfl rfl rfl (fun c2 => ?_) (fun c2 => ?_)
    · refine lx_nil <| wi_seq <| wi_true rfl <| wi_skip <| wi_seq <| wi_block <| wi_seq <| wi_reg rfl <| lx_move (.int .i64 ((y : Nat) : Int)) rfl rfl <| lx_assign (.int .i64 ((y : Nat) : Int)) rfl rfl <| lx_nil <| wi_drawS (fun h9 => Blk h9 b1 #[vp] 29) (fun o => match o.dst with | some 19 => .free | _ => kindOf o) mo rfl (by decide +kernel) hbk2 <| ?_
      have hux := upF_lt p.length (pb p) x
      have huy := upF_lt p.length (pb p) y
      have hpw := pow12 hp1
      have hal : upF p.length (pb p) x &&& upF p.length (pb p) y ≤ upF p.length (pb p) x := Nat.and_le_left
      refine lx_move (w) rfl rfl <| lx_ldBF (vp) rfl fl29 (fun _ hs => hs) rfl rfl <| lx_move (.func (.func 80) #[vp] #[]) rfl rfl <| lx_move (.int .i64 ((x : Nat) : Int)) rfl rfl <| lx_callV [vp] [] [.int .i64 ((x : Nat) : Int)] rfl rfl Try.call80 rfl rfl (up_spec hh2 vp hs p x (hr_vp.extS hx0_2) (ht_vp.extS hx0_2) (by omega) (by first | with_reducible assumption | omega) (by omega)) (by rintro _ _ ⟨_, rfl⟩; exact hbk2) ?_
      rintro _ h1 ⟨rfl, rfl⟩
      refine lx_move (.func (.func 80) #[vp] #[]) rfl rfl <| lx_move (.int .i64 ((y : Nat) : Int)) rfl rfl <| lx_callV [vp] [] [.int .i64 ((y : Nat) : Int)] rfl rfl Try.call80 rfl rfl (up_spec hh2 vp hs p y (hr_vp.extS hx0_2) (ht_vp.extS hx0_2) (by omega) (by first | with_reducible assumption | omega) (by omega)) (by rintro _ _ ⟨_, rfl⟩; exact hbk2) ?_
      rintro _ h2 ⟨rfl, rfl⟩
      refine lx_and (m := upF p.length (pb p) x) (n := upF p.length (pb p) y) rfl rfl rfl (by show _ < 2 ^ 64; omega) (by show _ < 2 ^ 64; omega) (wrap_i64 (by omega) (by omega)) <| lx_move (.func (.func 80) #[vp] #[]) rfl rfl <| lx_call [vp, .int .i64 (((upF p.length (pb p) x) &&& (upF p.length (pb p) y) : Nat) : Int), .func (.func 80) #[vp] #[]] rfl rfl Try.call95 rfl (bound_up_spec hh2 vp hs p ((upF p.length (pb p) x) &&& (upF p.length (pb p) y)) (hr_vp.extS hx0_2) (ht_vp.extS hx0_2) (by omega) (by first | with_reducible assumption | omega) (by omega)) (by rintro _ _ ⟨_, rfl⟩; exact hbk2) ?_
      rintro _ h3 ⟨rfl, rfl⟩
      refine lx_appendL (E := encI) (B := h.size) [firstF p.length (bndB (upF p.length (pb p)) ((upF p.length (pb p) x) &&& (upF p.length (pb p) y)))] [.int .i64 (firstF p.length (bndB (upF p.length (pb p)) ((upF p.length (pb p) x) &&& (upF p.length (pb p) y))))] rfl rfl (fun _ => rfl) rfl eT25 rfl rfl rfl rfl ho3 (fun _ => rfl) (by show l.length + 1 ≤ _; omega) (by show (l.length + 1) * 8 ≤ _; omega) hx0_2.size (fun _ hc => Blk.chg hbk2 hc (nb_ty ho3 hbk2 (by decide))) fun u1 v1 h4 ho4 hc1 hg1 => ?_
      have hx0_3 := hx0_2.trans (ho3.ext hc1 hx0_2.size)
      have ho5 := ho2.chg hc1 (dj_ty ho2 ho3 (by decide))
      have hot3 := hot2.chg hc1 hdt1
      have hb1 := hbk2.chg hc1 (nb_ty ho3 hbk2 (by decide))
      refine lx_assign (v1) rfl rfl <| lx_nil <| wi_inBlock <| wi_reg rfl <| lx_add (((y + 1 : Nat) : Int)) rfl rfl rfl (by omega) (by omega) (by omega) <| lx_move (.int .i64 ((y + 1 : Nat) : Int)) rfl rfl <| lx_nil <| ?_
      -- L2.1
      refine IH2 _ _ (y + 1, v1, l ++ [firstF p.length (bndB (upF p.length (pb p)) ((upF p.length (pb p) x) &&& (upF p.length (pb p) y)))]) (agree_ups rfl agree_self) ⟨rfl, rfl, trivial⟩ ⟨?_, ?_, ?_, (djt_app hdt1 hot2 hg1), ?_, hx0_3, ?_, ?_⟩ ?_
      · first | exact ho5 | (simpa using ho5)
      · first | exact hot3 | (simpa using hot3)
      · first | exact ho4 | (simpa using ho4)
      · exact hb1
      · try dsimp only
        omega
      · try dsimp only
        rw [hl, bnd_join]; exact mapR_snoc _ _
      · first | omega | (dsimp only; omega)
    · have hot4 : OT encI hh2 h.size 3 (hm ++ [hdrOf w]) (rows ++ [l]) := OT.snoc hot2 ho3 hdt1
      refine lx_nil <| wi_seq <| wi_false rfl <| wi_exit rfl <| wi_reg rfl <| lx_move (v) rfl rfl <| lx_move (w) rfl rfl <| lx_appendL (E := encHd) (B := h.size) [hdrOf w] [w] rfl rfl (fun _ => rfl) rfl eT49 rfl rfl (hdr_cells1 ho3.rd) rfl ho2 (fun _ => rfl) (by show hm.length + 1 ≤ _; omega) (by show (hm.length + 1) * 24 ≤ _; omega) hx0_2.size (fun _ _ => trivial) fun u2 v2 h5 ho6 hc2 hg2 => ?_
      have hx0_4 := hx0_2.trans (ho2.ext hc2 hx0_2.size)
      have hb2 := hbk2.chg hc2 (nb_ty ho2 hbk2 (by decide))
      have hot5 : OT encI h5 h.size 3 (hm ++ [hdrOf w]) (rows ++ [l]) := hot4.chg hc2 (djt_ty hot4 ho2 (by decide))
      have hl_hot5 := hot5.1
      refine lx_assign (v2) rfl rfl <| lx_nil <| wi_inBlock <| wi_reg rfl <| lx_add (((x + 1 : Nat) : Int)) rfl rfl rfl (by omega) (by omega) (by omega) <| lx_move (.int .i64 ((x + 1 : Nat) : Int)) rfl rfl <| lx_nil <| ?_
      -- L0.1
      refine IH1 _ _ (x + 1, v2, hm ++ [hdrOf w], rows ++ [l]) (agree_ups rfl (agree_mix (rngB_sub (by decide) (by decide) rfl) (agree_ups rfl agree_self))) ⟨rfl, rfl, trivial⟩ ⟨?_, ?_, ?_, hx0_4, ?_, ?_⟩ ?_
      · first | exact ho6 | (simpa using ho6)
      · first | exact hot5 | (simpa using hot5)
      · exact hb2
      · try dsimp only
        omega
      · try dsimp only
        rw [hl, show y = p.length from by omega]; exact tabI_snoc hrw
      · first | omega | (dsimp only; omega)
  · refine lx_nil <| wi_seq <| wi_false rfl <| wi_exit rfl <| wi_seq <| wi_reg rfl <| lx_move (v) rfl rfl <| lx_assign (v) rfl rfl <| lx_nil <| ?_
    -- R1
    refine wi_ret ⟨v, (res_one rfl rfl), ⟨v, hm, rfl, ?_, ?_, hx0_1⟩⟩
    · exact ho1
    · rw [show tabI p.length (joinF p.length (pb p)) = rows from by rw [hrw, show x = p.length from by omega]; rfl]; exact hot1

set_option maxRecDepth 10000 in
theorem tab_dn_spec (h : Heap) (vp : Value) (hs : List Hdr) (p : List (List Bool)) (b1 : Nat) (hb_b1 : Blk h b1 (#[vp]) 29) (hr_vp : RdE encHd h vp hs) (ht_vp : RT encB h hs p) (hp1 : p.length ≤ 12) (hp2 : Sq p p.length) : Fx Try.prog 132 [.func (.func 81) #[vp] #[], .pointer (some ⟨b1, 0, none⟩)] h (fun v h' => ∃ (s : Value) (hm : List Hdr), v = s ∧ OwE encHd h' h.size 25 s hm ∧ OT encI h' h.size 3 hm (tabI p.length (meetF p.length (pb p))) ∧ Ext h.size h h') := by
  have hl_vp := ht_vp.1
  refine fx_intro (n := 38) [(0, .func (.func 81) #[vp] #[]), (1, .pointer (some ⟨b1, 0, none⟩))] Try.func132 rfl rfl (by simp) ⟨rfl, rfl, trivial⟩ fun g0 => ?_
  refine wi_seq <| wi_reg rfl <| lx_assign (.slice none 0 0) rfl rfl <| lx_nil <| wi_seq <| wi_reg rfl <| lx_assign (.slice none 0 0) rfl rfl <| lx_nil <| wi_seq <| wi_seq <| wi_reg rfl <| lx_ldB (vp) rfl rfl fl29 hb_b1 rfl rfl <| lx_len rfl Try.underlying29 hr_vp rfl <| lx_move (.int .i64 0) rfl rfl <| lx_nil <| wi_block <| ?_
  refine wi_loop (σ := Nat × Value × (List Hdr) × (List (List Int))) (rngB 10 37 [4, 5, 6, 7]) (fun (ss : Nat × Value × (List Hdr) × (List (List Int))) => [(10, .int .i64 ((ss.1 : Nat) : Int)), (4, ss.2.1)]) (fun (ss : Nat × Value × (List Hdr) × (List (List Int))) (hh : Heap) => OwE encHd hh h.size 25 ss.2.1 ss.2.2.1 ∧ OT encI hh h.size 3 ss.2.2.1 ss.2.2.2 ∧ Blk hh b1 #[vp] 29 ∧ Ext h.size h hh ∧ (ss.1 ≤ p.length) ∧ (ss.2.2.2 = (List.range ss.1).map fun q => mapR p.length (meetF p.length (pb p) q))) (fun (ss : Nat × Value × (List Hdr) × (List (List Int))) => p.length - ss.1) (0, .slice none 0 0, [], []) ⟨rfl, rfl, trivial⟩ ⟨?_, ?_, ?_, (Ext.refl _ _), ?_, ?_⟩ ?_
  · first | exact (owE_nil encHd _ h.size 25) | (simpa using (owE_nil encHd _ h.size 25))
  · first | exact (OT.nil encI _ h.size 3) | (simpa using (OT.nil encI _ h.size 3))
  · exact hb_b1
  · try dsimp only
    omega
  · try dsimp only
    first | done | rfl
  rintro g1 ⟨x, v, hm, rows⟩ hh1 ⟨ho1, hot1, hbk1, hx0_1, hx, hrw⟩ IH1
  dsimp only at *
  have hrl : rows.length = x := by rw [hrw]; simp
  have hl_hot1 := hot1.1
  refine wi_seq <| wi_reg rfl <| lx_lssS rfl rfl rfl (fun c1 => ?_) (fun c1 => ?_)
  · refine lx_nil <| wi_seq <| wi_true rfl <| wi_skip <| wi_seq <| wi_block <| wi_seq <| wi_reg rfl <| lx_move (.int .i64 ((x : Nat) : Int)) rfl rfl <| lx_assign (.int .i64 ((x : Nat) : Int)) rfl rfl <| lx_nil <| wi_seq <| wi_reg rfl <| lx_assign (.slice none 0 0) rfl rfl <| lx_nil <| wi_seq <| wi_seq <| wi_reg rfl <| lx_ldB (vp) rfl rfl fl29 hbk1 rfl rfl <| lx_len rfl Try.underlying29 hr_vp rfl <| lx_move (.int .i64 0) rfl rfl <| lx_nil <| wi_block <| ?_
    refine wi_loop (σ := Nat × Value × (List Int)) (rngB 15 32 [6, 7]) (fun (ss : Nat × Value × (List Int)) => [(15, .int .i64 ((ss.1 : Nat) : Int)), (6, ss.2.1)]) (fun (ss : Nat × Value × (List Int)) (hh : Heap) => OwE encHd hh h.size 25 v hm ∧ OT encI hh h.size 3 hm rows ∧ OwE encI hh h.size 3 ss.2.1 ss.2.2 ∧ Djt hm ss.2.1 ∧ Blk hh b1 #[vp] 29 ∧ Ext h.size h hh ∧ (ss.1 ≤ p.length) ∧ (ss.2.2 = mapR ss.1 (meetF p.length (pb p) x))) (fun (ss : Nat × Value × (List Int)) => p.length - ss.1) (0, .slice none 0 0, []) ⟨rfl, rfl, trivial⟩ ⟨?_, ?_, ?_, (djt_nil _), ?_, hx0_1, ?_, ?_⟩ ?_
    · first | exact ho1 | (simpa using ho1)
    · first | exact hot1 | (simpa using hot1)
    · first | exact (owE_nil encI _ h.size 3) | (simpa using (owE_nil encI _ h.size 3))
    · exact hbk1
    · try dsimp only
      omega
    · try dsimp only
      first | done | rfl
    rintro g2 ⟨y, w, l⟩ hh2 ⟨ho2, hot2, ho3, hdt1, hbk2, hx0_2, hy, hl⟩ IH2
    dsimp only at *
    have hll : l.length = y := by rw [hl]; exact mapR_len _ _
    have hl_hot2 := hot2.1
    refine wi_seq <| wi_reg rfl <| lx_lssS rfl rfl rfl (fun c2 => ?_) (fun c2 => ?_)
    · refine lx_nil <| wi_seq <| wi_true rfl <| wi_skip <| wi_seq <| wi_block <| wi_seq <| wi_reg rfl <| lx_move (.int .i64 ((y : Nat) : Int)) rfl rfl <| lx_assign (.int .i64 ((y : Nat) : Int)) rfl rfl <| lx_nil <| wi_drawS (fun h9 => Blk h9 b1 #[vp] 29) (fun o => match o.dst with | some 19 => .free | _ => kindOf o) mo rfl (by decide +kernel) hbk2 <| ?_
      have hux := dnF_lt p.length (pb p) x
      have huy := dnF_lt p.length (pb p) y
      have hpw := pow12 hp1
      have hal : dnF p.length (pb p) x &&& dnF p.length (pb p) y ≤ dnF p.length (pb p) x := Nat.and_le_left
      refine lx_move (w) rfl rfl <| lx_ldBF (vp) rfl fl29 (fun _ hs => hs) rfl rfl <| lx_move (.func (.func 81) #[vp] #[]) rfl rfl <| lx_move (.int .i64 ((x : Nat) : Int)) rfl rfl <| lx_callV [vp] [] [.int .i64 ((x : Nat) : Int)] rfl rfl Try.call81 rfl rfl (down_spec hh2 vp hs p x (hr_vp.extS hx0_2) (ht_vp.extS hx0_2) (by omega) (by first | with_reducible assumption | omega) (by omega)) (by rintro _ _ ⟨_, rfl⟩; exact hbk2) ?_
      rintro _ h1 ⟨rfl, rfl⟩
      refine lx_move (.func (.func 81) #[vp] #[]) rfl rfl <| lx_move (.int .i64 ((y : Nat) : Int)) rfl rfl <| lx_callV [vp] [] [.int .i64 ((y : Nat) : Int)] rfl rfl Try.call81 rfl rfl (down_spec hh2 vp hs p y (hr_vp.extS hx0_2) (ht_vp.extS hx0_2) (by omega) (by first | with_reducible assumption | omega) (by omega)) (by rintro _ _ ⟨_, rfl⟩; exact hbk2) ?_
      rintro _ h2 ⟨rfl, rfl⟩
      refine lx_and (m := dnF p.length (pb p) x) (n := dnF p.length (pb p) y) rfl rfl rfl (by show _ < 2 ^ 64; omega) (by show _ < 2 ^ 64; omega) (wrap_i64 (by omega) (by omega)) <| lx_move (.func (.func 81) #[vp] #[]) rfl rfl <| lx_call [vp, .int .i64 (((dnF p.length (pb p) x) &&& (dnF p.length (pb p) y) : Nat) : Int), .func (.func 81) #[vp] #[]] rfl rfl Try.call95 rfl (bound_dn_spec hh2 vp hs p ((dnF p.length (pb p) x) &&& (dnF p.length (pb p) y)) (hr_vp.extS hx0_2) (ht_vp.extS hx0_2) (by omega) (by first | with_reducible assumption | omega) (by omega)) (by rintro _ _ ⟨_, rfl⟩; exact hbk2) ?_
      rintro _ h3 ⟨rfl, rfl⟩
      refine lx_appendL (E := encI) (B := h.size) [firstF p.length (bndB (dnF p.length (pb p)) ((dnF p.length (pb p) x) &&& (dnF p.length (pb p) y)))] [.int .i64 (firstF p.length (bndB (dnF p.length (pb p)) ((dnF p.length (pb p) x) &&& (dnF p.length (pb p) y))))] rfl rfl (fun _ => rfl) rfl eT25 rfl rfl rfl rfl ho3 (fun _ => rfl) (by show l.length + 1 ≤ _; omega) (by show (l.length + 1) * 8 ≤ _; omega) hx0_2.size (fun _ hc => Blk.chg hbk2 hc (nb_ty ho3 hbk2 (by decide))) fun u1 v1 h4 ho4 hc1 hg1 => ?_
      have hx0_3 := hx0_2.trans (ho3.ext hc1 hx0_2.size)
      have ho5 := ho2.chg hc1 (dj_ty ho2 ho3 (by decide))
      have hot3 := hot2.chg hc1 hdt1
      have hb1 := hbk2.chg hc1 (nb_ty ho3 hbk2 (by decide))
      refine lx_assign (v1) rfl rfl <| lx_nil <| wi_inBlock <| wi_reg rfl <| lx_add (((y + 1 : Nat) : Int)) rfl rfl rfl (by omega) (by omega) (by omega) <| lx_move (.int .i64 ((y + 1 : Nat) : Int)) rfl rfl <| lx_nil <| ?_
      -- L2.1
      refine IH2 _ _ (y + 1, v1, l ++ [firstF p.length (bndB (dnF p.length (pb p)) ((dnF p.length (pb p) x) &&& (dnF p.length (pb p) y)))]) (agree_ups rfl agree_self) ⟨rfl, rfl, trivial⟩ ⟨?_, ?_, ?_, (djt_app hdt1 hot2 hg1), ?_, hx0_3, ?_, ?_⟩ ?_
      · first | exact ho5 | (simpa using ho5)
      · first | exact hot3 | (simpa using hot3)
      · first | exact ho4 | (simpa using ho4)
      · exact hb1
      · try dsimp only
        omega
      · try dsimp only
        rw [hl, bnd_meet]; exact mapR_snoc _ _
      · first | omega | (dsimp only; omega)
    · have hot4 : OT encI hh2 h.size 3 (hm ++ [hdrOf w]) (rows ++ [l]) := OT.snoc hot2 ho3 hdt1
      refine lx_nil <| wi_seq <| wi_false rfl <| wi_exit rfl <| wi_reg rfl <| lx_move (v) rfl rfl <| lx_move (w) rfl rfl <| lx_appendL (E := encHd) (B := h.size) [hdrOf w] [w] rfl rfl (fun _ => rfl) rfl eT49 rfl rfl (hdr_cells1 ho3.rd) rfl ho2 (fun _ => rfl) (by show hm.length + 1 ≤ _; omega) (by show (hm.length + 1) * 24 ≤ _; omega) hx0_2.size (fun _ _ => trivial) fun u2 v2 h5 ho6 hc2 hg2 => ?_
      have hx0_4 := hx0_2.trans (ho2.ext hc2 hx0_2.size)
      have hb2 := hbk2.chg hc2 (nb_ty ho2 hbk2 (by decide))
      have hot5 : OT encI h5 h.size 3 (hm ++ [hdrOf w]) (rows ++ [l]) := hot4.chg hc2 (djt_ty hot4 ho2 (by decide))
      have hl_hot5 := hot5.1
      refine lx_assign (v2) rfl rfl <| lx_nil <| wi_inBlock <| wi_reg rfl <| lx_add (((x + 1 : Nat) : Int)) rfl rfl rfl (by omega) (by omega) (by omega) <| lx_move (.int .i64 ((x + 1 : Nat) : Int)) rfl rfl <| lx_nil <| ?_
      -- L0.1
      refine IH1 _ _ (x + 1, v2, hm ++ [hdrOf w], rows ++ [l]) (agree_ups rfl (agree_mix (rngB_sub (by decide) (by decide) rfl) (agree_ups rfl agree_self))) ⟨rfl, rfl, trivial⟩ ⟨?_, ?_, ?_, hx0_4, ?_, ?_⟩ ?_
      · first | exact ho6 | (simpa using ho6)
      · first | exact hot5 | (simpa using hot5)
      · exact hb2
      · try dsimp only
        omega
      · try dsimp only
        rw [hl, show y = p.length from by omega]; exact tabI_snoc hrw
      · first | omega | (dsimp only; omega)
  · refine lx_nil <| wi_seq <| wi_false rfl <| wi_exit rfl <| wi_seq <| wi_reg rfl <| lx_move (v) rfl rfl <| lx_assign (v) rfl rfl <| lx_nil <| ?_
    -- R1
    refine wi_ret ⟨v, (res_one rfl rfl), ⟨v, hm, rfl, ?_, ?_, hx0_1⟩⟩
    · exact ho1
    · rw [show tabI p.length (meetF p.length (pb p)) = rows from by rw [hrw, show x = p.length from by omega]; rfl]; exact hot1

end Go.Proofs.Ytdokijbdnajhgaa
namespace Go.Proofs.Ytdokijbdnajhgaa
open Go Go.X

set_option maxRecDepth 10000 in
theorem tables_spec (h : Heap) (vp : Value) (hs : List Hdr) (p : List (List Bool)) (hr_vp : RdE encHd h vp hs) (ht_vp : RT encB h hs p) (hp1 : p.length ≤ 12) (hp2 : Sq p p.length) : Fx Try.prog 89 [vp] h (fun v h' => ∃ (s1 : Value) (s2 : Value) (h1 : List Hdr) (h2 : List Hdr), v = .agg #[s1, s2] ∧ OwE encHd h' h.size 25 s1 h1 ∧ OT encI h' h.size 3 h1 (tabI p.length (joinF p.length (pb p))) ∧ OwE encHd h' h.size 25 s2 h2 ∧ OT encI h' h.size 3 h2 (tabI p.length (meetF p.length (pb p))) ∧ Ext h.size h h') := by
  have hl_vp := ht_vp.1
  refine fx_intro (n := 14) [(0, vp)] Try.func89 rfl rfl (by simp) ⟨rfl, trivial⟩ fun g0 => ?_
  refine wi_seq <| wi_reg rfl <| lx_box #[vp] rfl rfl (sl_cells hr_vp) (fun _ _ _ => trivial) fun bn1 h1 hbn1 hbk1 hx1 hsz1 => ?_
  have hbb1 : h.size ≤ bn1 := by have := (Nat.le_refl h.size); omega
  refine lx_alloc rfl rfl Try.zeroValue119 (fun _ _ _ => trivial) fun bn2 h2 hbn2 hbk2 hx2 hsz2 => ?_
  have hbb2 : h.size ≤ bn2 := by have := hx1.size; omega
  have hne1 : bn2 ≠ bn1 := by have := hbk1.lt; omega
  have hx0_1 := hx1.trans2 hx2 hx1.size
  have hb1 := hbk1.extS hx2
  have hbk2 : Blk h2 bn2 #[.slice none 0 0, .slice none 0 0] 119 := hbk2
  refine lx_nil <| wi_seq <| wi_reg rfl <| lx_makeFunc [] [.pointer (some ⟨bn1, 0, none⟩)] rfl rfl rfl <| lx_assign (.func (.func 132) #[] #[.pointer (some ⟨bn1, 0, none⟩)]) rfl rfl <| lx_nil <| wi_seq <| wi_drawS (fun h9 => Blk h9 bn1 #[vp] 29) (fun o => match o.dst with | some 6 | some 10 => .free | _ => kindOf o) mo rfl (by decide +kernel) hb1 <| lx_move (.func (.func 132) #[] #[.pointer (some ⟨bn1, 0, none⟩)]) rfl rfl <| lx_ldBF (vp) rfl fl29 (fun _ hs => hs) rfl rfl <| lx_makeFunc [vp] [] rfl rfl rfl <| lx_callV [] [.pointer (some ⟨bn1, 0, none⟩)] [.func (.func 80) #[vp] #[]] rfl rfl Try.call132 rfl rfl (tab_up_spec h2 vp hs p bn1 hb1 (hr_vp.extS hx0_1) (ht_vp.extS hx0_1) (by omega) hp2) (by rintro _ _ ⟨_, _, _, _, _, e⟩; exact Blk.extS hb1 e) ?_
  rintro vj h3 ⟨_, hj, rfl, ho1, hot1, hx3⟩
  have hx0_2 := hx0_1.trans2 hx3 hx0_1.size
  have hb2 := hb1.extS hx3
  have hb3 := hbk2.extS hx3
  have ho2 := ho1.base hx0_1.size
  have hot2 := hot1.base hx0_1.size
  have hl_hot2 := hot2.1
  refine lx_move (.func (.func 132) #[] #[.pointer (some ⟨bn1, 0, none⟩)]) rfl rfl <| lx_ldBF (vp) rfl fl29 (fun _ hs => hs) rfl rfl <| lx_makeFunc [vp] [] rfl rfl rfl <| lx_callV [] [.pointer (some ⟨bn1, 0, none⟩)] [.func (.func 81) #[vp] #[]] rfl rfl Try.call132 rfl rfl (tab_dn_spec h3 vp hs p bn1 hb2 (hr_vp.extS hx0_2) (ht_vp.extS hx0_2) (by omega) hp2) (by rintro _ _ ⟨_, _, _, _, _, e⟩; exact Blk.extS hb2 e) ?_
  rintro vm h4 ⟨_, hm, rfl, ho3, hot3, hx4⟩
  have hx0_3 := hx0_2.trans2 hx4 hx0_2.size
  have ho4 := ho2.extS hx4
  have hot4 := hot2.extS hx4
  have hb4 := hb2.extS hx4
  have hb5 := hb3.extS hx4
  have ho5 := ho3.base hx0_2.size
  have hot5 := hot3.base hx0_2.size
  have hl_hot5 := hot5.1
  refine lx_build (.agg #[vj, vm]) [(0, vj), (1, vm)] rfl rfl (fun w => bldL st119 Try.zeroValue119 (sl_cells ho4.rd) (sl_cells ho5.rd) w) <| lx_stBA (#[vj, vm]) rfl rfl Try.sizeOf119 hb5 rfl rfl rfl rfl (one2 (sl_one ho4.rd) (sl_one ho5.rd)) (fun hs _ _ hc => ChgB.blk hc hs (by omega)) fun h5 hbk3 hc1 => ?_
  have hx0_4 := hx0_3.trans (hc1.ext hbb2)
  have ho6 := hc1.owE ho4 (nb_new hbk2 ho1)
  have hot6 := hot4.chgB hc1 (nbt_ty hot4 hb5 (by decide))
  have ho7 := hc1.owE ho5 (nb_new hb3 ho3)
  have hot7 := hot5.chgB hc1 (nbt_ty hot5 hb5 (by decide))
  have hb6 := hc1.blk hb4 (Ne.symm hne1)
  refine lx_nil <| ?_
  -- R1
  refine wi_ret ⟨.agg #[vj, vm], (res_cell rfl rfl hbk3 wd119 rfl), ⟨vj, vm, hj, hm, rfl, ho6, hot6, ho7, hot7, hx0_4⟩⟩

set_option maxRecDepth 10000 in
theorem gap_spec (h : Heap) (n : Nat) (f : Nat → Nat → Bool) (vj : Value) (hj : List Hdr) (rj : List (List Int)) (vm : Value) (hm : List Hdr) (rm : List (List Int)) (hr_vj : RdE encHd h vj hj) (ht_vj : RT encI h hj rj) (hr_vm : RdE encHd h vm hm) (ht_vm : RT encI h hm rm) (hp1 : n ≤ 12) (hp2 : rj = tabI n (joinF n f)) (hp3 : rm = tabI n (meetF n f)) : Fx Try.prog 90 [.agg #[vj, vm]] h (fun v h' => ∃ (x : Nat) (y : Nat) (b : Bool), v = .tuple #[.int .i64 ((x : Nat) : Int), .int .i64 ((y : Nat) : Int), .bool b] ∧ (gapR n f x y b) ∧ Ext h.size h h') := by
  have hl_vj := ht_vj.1
  have hl_vm := ht_vm.1
  refine fx_intro (n := 45) [(0, .agg #[vj, vm])] Try.func90 rfl rfl (by simp) ⟨rfl, trivial⟩ fun g0 => ?_
  refine wi_seq <| wi_reg rfl <| lx_box #[vj, vm] rfl rfl rfl (fun _ _ _ => trivial) fun bn1 h1 hbn1 hbk1 hx1 hsz1 => ?_
  have hbb1 : h.size ≤ bn1 := by have := (Nat.le_refl h.size); omega
  refine lx_assign (.int .i64 0) rfl rfl <| lx_assign (.int .i64 0) rfl rfl <| lx_assign (.bool false) rfl rfl <| lx_nil <| wi_seq <| wi_seq <| wi_reg rfl <| ?_
  have hjl : rj.length = n := by rw [hp2]; exact tabI_len _ _
  have hml : rm.length = n := by rw [hp3]; exact tabI_len _ _
  refine lx_fieldL (i := 0) rfl st119 (.inl rfl) rfl <| lx_ldB (vj) rfl rfl fl49 hbk1 rfl rfl <| lx_len rfl Try.underlying49 hr_vj rfl <| lx_move (.int .i64 0) rfl rfl <| lx_nil <| wi_block <| ?_
  refine wi_loop (σ := Nat) (rngB 10 45 [2, 3, 4, 5, 6]) (fun (x : Nat) => [(10, .int .i64 ((x : Nat) : Int))]) (fun (x : Nat) (hh : Heap) => h1 = hh ∧ (x ≤ n) ∧ (∀ i j, i < j → j < n → i < x → gapB n f i j = false)) (fun (x : Nat) => n - x) 0 ⟨rfl, trivial⟩ ⟨rfl, ?_, ?_⟩ ?_
  · try dsimp only
    omega
  · try dsimp only
    intro i j h1 h2 h3; omega
  rintro g1 x hh1 ⟨rfl, hx, ha⟩ IH1
  refine wi_seq <| wi_reg rfl <| lx_lssS rfl rfl rfl (fun c1 => ?_) (fun c1 => ?_)
  · refine lx_nil <| wi_seq <| wi_true rfl <| wi_skip <| wi_seq <| wi_block <| wi_seq <| wi_reg rfl <| lx_move (.int .i64 ((x : Nat) : Int)) rfl rfl <| lx_assign (.int .i64 ((x : Nat) : Int)) rfl rfl <| lx_nil <| wi_seq <| wi_reg rfl <| lx_move (.int .i64 ((x : Nat) : Int)) rfl rfl <| lx_add (((x + 1 : Nat) : Int)) rfl rfl rfl (by omega) (by omega) (by omega) <| lx_assign (.int .i64 ((x + 1 : Nat) : Int)) rfl rfl <| lx_nil <| wi_block <| ?_
    refine wi_loop (σ := Nat) (rngB 15 44 [2, 3, 4, 6]) (fun (y : Nat) => [(6, .int .i64 ((y : Nat) : Int))]) (fun (y : Nat) (hh : Heap) => h1 = hh ∧ (x < y ∧ y ≤ n) ∧ (∀ j, x < j → j < y → gapB n f x j = false)) (fun (y : Nat) => n - y) (x + 1) ⟨rfl, trivial⟩ ⟨rfl, ?_, ?_⟩ ?_
    · try dsimp only
      omega
    · try dsimp only
      intro j h1 h2; omega
    rintro g2 y hh2 ⟨rfl, hy, hb⟩ IH2
    refine wi_seq <| wi_seq <| wi_reg rfl <| lx_move (.int .i64 ((y : Nat) : Int)) rfl rfl <| lx_fieldL (i := 0) rfl st119 (.inl rfl) rfl <| lx_ldB (vj) rfl rfl fl49 hbk1 rfl rfl <| lx_len rfl Try.underlying49 hr_vj rfl <| lx_lssS rfl rfl rfl (fun c2 => ?_) (fun c2 => ?_)
    · refine lx_nil <| wi_true rfl <| wi_skip <| wi_seq <| wi_block <| wi_seq <| wi_reg rfl <| ?_
      have hjr : gt rj x = mapR n (joinF n f x) := by rw [hp2, gt_tabI (by omega)]
      have hmr : gt rm x = mapR n (meetF n f x) := by rw [hp3, gt_tabI (by omega)]
      have hjl2 : (gt rj x).length = n := by rw [hjr]; exact mapR_len _ _
      have hml2 : (gt rm x).length = n := by rw [hmr]; exact mapR_len _ _
      have hje : gt (gt rj x) y = joinF n f x y := by rw [hjr, gt_mapR (by omega)]
      have hme : gt (gt rm x) y = meetF n f x y := by rw [hmr, gt_mapR (by omega)]
      refine lx_fieldL (i := 0) rfl st119 (.inl rfl) rfl <| lx_ldB (vj) rfl rfl fl49 hbk1 rfl rfl <| lx_move (.int .i64 ((x : Nat) : Int)) rfl rfl <| lx_ix (i := x) rfl eT49 hr_vj rfl rfl (by omega) <| lx_ld (i := x) (j := 0) ((gt hj x).v) rfl rfl fl25 (hr_vj.extS hx1) (by omega) rfl rfl <| lx_move (.int .i64 ((y : Nat) : Int)) rfl rfl <| lx_ix (i := y) rfl eT25 (ht_vj.2 x (by omega)) rfl rfl (by omega) <| lx_ld (i := y) (j := 0) (.int .i64 (gt (gt rj x) y)) rfl rfl fl3 ((ht_vj.extS hx1).2 x (by omega)) (by omega) rfl rfl <| lx_lssS rfl rfl rfl (fun c3 => ?_) (fun c3 => ?_)
      · refine lx_move (.bool true) rfl rfl <| lx_skip rfl <| lx_skip rfl <| lx_skip rfl <| lx_skip rfl <| lx_skip rfl <| lx_skip rfl <| lx_skip rfl <| lx_skip rfl <| lx_skip rfl <| lx_pick true (.bool true) rfl rfl rfl <| lx_nil <| wi_true rfl <| wi_seq <| wi_reg rfl <| lx_move (.int .i64 ((x : Nat) : Int)) rfl rfl <| lx_move (.int .i64 ((y : Nat) : Int)) rfl rfl <| lx_assign (.int .i64 ((x : Nat) : Int)) rfl rfl <| lx_assign (.int .i64 ((y : Nat) : Int)) rfl rfl <| lx_assign (.bool true) rfl rfl <| lx_nil <| ?_
        -- R1
        refine wi_ret ⟨.tuple #[.int .i64 ((x : Nat) : Int), .int .i64 ((y : Nat) : Int), .bool true], (res_three rfl rfl rfl rfl), ⟨x, y, true, rfl, ?_, hx1⟩⟩
        · refine .inl ⟨rfl, by omega, by omega, ?_, fun i j h1 h2 h3 => ?_⟩
          · unfold gapB; rw [Bool.or_eq_true, decide_eq_true_iff, decide_eq_true_iff]; omega
          · rcases h3 with h3 | ⟨rfl, h3⟩
            · exact ha i j h1 h2 h3
            · exact hb j h1 h3
      · refine lx_move (.bool false) rfl rfl <| lx_fieldL (i := 1) rfl st119 (.inr rfl) rfl <| lx_ldB (vm) rfl rfl fl49 hbk1 rfl rfl <| lx_move (.int .i64 ((x : Nat) : Int)) rfl rfl <| lx_ix (i := x) rfl eT49 hr_vm rfl rfl (by omega) <| lx_ld (i := x) (j := 0) ((gt hm x).v) rfl rfl fl25 (hr_vm.extS hx1) (by omega) rfl rfl <| lx_move (.int .i64 ((y : Nat) : Int)) rfl rfl <| lx_ix (i := y) rfl eT25 (ht_vm.2 x (by omega)) rfl rfl (by omega) <| lx_ld (i := y) (j := 0) (.int .i64 (gt (gt rm x) y)) rfl rfl fl3 ((ht_vm.extS hx1).2 x (by omega)) (by omega) rfl rfl <| lx_lssS rfl rfl rfl (fun c4 => ?_) (fun c4 => ?_)
        · refine lx_pick false (.bool true) rfl rfl rfl <| lx_nil <| wi_true rfl <| wi_seq <| wi_reg rfl <| lx_move (.int .i64 ((x : Nat) : Int)) rfl rfl <| lx_move (.int .i64 ((y : Nat) : Int)) rfl rfl <| lx_assign (.int .i64 ((x : Nat) : Int)) rfl rfl <| lx_assign (.int .i64 ((y : Nat) : Int)) rfl rfl <| lx_assign (.bool true) rfl rfl <| lx_nil <| ?_
          -- R2
          refine wi_ret ⟨.tuple #[.int .i64 ((x : Nat) : Int), .int .i64 ((y : Nat) : Int), .bool true], (res_three rfl rfl rfl rfl), ⟨x, y, true, rfl, ?_, hx1⟩⟩
          · refine .inl ⟨rfl, by omega, by omega, ?_, fun i j h1 h2 h3 => ?_⟩
            · unfold gapB; rw [Bool.or_eq_true, decide_eq_true_iff, decide_eq_true_iff]; omega
            · rcases h3 with h3 | ⟨rfl, h3⟩
              · exact ha i j h1 h2 h3
              · exact hb j h1 h3
        · refine lx_pick false (.bool false) rfl rfl rfl <| lx_nil <| wi_false rfl <| wi_skip <| wi_inBlock <| wi_reg rfl <| lx_move (.int .i64 ((y : Nat) : Int)) rfl rfl <| lx_add (((y + 1 : Nat) : Int)) rfl rfl rfl (by omega) (by omega) (by omega) <| lx_assign (.int .i64 ((y + 1 : Nat) : Int)) rfl rfl <| lx_nil <| ?_
          -- L2.1
          refine IH2 _ _ (y + 1) (agree_ups rfl agree_self) ⟨rfl, trivial⟩ ⟨rfl, ?_, ?_⟩ ?_
          · try dsimp only
            omega
          · try dsimp only
            intro j h1 h2
            by_cases e : j = y
            · subst e; unfold gapB; rw [decide_eq_false (by omega), decide_eq_false (by omega)]; rfl
            · exact hb j h1 (by omega)
          · first | omega | (dsimp only; omega)
    · refine lx_nil <| wi_false rfl <| wi_exit rfl <| wi_inBlock <| wi_reg rfl <| lx_add (((x + 1 : Nat) : Int)) rfl rfl rfl (by omega) (by omega) (by omega) <| lx_move (.int .i64 ((x + 1 : Nat) : Int)) rfl rfl <| lx_nil <| ?_
      -- L0.1
      refine IH1 _ _ (x + 1) (agree_ups rfl (agree_mix (rngB_sub (by decide) (by decide) rfl) (agree_ups rfl agree_self))) ⟨rfl, trivial⟩ ⟨rfl, ?_, ?_⟩ ?_
      · try dsimp only
        omega
      · try dsimp only
        intro i j h1 h2 h3
        by_cases e : i = x
        · subst e; exact hb j h1 (by omega)
        · exact ha i j h1 h2 (by omega)
      · first | omega | (dsimp only; omega)
  · refine lx_nil <| wi_seq <| wi_false rfl <| wi_exit rfl <| wi_seq <| wi_reg rfl <| lx_assign (.int .i64 0) rfl rfl <| lx_assign (.int .i64 0) rfl rfl <| lx_assign (.bool false) rfl rfl <| lx_nil <| ?_
    -- R3
    refine wi_ret ⟨.tuple #[.int .i64 0, .int .i64 0, .bool false], (res_three rfl rfl rfl rfl), ⟨0, 0, false, ?_, ?_, hx1⟩⟩
    · first | rfl | (simp; done) | (simp; omega)
    · exact .inr ⟨rfl, rfl, rfl, fun i j h1 h2 => ha i j h1 h2 (by omega)⟩

end Go.Proofs.Ytdokijbdnajhgaa
namespace Go.X
section
variable {P : Program} {fn : Func} {e : Env} {h : Heap}
theorem res_cell2 {t ty m u : Nat} (hr : fn.results = #[.cell t ty, .tmp u]) {bn te : Nat} {cs : Array Value} {v2 : Value} (hp : e t = .pointer (some ⟨bn, 0, none⟩)) (hb : Blk h bn cs te) (hW : Wide P ty m) (hl : cs.size = m) (h2 : e u = v2) : ResOb P fn e h (.tuple #[.agg cs, v2]) := by
  intro a w ha hh
  subst hh
  have h3 := run_load_wide (P := P) hW (w := w) (a := ⟨bn, 0, none⟩) (us := cs.toList) (by simpa using hl) (fun j u hju => by
      rw [add_lit, hb.cell]; simpa using hju)
  have hp' : a.tmps[t]?.getD undef = .pointer (some ⟨bn, 0, none⟩) := by
    have := ha t
    rw [hp] at this
    simpa using this
  have hu : a.tmps[u]?.getD undef = v2 := by
    have := ha u
    rw [h2] at this
    simpa using this
  simp [results, hr, hp', hu, asAddr, h3]
theorem res_cell3 {t ty m u x : Nat} (hr : fn.results = #[.cell t ty, .tmp u, .tmp x]) {bn te : Nat} {cs : Array Value} {v2 v3 : Value} (hp : e t = .pointer (some ⟨bn, 0, none⟩)) (hb : Blk h bn cs te) (hW : Wide P ty m) (hl : cs.size = m) (h2 : e u = v2) (h3 : e x = v3) : ResOb P fn e h (.tuple #[.agg cs, v2, v3]) := by
  intro a w ha hh
  subst hh
  have h4 := run_load_wide (P := P) hW (w := w) (a := ⟨bn, 0, none⟩) (us := cs.toList) (by simpa using hl) (fun j u hju => by
      rw [add_lit, hb.cell]; simpa using hju)
  have hp' : a.tmps[t]?.getD undef = .pointer (some ⟨bn, 0, none⟩) := by
    have := ha t
    rw [hp] at this
    simpa using this
  have hu : a.tmps[u]?.getD undef = v2 := by
    have := ha u
    rw [h2] at this
    simpa using this
  have hx : a.tmps[x]?.getD undef = v3 := by
    have := ha x
    rw [h3] at this
    simpa using this
  simp [results, hr, hp', hu, hx, asAddr, h4]
end
end Go.X
namespace Go.X
structure Lat (α : Type) where
  le : α → α → Prop
  j : α → α → α
  m : α → α → α
  refl : ∀ x, le x x
  anti : ∀ {x y}, le x y → le y x → x = y
  trans : ∀ {x y z}, le x y → le y z → le x z
  j1 : ∀ x y, le x (j x y)
  j2 : ∀ x y, le y (j x y)
  jl : ∀ {x y z}, le x z → le y z → le (j x y) z
  m1 : ∀ x y, le (m x y) x
  m2 : ∀ x y, le (m x y) y
  ml : ∀ {x y z}, le z x → le z y → le z (m x y)
namespace Lat
variable {α : Type} (L : Lat α)
def dual : Lat α := ⟨fun x y => L.le y x, L.m, L.j, L.refl, fun h k => L.anti k h, fun h k => L.trans k h, L.m1, L.m2, fun h k => L.ml h k, L.j1, L.j2, fun h k => L.jl h k⟩
theorem jc (x y : α) : L.j x y = L.j y x := L.anti (L.jl (L.j2 _ _) (L.j1 _ _)) (L.jl (L.j2 _ _) (L.j1 _ _))
theorem mc (x y : α) : L.m x y = L.m y x := L.anti (L.ml (L.m2 _ _) (L.m1 _ _)) (L.ml (L.m2 _ _) (L.m1 _ _))
theorem j_le {x y : α} (h : L.le x y) : L.j x y = y := L.anti (L.jl h (L.refl _)) (L.j2 _ _)
theorem m_le {x y : α} (h : L.le x y) : L.m x y = x := L.anti (L.m1 _ _) (L.ml (L.refl _) h)
theorem le_j {x y : α} (h : L.j x y = y) : L.le x y := h ▸ L.j1 _ _
theorem le_m {x y : α} (h : L.m x y = x) : L.le x y := by
  have := L.m2 x y
  rwa [h] at this
def Bad (o a b c i : α) : Prop := (o ≠ a ∧ o ≠ b ∧ o ≠ c ∧ o ≠ i ∧ a ≠ b ∧ a ≠ c ∧ a ≠ i ∧ b ≠ c ∧ b ≠ i ∧ c ≠ i) ∧ L.m a c = o ∧ L.j a c = i ∧ L.m b c = o ∧ L.j b c = i ∧ (L.le a b ∨ (L.m a b = o ∧ L.j a b = i))
def Dist : Prop := ∀ x y z, L.m x (L.j y z) = L.j (L.m x y) (L.m x z)
def Mod : Prop := ∀ x y z, L.le x z → L.le (L.m (L.j x y) z) (L.j x (L.m y z))
theorem bad_not {o a b c i : α} (hb : L.Bad o a b c i) : ¬ L.Dist := by
  obtain ⟨⟨h1, h2, h3, h4, h5, h6, h7, h8, h9, h10⟩, hac, jac, hbc, jbc, h | ⟨hab, jab⟩⟩ := hb
  · intro hd
    -- b = b ⊓ (a ⊔ c) = (b ⊓ a) ⊔ (b ⊓ c) = a ⊔ o = a
    have e1 : L.m b (L.j a c) = b := by rw [jac, ← jbc]; exact L.m_le (L.j1 _ _)
    have e2 := hd b a c
    rw [e1, hbc, L.mc b a, L.m_le h, ← hac, L.jc, L.j_le (L.m1 _ _)] at e2
    exact h5 e2.symm
  · intro hd
    have e1 : L.m a (L.j b c) = a := by rw [jbc, ← jab]; exact L.m_le (L.j1 _ _)
    have e2 := hd a b c
    rw [e1, hab, hac, L.j_le (L.refl _)] at e2
    exact h1 e2.symm
/-- Five of the shape of a pentagon. -/
theorem pent {a b c : α} (hab : L.le a b) (hne : a ≠ b) (hm : L.m a c = L.m b c) (hj : L.j a c = L.j b c) : L.Bad (L.m a c) a b c (L.j a c) := by
  have key : ∀ {u : α}, L.le a u → L.le u b → L.le u c ∨ L.le c u → False := by
    intro u h1 h2 h3
    rcases h3 with h3 | h3
    · -- a ≤ c: then j a c = c, b ≤ c, m b c = b, m a c = a
      have ac := L.trans h1 h3
      have : L.j b c = c := by rw [← hj]; exact L.j_le ac
      have bc := L.le_j this
      rw [L.m_le ac, L.m_le bc] at hm
      exact hne hm
    · have cb := L.trans h3 h2
      have e : L.m a c = c := by rw [hm, L.mc]; exact L.m_le cb
      have ca : L.le c a := by rw [← e]; exact L.m1 _ _
      rw [L.jc a c, L.jc b c, L.j_le ca, L.j_le cb] at hj
      exact hne hj
  have ra := L.refl a
  have rb := L.refl b
  refine ⟨⟨?_, ?_, ?_, ?_, hne, ?_, ?_, ?_, ?_, ?_⟩, rfl, rfl, hm.symm, hj.symm, .inl hab⟩
  · intro e; exact key ra hab (.inl (e ▸ L.m2 a c))
  · intro e; exact key hab rb (.inl (by rw [hm] at e; exact e ▸ L.m2 b c))
  · intro e; exact key ra hab (.inr (e ▸ L.m1 a c))
  · intro e; exact key ra hab (.inl (L.trans (L.j1 a c) (e ▸ L.m2 a c)))
  · intro e; exact key ra hab (.inl (e ▸ L.refl a))
  · intro e; exact key ra hab (.inr (by have := L.j2 a c; rwa [← e] at this))
  · intro e; exact key hab rb (.inl (e ▸ L.refl b))
  · intro e; exact key hab rb (.inr (by have := L.j2 b c; rwa [← hj, ← e] at this))
  · intro e; exact key ra hab (.inl (by have := L.j1 a c; rwa [← e] at this))
/-- Five of the shape of a diamond. -/
theorem diam {o a b c i : α} (hne : o ≠ i) (mab : L.m a b = o) (mac : L.m a c = o) (mbc : L.m b c = o) (jab : L.j a b = i) (jac : L.j a c = i) (jbc : L.j b c = i) : L.Bad o a b c i := by
  have same : ∀ {x y : α}, L.m x y = o → L.j x y = i → x ≠ y := fun hm hj e => by
    subst e
    rw [L.m_le (L.refl _)] at hm; rw [L.j_le (L.refl _)] at hj
    exact hne (hm.symm.trans hj)
  have low : ∀ {x y z : α}, L.j x y = i → L.j x z = i → L.m x y = o → L.m y z = o → o ≠ x := fun {x y z} h1 h2 h3 h4 e => by
    subst e
    have e1 := L.j_le (L.le_m h3)
    have hxz : L.le o z := h4 ▸ L.m2 _ _
    have e2 := L.j_le hxz
    rw [h1] at e1; rw [h2] at e2
    subst e1; subst e2
    rw [L.m_le (L.refl _)] at h4
    exact hne h4.symm
  have high : ∀ {x y z : α}, L.m x y = o → L.m x z = o → L.j x y = i → L.j y z = i → x ≠ i := fun {x y z} h1 h2 h3 h4 e => by
    have hy : L.le y x := by
      have := L.j2 x y
      rwa [h3, ← e] at this
    have hz : L.le z x := by
      have := L.j2 y z
      rwa [h4, ← e] at this
    rw [L.mc, L.m_le hy] at h1
    rw [L.mc, L.m_le hz] at h2
    rw [h1, h2, L.j_le (L.refl _)] at h4
    exact hne h4
  exact ⟨⟨low jab jac mab mbc, low (by rw [L.jc]; exact jab) jbc (by rw [L.mc]; exact mab) mac, low (by rw [L.jc]; exact jac) (by rw [L.jc]; exact jbc) (by rw [L.mc]; exact mac) mab, hne, same mab jab, same mac jac, high mab mac jab jbc, same mbc jbc, high (by rw [L.mc]; exact mab) mbc (by rw [L.jc]; exact jab) jac, high (by rw [L.mc]; exact mac) (by rw [L.mc]; exact mbc) (by rw [L.jc]; exact jac) jab⟩, mac, jac, mbc, jbc, .inr ⟨mab, jab⟩⟩
theorem mod_of (hn : ∀ a b c, ¬ L.Bad (L.m a c) a b c (L.j a c)) : L.Mod := by
  intro x y z hxz
  refine Classical.byContradiction fun hne => ?_
  have hab : L.le (L.j x (L.m y z)) (L.m (L.j x y) z) := L.jl (L.ml (L.j1 _ _) hxz) (L.ml (L.trans (L.m1 _ _) (L.j2 _ _)) (L.m2 _ _))
  refine hn (L.j x (L.m y z)) (L.m (L.j x y) z) y (L.pent hab (fun e => hne (e ▸ L.refl _)) ?_ ?_)
  · refine L.anti (L.ml (L.trans (L.m1 _ _) hab) (L.m2 _ _)) (L.ml (L.trans (L.ml (L.m2 _ _) (L.trans (L.m1 _ _) (L.m2 _ _))) (L.j2 _ _)) (L.m2 _ _))
  · refine L.anti (L.jl (L.trans hab (L.j1 _ _)) (L.j2 _ _)) (L.jl (L.trans (L.m1 _ _) (L.jl (L.trans (L.j1 _ _) (L.j1 _ _)) (L.j2 _ _))) (L.j2 _ _))
theorem mod_dual (h : L.Mod) : L.dual.Mod := fun x y z hxz => by
  have := h z y x hxz
  show L.le (L.m x (L.j y z)) (L.j (L.m x y) z)
  rw [L.mc x, L.jc y, L.jc _ z, L.mc x y]
  exact this
theorem mod_eq (h : L.Mod) {x z : α} (y : α) (hxz : L.le x z) : L.m (L.j x y) z = L.j x (L.m y z) :=
  L.anti (h x y z hxz) (L.jl (L.ml (L.j1 _ _) hxz) (L.ml (L.trans (L.m1 _ _) (L.j2 _ _)) (L.m2 _ _)))
def lo (x y z : α) : α := L.j (L.m x y) (L.j (L.m y z) (L.m z x))
def hi (x y z : α) : α := L.m (L.j x y) (L.m (L.j y z) (L.j z x))
def mid (x p q : α) : α := L.j (L.m x q) p
theorem lo_rot (x y z : α) : L.lo y z x = L.lo x y z := by
  unfold lo
  refine L.anti (L.jl ?_ (L.jl ?_ ?_)) (L.jl ?_ (L.jl ?_ ?_))
  · exact L.trans (L.j1 _ _) (L.j2 _ _)
  · exact L.trans (L.j2 _ _) (L.j2 _ _)
  · exact L.j1 _ _
  · exact L.trans (L.j2 _ _) (L.j2 _ _)
  · exact L.j1 _ _
  · exact L.trans (L.j1 _ _) (L.j2 _ _)
theorem hi_rot (x y z : α) : L.hi y z x = L.hi x y z := L.dual.lo_rot x y z
theorem lo_hi (x y z : α) : L.le (L.lo x y z) (L.hi x y z) := by
  unfold lo hi
  refine L.jl (L.ml ?_ (L.ml ?_ ?_)) (L.jl (L.ml ?_ (L.ml ?_ ?_)) (L.ml ?_ (L.ml ?_ ?_)))
  · exact L.trans (L.m1 _ _) (L.j1 _ _)
  · exact L.trans (L.m2 _ _) (L.j1 _ _)
  · exact L.trans (L.m1 _ _) (L.j2 _ _)
  · exact L.trans (L.m1 _ _) (L.j2 _ _)
  · exact L.trans (L.m1 _ _) (L.j1 _ _)
  · exact L.trans (L.m2 _ _) (L.j1 _ _)
  · exact L.trans (L.m2 _ _) (L.j1 _ _)
  · exact L.trans (L.m1 _ _) (L.j2 _ _)
  · exact L.trans (L.m1 _ _) (L.j1 _ _)
theorem mid_join (h : L.Mod) (x y z : α) : L.j (L.mid x (L.lo x y z) (L.hi x y z)) (L.mid y (L.lo x y z) (L.hi x y z)) = L.hi x y z := by
  have hp := L.lo_hi x y z
  refine L.anti (L.jl (L.jl (L.m2 _ _) hp) (L.jl (L.m2 _ _) hp)) ?_
  -- (x ⊓ u) ⊔ (y ⊓ v) = (x ⊔ y) ⊓ u ⊓ v
  have e1 : L.m (L.j y x) (L.j y z) = L.j y (L.m x (L.j y z)) := L.mod_eq h x (L.j1 y z)
  have e2 : L.m (L.j (L.m x (L.j y z)) y) (L.j z x) = L.j (L.m x (L.j y z)) (L.m y (L.j z x)) := L.mod_eq h y (L.trans (L.m1 _ _) (L.j2 _ _))
  have h1 : L.le (L.hi x y z) (L.m (L.j (L.m x (L.j y z)) y) (L.j z x)) := by
    rw [L.jc _ y, ← e1, L.jc y x]
    exact L.ml (L.ml (L.m1 _ _) (L.trans (L.m2 _ _) (L.m1 _ _))) (L.trans (L.m2 _ _) (L.m2 _ _))
  rw [e2] at h1
  refine L.trans h1 (L.jl (L.trans ?_ (L.trans (L.j1 _ _) (L.j1 _ _))) (L.trans ?_ (L.trans (L.j1 _ _) (L.j2 _ _))))
  · exact L.ml (L.m1 _ _) (L.ml (L.trans (L.m1 _ _) (L.j1 _ _)) (L.ml (L.m2 _ _) (L.trans (L.m1 _ _) (L.j2 _ _))))
  · exact L.ml (L.m1 _ _) (L.ml (L.trans (L.m1 _ _) (L.j2 _ _)) (L.ml (L.trans (L.m1 _ _) (L.j1 _ _)) (L.m2 _ _)))
theorem mid_alt (h : L.Mod) (x : α) {p q : α} (hpq : L.le p q) : L.mid x p q = L.m (L.j x p) q := by
  unfold mid
  rw [L.jc x p, L.mod_eq h x hpq, L.jc]
theorem mid_meet (h : L.Mod) (x y z : α) : L.m (L.mid x (L.lo x y z) (L.hi x y z)) (L.mid y (L.lo x y z) (L.hi x y z)) = L.lo x y z := by
  rw [L.mid_alt h x (L.lo_hi x y z), L.mid_alt h y (L.lo_hi x y z)]
  exact L.dual.mid_join (L.mod_dual h) x y z
theorem dist_of (hn : ∀ a b c, ¬ L.Bad (L.m a c) a b c (L.j a c)) : L.Dist := by
  have hm := L.mod_of hn
  intro x y z
  have le1 : L.le (L.j (L.m x y) (L.m x z)) (L.m x (L.j y z)) := L.jl (L.ml (L.m1 _ _) (L.trans (L.m2 _ _) (L.j1 _ _))) (L.ml (L.m1 _ _) (L.trans (L.m2 _ _) (L.j2 _ _)))
  refine L.anti (Classical.byContradiction fun hne => ?_) le1
  have hpq : L.lo x y z ≠ L.hi x y z := by
    intro e
    apply hne
    -- x ⊓ (y ⊔ z) ≤ x ⊓ hi = x ⊓ lo = (x⊓y) ⊔ (x⊓z)
    have h1 : L.le (L.m x (L.j y z)) (L.m (L.lo x y z) x) := by
      refine L.ml ?_ (L.m1 _ _)
      rw [e]
      exact L.ml (L.trans (L.m1 _ _) (L.j1 _ _)) (L.ml (L.m2 _ _) (L.trans (L.m1 _ _) (L.j2 _ _)))
    refine L.trans h1 ?_
    have h2 : L.lo x y z = L.j (L.j (L.m x y) (L.m x z)) (L.m y z) := by
      unfold lo
      rw [L.mc z x]
      refine L.anti (L.jl ?_ (L.jl ?_ ?_)) (L.jl (L.jl ?_ ?_) ?_)
      · exact L.trans (L.j1 _ _) (L.j1 _ _)
      · exact L.j2 _ _
      · exact L.trans (L.j2 _ _) (L.j1 _ _)
      · exact L.j1 _ _
      · exact L.trans (L.j2 _ _) (L.j2 _ _)
      · exact L.trans (L.j1 _ _) (L.j2 _ _)
    rw [h2, L.mod_eq hm (L.m y z) (L.jl (L.m1 _ _) (L.m1 _ _))]
    exact L.jl (L.refl _) (L.trans (L.ml (L.m2 _ _) (L.trans (L.m1 _ _) (L.m1 _ _))) (L.j1 _ _))
  have r1 := L.lo_rot x y z
  have r2 := L.hi_rot x y z
  have s1 := L.lo_rot y z x
  have s2 := L.hi_rot y z x
  have b1 := L.mid_join hm y z x
  have b2 := L.mid_meet hm y z x
  have c1 := L.mid_join hm z x y
  have c2 := L.mid_meet hm z x y
  rw [r1, r2] at b1 b2
  rw [s1, s2, r1, r2] at c1 c2
  rw [L.jc] at c1; rw [L.mc] at c2
  have := L.diam hpq (L.mid_meet hm x y z) c2 b2 (L.mid_join hm x y z) c1 b1
  exact hn (L.mid x (L.lo x y z) (L.hi x y z)) (L.mid y (L.lo x y z) (L.hi x y z)) (L.mid z (L.lo x y z) (L.hi x y z)) (by rw [c2, c1]; exact this)
end Lat
end Go.X
namespace Go.X
theorem jnB_comm {n x y z : Nat} {f : Nat → Nat → Bool} : jnB n f x y z = jnB n f y x z := by
  rw [Bool.eq_iff_iff, jnB_iff, jnB_iff]
  exact ⟨fun ⟨a, b, c⟩ => ⟨b, a, fun w hw h1 h2 => c w hw h2 h1⟩, fun ⟨a, b, c⟩ => ⟨b, a, fun w hw h1 h2 => c w hw h2 h1⟩⟩
theorem joinF_comm (n : Nat) (f : Nat → Nat → Bool) (x y : Nat) : joinF n f x y = joinF n f y x := firstF_congr fun z _ => jnB_comm
theorem meetF_comm (n : Nat) (f : Nat → Nat → Bool) (x y : Nat) : meetF n f x y = meetF n f y x := joinF_comm n _ x y
theorem joinF_some {n x y : Nat} {f : Nat → Nat → Bool} (h : 0 ≤ joinF n f x y) : ∃ z : Nat, joinF n f x y = (z : Int) ∧ z < n ∧ f x z = true ∧ f y z = true ∧ ∀ w, w < n → f x w = true → f y w = true → f z w = true := by
  rcases firstF_cases n (jnB n f x y) with ⟨h1, _⟩ | ⟨z, hz, hzn, hp, _⟩
  · unfold joinF at h; omega
  · obtain ⟨a, b, c⟩ := jnB_iff.1 hp
    exact ⟨z, hz, hzn, a, b, c⟩
theorem flip_o {n : Nat} {f : Nat → Nat → Bool} (ho : IsO n f) : IsO n (flipF f) :=
  isO_mk (fun x hx => ho.refl hx) (fun x y hx hy a b => ho.anti hx hy b a) (fun x y z hx hy hz a b => ho.trans hz hy hx b a)
theorem join_is {n x y z : Nat} {f : Nat → Nat → Bool} (ho : IsO n f) (hz : z < n) (h1 : f x z = true) (h2 : f y z = true) (h3 : ∀ w, w < n → f x w = true → f y w = true → f z w = true) : joinF n f x y = (z : Int) := by
  rcases firstF_cases n (jnB n f x y) with ⟨_, h⟩ | ⟨u, hu, hun, hp, _⟩
  · have := h z hz
    rw [jnB_iff.2 ⟨h1, h2, h3⟩] at this; cases this
  · obtain ⟨a, b, c⟩ := jnB_iff.1 hp
    unfold joinF
    rw [hu, ho.anti hun hz (c z hz h1 h2) (h3 u hun a b)]
theorem join_self {n x : Nat} {f : Nat → Nat → Bool} (ho : IsO n f) (hx : x < n) : joinF n f x x = (x : Int) := join_is ho hx (ho.refl hx) (ho.refl hx) fun w _ h _ => h
/-- All have a join, and a meet. -/
def noGap (n : Nat) (f : Nat → Nat → Bool) : Prop := ∀ i j, i < j → j < n → gapB n f i j = false
theorem gapB_no {n x y : Nat} {f : Nat → Nat → Bool} (h : gapB n f x y = false) : 0 ≤ joinF n f x y ∧ 0 ≤ meetF n f x y := by
  unfold gapB at h
  rw [Bool.or_eq_false_iff, decide_eq_false_iff_not, decide_eq_false_iff_not] at h
  omega
theorem noGap_all {n : Nat} {f : Nat → Nat → Bool} (ho : IsO n f) (hg : noGap n f) {x y : Nat} (hx : x < n) (hy : y < n) : 0 ≤ joinF n f x y ∧ 0 ≤ meetF n f x y := by
  rcases Nat.lt_trichotomy x y with h | h | h
  · exact gapB_no (hg x y h hy)
  · subst h
    exact ⟨by rw [join_self ho hx]; omega, by unfold meetF; rw [join_self (flip_o ho) hx]; omega⟩
  · rw [joinF_comm, meetF_comm]; exact gapB_no (hg y x h hx)
def jN (n : Nat) (f : Nat → Nat → Bool) (x y : Nat) : Nat := (joinF n f x y).toNat
def mN (n : Nat) (f : Nat → Nat → Bool) (x y : Nat) : Nat := (meetF n f x y).toNat
section
variable {n : Nat} {f : Nat → Nat → Bool} (ho : IsO n f) (hg : noGap n f)
include ho hg
theorem jN_at {x y : Nat} (hx : x < n) (hy : y < n) : joinF n f x y = (jN n f x y : Int) ∧ jN n f x y < n ∧ f x (jN n f x y) = true ∧ f y (jN n f x y) = true ∧ ∀ w, w < n → f x w = true → f y w = true → f (jN n f x y) w = true := by
  obtain ⟨z, h1, h2⟩ := joinF_some (noGap_all ho hg hx hy).1
  have : jN n f x y = z := by unfold jN; rw [h1]; rfl
  rw [this]
  exact ⟨h1, h2⟩
theorem mN_at {x y : Nat} (hx : x < n) (hy : y < n) : meetF n f x y = (mN n f x y : Int) ∧ mN n f x y < n ∧ f (mN n f x y) x = true ∧ f (mN n f x y) y = true ∧ ∀ w, w < n → f w x = true → f w y = true → f w (mN n f x y) = true := by
  obtain ⟨z, h1, h2⟩ := joinF_some (f := flipF f) (noGap_all ho hg hx hy).2
  have : mN n f x y = z := by unfold mN meetF; rw [h1]; rfl
  rw [this]
  exact ⟨h1, h2⟩
theorem jN_lt {x y : Nat} (hx : x < n) (hy : y < n) : jN n f x y < n := (jN_at ho hg hx hy).2.1
theorem mN_lt {x y : Nat} (hx : x < n) (hy : y < n) : mN n f x y < n := (mN_at ho hg hx hy).2.1
omit ho hg in
/-- The lattice. -/
def latF (ho : IsO n f) (hg : noGap n f) : Lat (Fin n) where
  le x y := f x y = true
  j x y := ⟨jN n f x y, jN_lt ho hg x.2 y.2⟩
  m x y := ⟨mN n f x y, mN_lt ho hg x.2 y.2⟩
  refl x := ho.refl x.2
  anti {x y} h k := Fin.ext (ho.anti x.2 y.2 h k)
  trans {x y z} h k := ho.trans x.2 y.2 z.2 h k
  j1 x y := (jN_at ho hg x.2 y.2).2.2.1
  j2 x y := (jN_at ho hg x.2 y.2).2.2.2.1
  jl {x y z} h k := (jN_at ho hg x.2 y.2).2.2.2.2 z z.2 h k
  m1 x y := (mN_at ho hg x.2 y.2).2.2.1
  m2 x y := (mN_at ho hg x.2 y.2).2.2.2.1
  ml {x y z} h k := (mN_at ho hg x.2 y.2).2.2.2.2 z z.2 h k
end
/-- Whether five are bad: the least, three, the greatest. -/
def badP (n : Nat) (f : Nat → Nat → Bool) (o a b c i : Nat) : Prop :=
  (o ≠ a ∧ o ≠ b ∧ o ≠ c ∧ o ≠ i ∧ a ≠ b ∧ a ≠ c ∧ a ≠ i ∧ b ≠ c ∧ b ≠ i ∧ c ≠ i) ∧ mN n f a c = o ∧ jN n f a c = i ∧ mN n f b c = o ∧ jN n f b c = i ∧ (f a b = true ∨ (mN n f a b = o ∧ jN n f a b = i))
instance (n : Nat) (f : Nat → Nat → Bool) (o a b c i : Nat) : Decidable (badP n f o a b c i) := by unfold badP; infer_instance
def distB (n : Nat) (f : Nat → Nat → Bool) : Bool := (List.range n).all fun x => (List.range n).all fun y => (List.range n).all fun z => decide (mN n f x (jN n f y z) = jN n f (mN n f x y) (mN n f x z))
theorem distB_iff {n : Nat} {f : Nat → Nat → Bool} : distB n f = true ↔ ∀ x y z, x < n → y < n → z < n → mN n f x (jN n f y z) = jN n f (mN n f x y) (mN n f x z) := by
  unfold distB
  rw [rall_iff]
  constructor
  · intro h x y z hx hy hz
    have := rall_iff.1 (rall_iff.1 (h x hx) y hy) z hz
    exact of_decide_eq_true this
  · intro h x hx
    rw [rall_iff]; intro y hy
    rw [rall_iff]; intro z hz
    exact decide_eq_true (h x y z hx hy hz)
theorem bad_lat {n : Nat} {f : Nat → Nat → Bool} (ho : IsO n f) (hg : noGap n f) (o a b c i : Fin n) : (latF ho hg).Bad o a b c i ↔ badP n f o a b c i := by
  unfold Lat.Bad badP latF
  simp only [ne_eq, Fin.ext_iff]
/-- Distributive just if no five are bad. -/
theorem dist_bad {n : Nat} {f : Nat → Nat → Bool} (ho : IsO n f) (hg : noGap n f) : distB n f = true ↔ ∀ a b c, a < n → b < n → c < n → ¬ badP n f (mN n f a c) a b c (jN n f a c) := by
  constructor
  · intro h a b c ha hb hc hbad
    have hm := mN_lt ho hg ha hc
    have hj := jN_lt ho hg ha hc
    refine (latF ho hg).bad_not ((bad_lat ho hg ⟨_, hm⟩ ⟨a, ha⟩ ⟨b, hb⟩ ⟨c, hc⟩ ⟨_, hj⟩).2 hbad) ?_
    intro x y z
    exact Fin.ext (distB_iff.1 h x y z x.2 y.2 z.2)
  · intro h
    rw [distB_iff]
    intro x y z hx hy hz
    have := (latF ho hg).dist_of (fun a b c hb => h a b c a.2 b.2 c.2 ((bad_lat ho hg _ a b c _).1 hb)) ⟨x, hx⟩ ⟨y, hy⟩ ⟨z, hz⟩
    exact congrArg Fin.val this
end Go.X
namespace Go.Proofs.Ytdokijbdnajhgaa
open Go Go.X

/-- No two are without a join or a meet. -/
def ngB (n : Nat) (f : Nat → Nat → Bool) : Bool := (List.range n).all fun j => (List.range j).all fun i => !gapB n f i j
theorem ngB_iff {n : Nat} {f : Nat → Nat → Bool} : ngB n f = true ↔ ∀ i j, i < j → j < n → gapB n f i j = false := by
  unfold ngB
  rw [rall_iff]
  constructor
  · intro h i j hi hj
    have := rall_iff.1 (h j hj) i hi
    simpa using this
  · intro h j hj
    rw [rall_iff]
    intro i hi
    rw [h i j hi hj]; rfl
theorem gapR_ng {n x y : Nat} {f : Nat → Nat → Bool} {b : Bool} (h : gapR n f x y b) : b = !ngB n f := by
  rcases h with ⟨h1, h2, h3, h4, _⟩ | ⟨h1, _, _, h4⟩
  · rw [h1, show ngB n f = false from by
      rw [Bool.eq_false_iff]; intro h; have := ngB_iff.1 h x y h2 h3; rw [h4] at this; cases this]; rfl
  · rw [h1, ngB_iff.2 h4]; rfl
/-- What is wrong with a lattice. -/
def opnC (p : List (List Bool)) : Int := if chkT p = 0 then (if ngB p.length (pb p) then 0 else 91) else chkT p
theorem opnC_bad {p : List (List Bool)} (h : chkT p ≠ 0) : opnC p = chkT p := if_neg h
theorem opnC_gap {p : List (List Bool)} (h : chkT p = 0) {x y : Nat} (hg : gapR p.length (pb p) x y true) : opnC p = 91 := by
  unfold opnC
  have := gapR_ng hg
  rw [if_pos h, if_neg (by rw [show ngB p.length (pb p) = false from by simpa using this.symm]; simp)]
theorem opnC_ok {p : List (List Bool)} (h : chkT p = 0) {x y : Nat} (hg : gapR p.length (pb p) x y false) : opnC p = 0 := by
  unfold opnC
  have := gapR_ng hg
  rw [if_pos h, if_pos (by simpa using this.symm)]
theorem gapR_true {n x y : Nat} {f : Nat → Nat → Bool} {b : Bool} (h : gapR n f x y b) (hb : b = true) : gapR n f x y true := by subst hb; exact h
theorem gapR_false {n x y : Nat} {f : Nat → Nat → Bool} {b : Bool} (h : gapR n f x y b) (hb : b = false) : gapR n f x y false := by subst hb; exact h
theorem opnC_zero {p : List (List Bool)} (h : opnC p = 0) : chkT p = 0 ∧ ngB p.length (pb p) = true := by
  unfold opnC at h
  by_cases c : chkT p = 0
  · rw [if_pos c] at h
    by_cases d : ngB p.length (pb p) = true
    · exact ⟨c, d⟩
    · rw [if_neg d] at h; omega
  · rw [if_neg c] at h; exact absurd h c
/-- The tables that 'open' gives. -/
def opnP (p : List (List Bool)) (rj rm : List (List Int)) : Prop := (opnC p ≠ 0 ∧ rj = [] ∧ rm = []) ∨ (opnC p = 0 ∧ rj = tabI p.length (joinF p.length (pb p)) ∧ rm = tabI p.length (meetF p.length (pb p)))
theorem opnP_ok {p : List (List Bool)} {rj rm : List (List Int)} (h : opnP p rj rm) (hz : opnC p = 0) : rj = tabI p.length (joinF p.length (pb p)) ∧ rm = tabI p.length (meetF p.length (pb p)) := by
  rcases h with ⟨h1, _⟩ | ⟨_, h2⟩
  · exact absurd hz h1
  · exact h2
set_option maxRecDepth 10000 in
theorem ogap_spec (h : Heap) (vp : Value) (hs : List Hdr) (p : List (List Bool)) (hr_vp : RdE encHd h vp hs) (ht_vp : RT encB h hs p) (hp1 : p.length ≤ 1000000) (hp2 : ∀ i, i < p.length → (gt p i).length ≤ 1000000) : Fx Try.prog 30 [vp] h (fun v h' => ∃ (x : Nat) (y : Nat) (b : Bool), v = .tuple #[.int .i64 ((x : Nat) : Int), .int .i64 ((y : Nat) : Int), .bool b, .int .i64 (chkT p)] ∧ ((chkT p ≠ 0 ∧ x = 0 ∧ y = 0 ∧ b = false) ∨ (chkT p = 0 ∧ gapR p.length (pb p) x y b)) ∧ Ext h.size h h') := by
  have hl_vp := ht_vp.1
  refine fx_intro (n := 25) [(0, vp)] Try.func30 rfl rfl (by simp) ⟨rfl, trivial⟩ fun g0 => ?_
  refine wi_seq <| wi_reg rfl <| lx_assign (.int .i64 0) rfl rfl <| lx_assign (.int .i64 0) rfl rfl <| lx_assign (.bool false) rfl rfl <| lx_assign (.int .i64 0) rfl rfl <| lx_nil <| wi_seq <| wi_seq <| wi_reg rfl <| lx_move (vp) rfl rfl <| lx_call [vp] rfl rfl Try.call62 rfl (ocheck_spec h vp hs p hr_vp ht_vp (by omega) (by first | with_reducible assumption | omega)) (fun _ _ _ => trivial) ?_
  rintro _ h1 ⟨rfl, hx1⟩
  refine lx_assign (.int .i64 (chkT p)) rfl rfl <| lx_nil <| wi_seq <| wi_reg rfl <| lx_move (.int .i64 (chkT p)) rfl rfl <| lx_neqS rfl rfl rfl (fun c1 => ?_) (fun c1 => ?_)
  · refine lx_nil <| wi_true rfl <| wi_seq <| wi_reg rfl <| lx_move (.int .i64 (chkT p)) rfl rfl <| lx_assign (.int .i64 0) rfl rfl <| lx_assign (.int .i64 0) rfl rfl <| lx_assign (.bool false) rfl rfl <| lx_assign (.int .i64 (chkT p)) rfl rfl <| lx_nil <| ?_
    -- R1
    refine wi_ret ⟨.tuple #[.int .i64 0, .int .i64 0, .bool false, .int .i64 (chkT p)], (res_four rfl rfl rfl rfl rfl), ⟨0, 0, false, ?_, ?_, hx1⟩⟩
    · first | rfl | (simp; done) | (simp; omega)
    · exact .inl ⟨by omega, rfl, rfl, rfl⟩
  · refine lx_nil <| wi_false rfl <| wi_skip <| wi_seq <| wi_reg rfl <| ?_
    have hok := chkT_ok (p := p) (by omega)
    have hp12 : p.length ≤ 12 := hok.2.1
    have hpq : Sq p p.length := isT_sq hok.2.2
    refine lx_move (vp) rfl rfl <| lx_call [vp] rfl rfl Try.call89 rfl (tables_spec h1 vp hs p (hr_vp.extS hx1) (ht_vp.extS hx1) (by omega) (by first | with_reducible assumption | omega)) (fun _ _ _ => trivial) ?_
    rintro _ h2 ⟨v1, v2, h1_1, h2_1, rfl, ho1, hot1, ho2, hot2, hx2⟩
    have hx0_1 := hx1.trans2 hx2 hx1.size
    have ho3 := ho1.base hx1.size
    have hot3 := hot1.base hx1.size
    have hl_hot3 := hot3.1
    have ho4 := ho2.base hx1.size
    have hot4 := hot2.base hx1.size
    have hl_hot4 := hot4.1
    refine lx_call [.agg #[v1, v2]] rfl rfl Try.call90 rfl (gap_spec h2 p.length ((pb p)) v1 h1_1 (tabI p.length (joinF p.length (pb p))) v2 h2_1 (tabI p.length (meetF p.length (pb p))) ho3.rd hot3.rt ho4.rd hot4.rt (by omega) rfl rfl) (fun _ _ _ => trivial) ?_
    rintro _ h3 ⟨gx, gy, gb, rfl, hgap, hx3⟩
    have hx0_2 := hx0_1.trans2 hx3 hx0_1.size
    have ho5 := ho3.extS hx3
    have hot5 := hot3.extS hx3
    have ho6 := ho4.extS hx3
    have hot6 := hot4.extS hx3
    refine lx_move (.tuple #[.int .i64 ((gx : Nat) : Int), .int .i64 ((gy : Nat) : Int), .bool gb]) rfl rfl <| lx_extract (.int .i64 ((gx : Nat) : Int)) rfl rfl rfl <| lx_extract (.int .i64 ((gy : Nat) : Int)) rfl rfl rfl <| lx_extract (.bool gb) rfl rfl rfl <| lx_assign (.int .i64 ((gx : Nat) : Int)) rfl rfl <| lx_assign (.int .i64 ((gy : Nat) : Int)) rfl rfl <| lx_assign (.bool gb) rfl rfl <| lx_nil <| wi_seq <| wi_reg rfl <| lx_move (.int .i64 ((gx : Nat) : Int)) rfl rfl <| lx_move (.int .i64 ((gy : Nat) : Int)) rfl rfl <| lx_move (.bool gb) rfl rfl <| lx_assign (.int .i64 ((gx : Nat) : Int)) rfl rfl <| lx_assign (.int .i64 ((gy : Nat) : Int)) rfl rfl <| lx_assign (.bool gb) rfl rfl <| lx_assign (.int .i64 0) rfl rfl <| lx_nil <| ?_
    -- R2
    refine wi_ret ⟨.tuple #[.int .i64 ((gx : Nat) : Int), .int .i64 ((gy : Nat) : Int), .bool gb, .int .i64 0], (res_four rfl rfl rfl rfl rfl), ⟨gx, gy, gb, ?_, ?_, hx0_2⟩⟩
    · rw [show chkT p = 0 from by omega]
    · exact .inr ⟨by omega, hgap⟩

set_option maxRecDepth 10000 in
theorem open_spec (h : Heap) (vp : Value) (hs : List Hdr) (p : List (List Bool)) (hr_vp : RdE encHd h vp hs) (ht_vp : RT encB h hs p) (hp1 : p.length ≤ 1000000) (hp2 : ∀ i, i < p.length → (gt p i).length ≤ 1000000) : Fx Try.prog 92 [vp] h (fun v h' => ∃ (s1 : Value) (s2 : Value) (h1 : List Hdr) (h2 : List Hdr) (rj : List (List Int)) (rm : List (List Int)), v = .tuple #[.agg #[s1, s2], .int .i64 (opnC p)] ∧ OwE encHd h' h.size 25 s1 h1 ∧ OT encI h' h.size 3 h1 rj ∧ OwE encHd h' h.size 25 s2 h2 ∧ OT encI h' h.size 3 h2 rm ∧ (opnP p rj rm) ∧ Ext h.size h h') := by
  have hl_vp := ht_vp.1
  refine fx_intro (n := 26) [(0, vp)] Try.func92 rfl rfl (by simp) ⟨rfl, trivial⟩ fun g0 => ?_
  refine wi_seq <| wi_reg rfl <| lx_alloc rfl rfl Try.zeroValue119 (fun _ _ _ => trivial) fun bn1 h1 hbn1 hbk1 hx1 hsz1 => ?_
  have hbb1 : h.size ≤ bn1 := by have := (Nat.le_refl h.size); omega
  have hbk1 : Blk h1 bn1 #[.slice none 0 0, .slice none 0 0] 119 := hbk1
  refine lx_assign (.int .i64 0) rfl rfl <| lx_nil <| wi_seq <| wi_seq <| wi_reg rfl <| lx_move (vp) rfl rfl <| lx_call [vp] rfl rfl Try.call62 rfl (ocheck_spec h1 vp hs p (hr_vp.extS hx1) (ht_vp.extS hx1) (by omega) (by first | with_reducible assumption | omega)) (fun _ _ _ => trivial) ?_
  rintro _ h2 ⟨rfl, hx2⟩
  have hx0_1 := hx1.trans2 hx2 hx1.size
  have hb1 := hbk1.extS hx2
  refine lx_assign (.int .i64 (chkT p)) rfl rfl <| lx_nil <| wi_seq <| wi_reg rfl <| lx_move (.int .i64 (chkT p)) rfl rfl <| lx_neqS rfl rfl rfl (fun c1 => ?_) (fun c1 => ?_)
  · refine lx_nil <| wi_true rfl <| wi_seq <| wi_reg rfl <| lx_build (.agg #[.slice none 0 0, .slice none 0 0]) [] rfl rfl (fun w => bldL0 st119 Try.zeroValue119 w) <| lx_move (.int .i64 (chkT p)) rfl rfl <| lx_stBA (#[.slice none 0 0, .slice none 0 0]) rfl rfl Try.sizeOf119 hb1 rfl rfl rfl rfl (one2 rfl rfl) (fun _ _ _ _ => trivial) fun h3 hbk2 hc1 => ?_
    have hx0_2 := hx0_1.trans (hc1.ext hbb1)
    refine lx_assign (.int .i64 (chkT p)) rfl rfl <| lx_nil <| ?_
    -- R1
    refine wi_ret ⟨.tuple #[.agg #[.slice none 0 0, .slice none 0 0], .int .i64 (chkT p)], (res_cell2 rfl rfl hbk2 wd119 rfl rfl), ⟨.slice none 0 0, .slice none 0 0, [], [], [], [], ?_, (owE_nil encHd _ h.size 25), (OT.nil encI _ h.size 3), (owE_nil encHd _ h.size 25), (OT.nil encI _ h.size 3), ?_, hx0_2⟩⟩
    · rw [opnC_bad (by omega)]
    · exact .inl ⟨by rw [opnC_bad (by omega)]; omega, rfl, rfl⟩
  · refine lx_nil <| wi_false rfl <| wi_skip <| wi_seq <| wi_reg rfl <| ?_
    have hok := chkT_ok (p := p) (by omega)
    have hp12 : p.length ≤ 12 := hok.2.1
    have hpq : Sq p p.length := isT_sq hok.2.2
    refine lx_move (vp) rfl rfl <| lx_call [vp] rfl rfl Try.call89 rfl (tables_spec h2 vp hs p (hr_vp.extS hx0_1) (ht_vp.extS hx0_1) (by omega) (by first | with_reducible assumption | omega)) (fun _ _ _ => trivial) ?_
    rintro _ h4 ⟨vj, vm, hj, hm, rfl, ho1, hot1, ho2, hot2, hx3⟩
    have hx0_3 := hx0_1.trans2 hx3 hx0_1.size
    have hb2 := hb1.extS hx3
    have ho3 := ho1.base hx0_1.size
    have hot3 := hot1.base hx0_1.size
    have hl_hot3 := hot3.1
    have ho4 := ho2.base hx0_1.size
    have hot4 := hot2.base hx0_1.size
    have hl_hot4 := hot4.1
    refine lx_alloc rfl rfl Try.zeroValue119 (fun _ _ _ => trivial) fun bn2 h5 hbn2 hbk3 hx4 hsz2 => ?_
    have hbb2 : h.size ≤ bn2 := by have := hx0_3.size; omega
    have hne1 : bn2 ≠ bn1 := by have := hb2.lt; omega
    have hdj1 : Value.ownBlock vj ≠ some bn2 := by intro e; have := (ho3.lt e).2; omega
    have hnb1 : Nbt hj bn2 := nbt_new hot3 (by omega)
    have hdj2 : Value.ownBlock vm ≠ some bn2 := by intro e; have := (ho4.lt e).2; omega
    have hnb2 : Nbt hm bn2 := nbt_new hot4 (by omega)
    have hx0_4 := hx0_3.trans2 hx4 hx0_3.size
    have ho5 := ho3.extS hx4
    have hot5 := hot3.extS hx4
    have ho6 := ho4.extS hx4
    have hot6 := hot4.extS hx4
    have hb3 := hb2.extS hx4
    have hbk3 : Blk h5 bn2 #[.slice none 0 0, .slice none 0 0] 119 := hbk3
    refine lx_stBA (#[vj, vm]) rfl rfl Try.sizeOf119 hbk3 rfl rfl rfl rfl (one2 (sl_one ho5.rd) (sl_one ho6.rd)) (fun _ _ _ _ => trivial) fun h6 hbk4 hc2 => ?_
    have hx0_5 := hx0_4.trans (hc2.ext hbb2)
    have ho7 := hc2.owE ho5 hdj1
    have hot7 := hot5.chgB hc2 hnb1
    have ho8 := hc2.owE ho6 hdj2
    have hot8 := hot6.chgB hc2 hnb2
    have hb4 := hc2.blk hb3 (Ne.symm hne1)
    refine lx_nil <| wi_seq <| wi_seq <| wi_reg rfl <| lx_ldBA rfl rfl wd119 hbk4 rfl rfl <| lx_call [.agg #[vj, vm]] rfl rfl Try.call90 rfl (gap_spec h6 p.length ((pb p)) vj hj (tabI p.length (joinF p.length (pb p))) vm hm (tabI p.length (meetF p.length (pb p))) ho7.rd hot7.rt ho8.rd hot8.rt (by omega) rfl rfl) (fun _ _ _ => trivial) ?_
    rintro _ h7 ⟨gx, gy, gb, rfl, hgap, hx5⟩
    have hx0_6 := hx0_5.trans2 hx5 hx0_5.size
    have ho9 := ho7.extS hx5
    have hot9 := hot7.extS hx5
    have ho10 := ho8.extS hx5
    have hot10 := hot8.extS hx5
    have hb5 := hb4.extS hx5
    have hb6 := hbk4.extS hx5
    refine lx_move (.tuple #[.int .i64 ((gx : Nat) : Int), .int .i64 ((gy : Nat) : Int), .bool gb]) rfl rfl <| lx_extract (.int .i64 ((gx : Nat) : Int)) rfl rfl rfl <| lx_extract (.int .i64 ((gy : Nat) : Int)) rfl rfl rfl <| lx_extract (.bool gb) rfl rfl rfl <| lx_assign (.int .i64 ((gx : Nat) : Int)) rfl rfl <| lx_assign (.int .i64 ((gy : Nat) : Int)) rfl rfl <| lx_assign (.bool gb) rfl rfl <| lx_nil <| wi_seq <| wi_reg rfl <| lx_move (.bool gb) rfl rfl <| lx_nil <| wi_condS (t := gb) rfl (fun c2 => ?_) (fun c2 => ?_)
    · refine wi_seq <| wi_reg rfl <| lx_build (.agg #[.slice none 0 0, .slice none 0 0]) [] rfl rfl (fun w => bldL0 st119 Try.zeroValue119 w) <| lx_stBA (#[.slice none 0 0, .slice none 0 0]) rfl rfl Try.sizeOf119 hb5 rfl rfl rfl rfl (one2 rfl rfl) (fun _ _ _ _ => trivial) fun h8 hbk5 hc3 => ?_
      have hx0_7 := hx0_6.trans (hc3.ext hbb1)
      have ho11 := hc3.owE ho9 (nb_new hb1 ho1)
      have hot11 := hot9.chgB hc3 (nbt_ty hot9 hb5 (by decide))
      have ho12 := hc3.owE ho10 (nb_new hb1 ho2)
      have hot12 := hot10.chgB hc3 (nbt_ty hot10 hb5 (by decide))
      have hb7 := hc3.blk hb6 hne1
      refine lx_assign (.int .i64 91) rfl rfl <| lx_nil <| ?_
      -- R2
      refine wi_ret ⟨.tuple #[.agg #[.slice none 0 0, .slice none 0 0], .int .i64 91], (res_cell2 rfl rfl hbk5 wd119 rfl rfl), ⟨.slice none 0 0, .slice none 0 0, [], [], [], [], ?_, (owE_nil encHd _ h.size 25), (OT.nil encI _ h.size 3), (owE_nil encHd _ h.size 25), (OT.nil encI _ h.size 3), ?_, hx0_7⟩⟩
      · rw [opnC_gap (by omega) (gapR_true hgap (by assumption))]
      · exact .inl ⟨by rw [opnC_gap (by omega) (gapR_true hgap (by assumption))]; omega, rfl, rfl⟩
    · refine wi_skip <| wi_seq <| wi_reg rfl <| lx_ldBA rfl rfl wd119 hb6 rfl rfl <| lx_stBA (#[vj, vm]) rfl rfl Try.sizeOf119 hb5 rfl rfl rfl rfl (one2 (sl_one ho9.rd) (sl_one ho10.rd)) (fun _ _ _ _ => trivial) fun h9 hbk6 hc4 => ?_
      have hx0_8 := hx0_6.trans (hc4.ext hbb1)
      have ho13 := hc4.owE ho9 (nb_new hb1 ho1)
      have hot13 := hot9.chgB hc4 (nbt_ty hot9 hb5 (by decide))
      have ho14 := hc4.owE ho10 (nb_new hb1 ho2)
      have hot14 := hot10.chgB hc4 (nbt_ty hot10 hb5 (by decide))
      have hb8 := hc4.blk hb6 hne1
      refine lx_assign (.int .i64 0) rfl rfl <| lx_nil <| ?_
      -- R3
      refine wi_ret ⟨.tuple #[.agg #[vj, vm], .int .i64 0], (res_cell2 rfl rfl hbk6 wd119 rfl rfl), ⟨vj, vm, hj, hm, tabI p.length (joinF p.length (pb p)), tabI p.length (meetF p.length (pb p)), ?_, ho13, hot13, ho14, hot14, ?_, hx0_8⟩⟩
      · rw [opnC_ok (by omega) (gapR_false hgap (by assumption))]
      · exact .inr ⟨opnC_ok (by omega) (gapR_false hgap (by assumption)), rfl, rfl⟩

set_option maxRecDepth 10000 in
theorem joinEls_spec (h : Heap) (vp : Value) (hs : List Hdr) (p : List (List Bool)) (hr_vp : RdE encHd h vp hs) (ht_vp : RT encB h hs p) (hp1 : p.length ≤ 1000000) (hp2 : ∀ i, i < p.length → (gt p i).length ≤ 1000000) : Fx Try.prog 32 [vp] h (fun v h' => ∃ (s : Value) (xs : List Int), v = .tuple #[s, .int .i64 (opnC p)] ∧ OwE encI h' h.size 3 s xs ∧ (xs = if opnC p = 0 then jelF p.length (pb p) else []) ∧ Ext h.size h h') := by
  have hl_vp := ht_vp.1
  refine fx_intro (n := 16) [(0, vp)] Try.func32 rfl rfl (by simp) ⟨rfl, trivial⟩ fun g0 => ?_
  refine wi_seq <| wi_reg rfl <| lx_assign (.slice none 0 0) rfl rfl <| lx_assign (.int .i64 0) rfl rfl <| lx_nil <| wi_seq <| wi_seq <| wi_reg rfl <| lx_move (vp) rfl rfl <| lx_call [vp] rfl rfl Try.call92 rfl (open_spec h vp hs p hr_vp ht_vp (by omega) (by first | with_reducible assumption | omega)) (fun _ _ _ => trivial) ?_
  rintro _ h1 ⟨vj, vm, hj, hm, rj, rm, rfl, ho1, hot1, ho2, hot2, hop, hx1⟩
  have ho3 := ho1.base (Nat.le_refl h.size)
  have hot3 := hot1.base (Nat.le_refl h.size)
  have hl_hot3 := hot3.1
  have ho4 := ho2.base (Nat.le_refl h.size)
  have hot4 := hot2.base (Nat.le_refl h.size)
  have hl_hot4 := hot4.1
  refine lx_move (.tuple #[.agg #[vj, vm], .int .i64 (opnC p)]) rfl rfl <| lx_extract (.agg #[vj, vm]) rfl rfl rfl <| lx_extract (.int .i64 (opnC p)) rfl rfl rfl <| lx_alloc rfl rfl Try.zeroValue119 (fun _ _ _ => trivial) fun bn1 h2 hbn1 hbk1 hx2 hsz1 => ?_
  have hbb1 : h.size ≤ bn1 := by have := hx1.size; omega
  have hdj1 : Value.ownBlock vj ≠ some bn1 := by intro e; have := (ho3.lt e).2; omega
  have hnb1 : Nbt hj bn1 := nbt_new hot3 (by omega)
  have hdj2 : Value.ownBlock vm ≠ some bn1 := by intro e; have := (ho4.lt e).2; omega
  have hnb2 : Nbt hm bn1 := nbt_new hot4 (by omega)
  have hx0_1 := hx1.trans2 hx2 hx1.size
  have ho5 := ho3.extS hx2
  have hot5 := hot3.extS hx2
  have ho6 := ho4.extS hx2
  have hot6 := hot4.extS hx2
  have hbk1 : Blk h2 bn1 #[.slice none 0 0, .slice none 0 0] 119 := hbk1
  refine lx_stBA (#[vj, vm]) rfl rfl Try.sizeOf119 hbk1 rfl rfl rfl rfl (one2 (sl_one ho5.rd) (sl_one ho6.rd)) (fun _ _ _ _ => trivial) fun h3 hbk2 hc1 => ?_
  have hx0_2 := hx0_1.trans (hc1.ext hbb1)
  have ho7 := hc1.owE ho5 hdj1
  have hot7 := hot5.chgB hc1 hnb1
  have ho8 := hc1.owE ho6 hdj2
  have hot8 := hot6.chgB hc1 hnb2
  refine lx_assign (.int .i64 (opnC p)) rfl rfl <| lx_nil <| wi_seq <| wi_reg rfl <| lx_move (.int .i64 (opnC p)) rfl rfl <| lx_neqS rfl rfl rfl (fun c1 => ?_) (fun c1 => ?_)
  · refine lx_nil <| wi_true rfl <| wi_seq <| wi_reg rfl <| lx_move (.int .i64 (opnC p)) rfl rfl <| lx_assign (.slice none 0 0) rfl rfl <| lx_assign (.int .i64 (opnC p)) rfl rfl <| lx_nil <| ?_
    -- R1
    refine wi_ret ⟨.tuple #[.slice none 0 0, .int .i64 (opnC p)], (res_two rfl rfl rfl), ⟨.slice none 0 0, [], rfl, (owE_nil encI _ h.size 3), ?_, hx0_2⟩⟩
    · rw [if_neg (by omega)]
  · refine lx_nil <| wi_false rfl <| wi_skip <| wi_seq <| wi_reg rfl <| ?_
    have hz := opnC_zero (p := p) (by omega)
    have hok := chkT_ok (p := p) hz.1
    have hp12 : p.length ≤ 12 := hok.2.1
    have hpq : Sq p p.length := isT_sq hok.2.2
    have hio := isT_o hok.2.2
    have hng : noGap p.length (pb p) := ngB_iff.1 hz.2
    obtain ⟨hrj, hrm⟩ : rj = tabI p.length (joinF p.length (pb p)) ∧ rm = tabI p.length (meetF p.length (pb p)) := opnP_ok hop (by omega)
    refine lx_move (vp) rfl rfl <| lx_call [vp] rfl rfl Try.call93 rfl (joinElements_spec h3 vp hs p (hr_vp.extS hx0_2) (ht_vp.extS hx0_2) (by omega) (by first | with_reducible assumption | omega)) (fun _ _ _ => trivial) ?_
    rintro v1 h4 ⟨_, rfl, ho9, hx3⟩
    have hx0_3 := hx0_2.trans2 hx3 hx0_2.size
    have ho10 := ho7.extS hx3
    have hot9 := hot7.extS hx3
    have ho11 := ho8.extS hx3
    have hot10 := hot8.extS hx3
    have hb1 := hbk2.extS hx3
    have ho12 := ho9.base hx0_2.size
    refine lx_assign (v1) rfl rfl <| lx_assign (.int .i64 0) rfl rfl <| lx_nil <| ?_
    -- R2
    refine wi_ret ⟨.tuple #[v1, .int .i64 0], (res_two rfl rfl rfl), ⟨v1, jelF p.length (pb p), ?_, ho12, ?_, hx0_3⟩⟩
    · rw [show opnC p = 0 from by omega]
    · rw [if_pos (by omega)]

end Go.Proofs.Ytdokijbdnajhgaa
namespace Go.X
section
variable {P : Program} {S : Heap → Prop} {kd : Oper → Kd} {ops : Array Oper}

/-- A free operation may come before 'i'. -/
theorem push_free {K : Env → Heap → Prop} {i m fuel : Nat} {oi om : Oper} {listed : Array Bool} {e : Env} {h : Heap} (hi : ops[i]? = some oi) (hm : ops[m]? = some om) (hsel : ∀ (j : Nat) (o : Oper) cs b, ops[j]? = some o → o.op ≠ .select cs b)
    (hmi : m ≠ i) (hap : oi.apart ops om = true) (hfr : kd om = .free) (hrm : m ∈ Region.ready .any ops listed) (hS : S h)
    (H : obAt P S kd ops i (anyX P S kd ops K (fuel + 1) (listed.setIfInBounds i true)) e h) :
    ∃ v, FreeAt P S ops om e v ∧ obAt P S kd ops i (anyX P S kd ops K fuel ((listed.setIfInBounds m true).setIfInBounds i true)) (putE e om.dst v) h := by
  have hsi := fun cs b => hsel i oi cs b hi
  have hsj := fun cs b => hsel m om cs b hm
  obtain ⟨h1, h2, h3⟩ := Oper.apart_spec hap
  have hrj := ready_mono hrm hmi
  have hcomm : (listed.setIfInBounds i true).setIfInBounds m true = (listed.setIfInBounds m true).setIfInBounds i true := Array.setIfInBounds_comm _ _ (Ne.symm hmi)
  by_cases hA : kd oi = .free ∨ Region.wanted oi (yieldE ops e) = false
  · obtain ⟨v, hv, hK⟩ := freeAt_of_obAt hi hA H
    obtain ⟨vm, hvm, hK2⟩ := freeAt_of_obAt hm (.inl hfr) (hK.2 m hrj)
    have hvm' : FreeAt P S ops om e vm := hvm.of_same (execOp_putE om hsj e oi.dst v h1).symm (wanted_putE om e oi.dst v h1).symm
    refine ⟨vm, hvm', FreeAt.obAt hi (hv.of_same (execOp_putE oi hsi e om.dst vm h3) (wanted_putE oi e om.dst vm h3)) ?_⟩
    rw [← hcomm, ← putE_comm e v vm h2]
    exact hK2
  · have hwi : Region.wanted oi (yieldE ops e) = true := by
      cases hw : Region.wanted oi (yieldE ops e) with
      | true => rfl
      | false => exact absurd (Or.inr hw) hA
    have H0 : Ob P S (kd oi) oi e h (fun v h' => anyX P S kd ops K (fuel + 1) (listed.setIfInBounds i true) (putE e oi.dst v) h') := by
      unfold obAt at H
      simp only [hi, hwi, if_true] at H
      exact H
    have hwj : ∀ v, Region.wanted om (yieldE ops (putE e oi.dst v)) = Region.wanted om (yieldE ops e) := fun v => wanted_putE om e oi.dst v h1
    obtain ⟨v0, h0, hs0, H1⟩ := ob_exists hS H0
    obtain ⟨vj, hvj, _⟩ := freeAt_of_obAt hm (.inl hfr) (H1.2 m hrj)
    have hvj' : FreeAt P S ops om e vj := hvj.of_same (execOp_putE om hsj e oi.dst v0 h1).symm (hwj v0).symm
    refine ⟨vj, hvj', ?_⟩
    unfold obAt
    simp only [hi, wanted_putE oi e om.dst vj h3, hwi, if_true]
    refine ob_mono hS ?_ (ob_same (execOp_putE oi hsi e om.dst vj h3) H0)
    intro v h' hs' hk
    obtain ⟨v', hv', hK'⟩ := freeAt_of_obAt hm (.inl hfr) (hk.2 m hrj)
    have : vj = v' := FreeAt.det hs' (hvj'.of_same (execOp_putE om hsj e oi.dst v h1) (hwj v)) hv'
    subst this
    rw [← hcomm, ← putE_comm e v vj h2]
    exact hK'

theorem anyX_either {K : Env → Heap → Prop} {i j : Nat} {oi oj : Oper} (F : Nat) (hi : ops[i]? = some oi) (hj : ops[j]? = some oj) (hsel : ∀ (j : Nat) (o : Oper) cs b, ops[j]? = some o → o.op ≠ .select cs b) (hij : i ≠ j) :
    ∀ (fuel : Nat) (listed : Array Bool) (e : Env) (h : Heap),
      (∀ m om, ops[m]? = some om → m ≠ i → m ≠ j → listed.getD m true = false → (beforeB ops F i m = true ∨ beforeB ops F j m = true) ∨ (oi.apart ops om = true ∧ oj.apart ops om = true ∧ kd om = .free)) →
      Closed ops listed → i ∈ Region.ready .any ops listed → j ∈ Region.ready .any ops listed → S h →
      obAt P S kd ops i (anyX P S kd ops K fuel (listed.setIfInBounds i true)) e h → obAt P S kd ops j (anyX P S kd ops K fuel (listed.setIfInBounds j true)) e h → anyX P S kd ops K (fuel + 1) listed e h := by
  intro fuel
  induction fuel with
  | zero =>
    intro listed e h _ _ hri hrj hS H1 H2
    refine ⟨fun h0 => (by rw [h0] at hri; cases hri), fun m hm => ?_⟩
    by_cases hmi : m = i
    · subst hmi; exact H1
    · obtain ⟨_, _, _, H'⟩ := obAt_exists hS H1
      have := ready_mono hm hmi
      rw [H'.1] at this
      cases this
  | succ fuel ih =>
    intro listed e h hfree hc hri hrj hS H1 H2
    refine ⟨fun h0 => (by rw [h0] at hri; cases hri), fun m hm => ?_⟩
    by_cases hmi : m = i
    · subst hmi; exact H1
    by_cases hmj : m = j
    · subst hmj; exact H2
    obtain ⟨hmun, om, hom, _⟩ := mem_ready.1 hm
    rcases hfree m om hom hmi hmj hmun with (hb | hb) | ⟨hap1, hap2, hfr⟩
    · exact absurd hb (ready_listed hc hri hm F)
    · exact absurd hb (ready_listed hc hrj hm F)
    obtain ⟨v1, hv1, K1⟩ := push_free hi hom hsel hmi hap1 hfr hm hS H1
    obtain ⟨v2, hv2, K2⟩ := push_free hj hom hsel hmj hap2 hfr hm hS H2
    have : v1 = v2 := FreeAt.det hS hv1 hv2
    subst this
    refine hv1.obAt hom (ih _ _ h (fun k ok hk hki hkj hun => hfree k ok hk hki hkj ?_) (hc.set hm) (ready_mono hri (Ne.symm hmi)) (ready_mono hrj (Ne.symm hmj)) hS K1 K2)
    by_cases hmk : m = k
    · subst hmk; exact hmun
    · rw [getD_set_ne true hmk] at hun; exact hun

/-- What must hold where operation 'k' is drawn first. -/
def okAt (kd : Oper → Kd) (ops : Array Oper) (F k : Nat) (listed : Array Bool) : Bool :=
  (Region.ready .any ops listed).contains k &&
  ((List.range ops.size).all fun j => j == k || listed.getD j true || (match ops[k]?, ops[j]? with | some ok, some oj => ok.apart ops oj && commB kd ok oj | _, _ => false) || beforeB ops F k j)
def isFree : Kd → Bool
  | .free => true
  | _ => false
theorem isFree_eq {k : Kd} (h : isFree k = true) : k = .free := by cases k <;> simp_all [isFree]
/-- The two. -/
def okPair (kd : Oper → Kd) (ops : Array Oper) (F i : Nat) (listed : Array Bool) : Bool :=
  (Region.ready .any ops listed).contains i && (Region.ready .any ops listed).contains (i + 1) &&
  ((List.range ops.size).all fun m => m == i || m == i + 1 || listed.getD m true || (beforeB ops F i m || beforeB ops F (i + 1) m) || (match ops[i]?, ops[i + 1]?, ops[m]? with | some oi, some oj, some om => oi.apart ops om && oj.apart ops om && isFree (kd om) | _, _, _ => false)) &&
  okAt kd ops F (i + 1) (listed.setIfInBounds i true) && okAt kd ops F i (listed.setIfInBounds (i + 1) true) &&
  okFrom kd ops F (ops.size - (i + 2)) (i + 2) ((listed.setIfInBounds i true).setIfInBounds (i + 1) true)
def okTwo (kd : Oper → Kd) (ops : Array Oper) (F i : Nat) : Nat → Nat → Array Bool → Bool
  | 0, k, listed => k == i && okPair kd ops F i listed
  | n + 1, k, listed => okAt kd ops F k listed && okTwo kd ops F i n (k + 1) (listed.setIfInBounds k true)
theorem okAt_first {K : Env → Heap → Prop} {F k : Nat} {ok : Oper} (hs : Region.noSelect ops = true) (h0 : ops[k]? = some ok) {listed : Array Bool} (hB : okAt kd ops F k listed = true) (hc : Closed ops listed) {e : Env} {h : Heap} {fuel : Nat} (hS : S h)
    (H : obAt P S kd ops k (anyX P S kd ops K fuel (listed.setIfInBounds k true)) e h) : anyX P S kd ops K (fuel + 1) listed e h := by
  simp only [okAt, Bool.and_eq_true] at hB
  obtain ⟨hr, hf⟩ := hB
  refine anyX_first F h0 (Region.noSelect_spec hs) fuel listed e h ?_ hc (by simpa using hr) hS H
  intro j oj hj hjk hun
  have hlt : j < ops.size := (Array.getElem?_eq_some_iff.1 hj).1
  have h1 := List.all_eq_true.1 hf j (List.mem_range.2 hlt)
  simp only [h0, hj, Bool.or_eq_true, beq_iff_eq, Bool.and_eq_true] at h1
  rcases h1 with ((h1 | h1) | h1) | h1
  · exact absurd h1 hjk
  · rw [hun] at h1; cases h1
  · exact .inr h1
  · exact .inl h1
theorem obAt_lx {K : Env → Heap → Prop} {k : Nat} {o : Oper} {l : List Oper} (h0 : ops[k]? = some o) {e : Env} {h : Heap} (H : Lx P S kd ops (o :: l) K e h) : obAt P S kd ops k (Lx P S kd ops l K) e h := by unfold obAt; simp only [h0]; exact H
theorem anyX_two {K : Env → Heap → Prop} {F i : Nat} {oi oj : Oper} {post : List Oper} (hs : Region.noSelect ops = true) (hi : ops[i]? = some oi) (hj : ops[i + 1]? = some oj) (hpost : ∀ q, post[q]? = ops[i + 2 + q]?) (hlen : post.length = ops.size - (i + 2)) :
    ∀ (l : List Oper) (k : Nat) (listed : Array Bool) (e : Env) (h : Heap), (∀ q, q < l.length → l[q]? = ops[k + q]?) → okTwo kd ops F i l.length k listed = true → Closed ops listed → S h →
    Lx P S kd ops l (fun e h => Lx P S kd ops (oi :: oj :: post) K e h ∧ Lx P S kd ops (oj :: oi :: post) K e h) e h → anyX P S kd ops K (l.length + (post.length + 2)) listed e h
  | [], k, listed, e, h, _, hB, hc, hS, H => by
    simp only [List.length_nil, okTwo, Bool.and_eq_true, beq_iff_eq] at hB
    obtain ⟨rfl, hB⟩ := hB
    simp only [okPair, Bool.and_eq_true] at hB
    obtain ⟨⟨⟨⟨⟨hri, hrj⟩, hall⟩, hj1⟩, hi1⟩, hpo⟩ := hB
    have hri' : k ∈ Region.ready .any ops listed := by simpa using hri
    have hrj' : k + 1 ∈ Region.ready .any ops listed := by simpa using hrj
    have hci := hc.set hri'
    have hcj := hc.set hrj'
    have hrj2 : k + 1 ∈ Region.ready .any ops (listed.setIfInBounds k true) := ready_mono hrj' (by omega)
    have hcij := hci.set hrj2
    have hcomm : (listed.setIfInBounds k true).setIfInBounds (k + 1) true = (listed.setIfInBounds (k + 1) true).setIfInBounds k true := Array.setIfInBounds_comm _ _ (by omega)
    have hend : ∀ e' h', S h' → Lx P S kd ops post K e' h' → anyX P S kd ops K post.length ((listed.setIfInBounds k true).setIfInBounds (k + 1) true) e' h' := fun e' h' hs' h5 =>
      anyX_lex F hs post (k + 2) _ e' h' hpost (by rw [hlen]; exact hpo) hcij hs' h5
    rw [show ([] : List Oper).length + (post.length + 2) = post.length + 1 + 1 from by simp]
    refine anyX_either F hi hj (Region.noSelect_spec hs) (by omega) (post.length + 1) listed e h ?_ hc hri' hrj' hS ?_ ?_
    · intro m om hm hmi hmj hun
      have hlt : m < ops.size := (Array.getElem?_eq_some_iff.1 hm).1
      have h1 := List.all_eq_true.1 hall m (List.mem_range.2 hlt)
      simp only [hi, hj, hm, Bool.or_eq_true, beq_iff_eq, Bool.and_eq_true] at h1
      rcases h1 with (((h1 | h1) | h1) | h1) | h1
      · exact absurd h1 hmi
      · exact absurd h1 hmj
      · rw [hun] at h1; cases h1
      · exact .inl h1
      · exact .inr ⟨h1.1.1, h1.1.2, isFree_eq h1.2⟩
    · refine obAt_mono hS (fun e' h' hs' h5 => ?_) (obAt_lx hi H.1)
      exact okAt_first hs hj hj1 hci hs' (obAt_mono hs' (fun e'' h'' hs'' h6 => hend e'' h'' hs'' h6) (obAt_lx hj h5))
    · refine obAt_mono hS (fun e' h' hs' h5 => ?_) (obAt_lx hj H.2)
      exact okAt_first hs hi hi1 hcj hs' (obAt_mono hs' (fun e'' h'' hs'' h6 => by rw [← hcomm]; exact hend e'' h'' hs'' h6) (obAt_lx hi h5))
  | o :: l, k, listed, e, h, hl, hB, hc, hS, H => by
    have h0 : ops[k]? = some o := by have := hl 0 (by simp); simpa using this.symm
    simp only [List.length_cons, okTwo, Bool.and_eq_true] at hB
    have hr : k ∈ Region.ready .any ops listed := by have := hB.1; simp only [okAt, Bool.and_eq_true] at this; simpa using this.1
    rw [show (o :: l).length + (post.length + 2) = l.length + (post.length + 2) + 1 from by simp; omega]
    exact okAt_first hs h0 hB.1 hc hS (obAt_mono hS (fun e' h' hs' h5 => anyX_two hs hi hj hpost hlen l (k + 1) _ e' h' (fun q hq => by have := hl (q + 1) (by simpa using hq); simpa [Nat.add_assoc, Nat.add_comm 1 q] using this) hB.2 (hc.set hr) hs' h5) (obAt_lx h0 H))
end
def swap2 : List Oper → List Oper
  | x :: y :: r => y :: x :: r
  | l => l
section
variable {M : Mo} {P : Program} {n : Nat} {k : List Item} {R : Option Code → Env → Heap → Prop} {e : Env} {h : Heap}
theorem two_split {l : List Oper} {i : Nat} (hi : i + 1 < l.length) : ∃ oi oj post, l.drop i = oi :: oj :: post ∧ l[i]? = some oi ∧ l[i + 1]? = some oj ∧ (∀ q, post[q]? = l[i + 2 + q]?) ∧ post.length = l.length - (i + 2) := by
  refine ⟨l[i], l[i + 1], l.drop (i + 2), ?_, List.getElem?_eq_getElem (by omega), List.getElem?_eq_getElem hi, fun q => by rw [List.getElem?_drop], by simp⟩
  rw [List.drop_eq_getElem_cons (by omega : i < l.length), List.drop_eq_getElem_cons hi]
theorem wi_draw2 {id : Nat} {l : List Oper} (i : Nat) (S : Heap → Prop) (kd : Oper → Kd) (hm : P.follows .mixedOrders = true) (hb : boundsB n l = true) (hok : (decide (i + 1 < l.length) && Region.noSelect l.toArray && okTwo kd l.toArray l.length i i 0 (Array.replicate l.toArray.size false)) = true) (hS : S h)
    (hw : Lx P S kd l.toArray (l.take i) (fun e h => Lx P S kd l.toArray (l.drop i) (WpI M P n k R) e h ∧ Lx P S kd l.toArray (swap2 (l.drop i)) (WpI M P n k R) e h) e h) : WpI M P n (.code (.region id l.toArray true) :: k) R e h :=
  wi_of_wp fun a w hf hh => by
    subst hh
    simp only [Bool.and_eq_true, decide_eq_true_iff] at hok
    obtain ⟨⟨hil, hsel⟩, hok⟩ := hok
    obtain ⟨oi, oj, post, hd, hi, hj, hpost, hlen⟩ := two_split hil
    rw [hd] at hw
    have htl : (l.take i).length = i := by rw [List.length_take]; omega
    have hx := anyX_two (P := P) (S := S) (kd := kd) (ops := l.toArray) (K := WpI M P n k R) (F := l.length) (i := i) (oi := oi) (oj := oj) (post := post) hsel (by simpa using hi) (by simpa using hj) (by intro q; simpa using hpost q) (by simpa using hlen)
      (l.take i) 0 (Array.replicate l.toArray.size false) e w.heap (fun q hq => by rw [List.getElem?_take, if_pos (by omega)]; simp) (by rw [htl]; exact hok) closed_start hS hw
    rw [show (l.take i).length + (post.length + 2) = l.length from by omega] at hx
    refine wpIn_region_any hm ?_
    have := wpAny_of_anyX (ro := M.ro) (P := P) (S := S) hb (w0 := { w with drawn := w.drawn + 1 }) (Q := fun x a' w' => x = .normal ∧ Qt w w' ∧ ∃ e', Fits n M.ds e' a' ∧ WpI M P n k R e' w'.heap) (K := WpI M P n k R)
      (fun e a' w' hf' hq hk => ⟨rfl, ⟨hq.os, hq.tape, hq.output⟩, e, hf', hk⟩) l.length (Array.replicate l.toArray.size false) e a { w with drawn := w.drawn + 1 } hf (Qt.refl _) hS hx
    simpa using this
end
end Go.X
namespace Go.X
section
variable {P : Program} {S : Heap → Prop} {kd : Oper → Kd} {ops : Array Oper} {rest : List Oper} {K : Env → Heap → Prop} {L : List (Nat × Value)} {b : Env} {h : Heap}
variable {d : Nat} {tx ty t : TypeId} {p : String} {af : Array Edge} {g : Option (Nat × Bool)} {x y : Operand}
theorem lx_addU {m n : Int} (r : Int) (hw : Region.wanted ⟨some d, .binOp .add tx x y ty, t, p, af, g⟩ (yieldE ops (ups L b)) = true) (hx : ev (ups L b) x = .int .u64 m) (hy : ev (ups L b) y = .int .u64 n) (hr : m + n = r) (hlo : 0 ≤ r) (hhi : r < 18446744073709551616)
    (hn : Lx P S kd ops rest K (ups ((d, .int .u64 r) :: L) b) h) : Lx P S kd ops (⟨some d, .binOp .add tx x y ty, t, p, af, g⟩ :: rest) K (ups L b) h :=
  lx_free _ hw (fo_int hx hy fun w => by subst hr; simp [binOp, Op.intArith, wrap_u64 hlo hhi]) hn
end
/-- How the library counts bits, step by step. -/
def on1 (x : Nat) : Nat := (x / 2 ^ 1 &&& 6148914691236517205) + (x &&& 6148914691236517205)
def on2 (x : Nat) : Nat := (x / 2 ^ 2 &&& 3689348814741910323) + (x &&& 3689348814741910323)
def on3 (x : Nat) : Nat := (x / 2 ^ 4 + x) &&& 1085102592571150095
def on4 (x : Nat) : Nat := x + x / 2 ^ 8
def on5 (x : Nat) : Nat := x + x / 2 ^ 16
def on6 (x : Nat) : Nat := x + x / 2 ^ 32
def popN (x : Nat) : Nat := (List.range 12).countP fun i => x.testBit i
theorem on_all : ((List.range 4096).all fun x => on1 x ≤ 4096 && on2 (on1 x) ≤ 4096 && on3 (on2 (on1 x)) ≤ 4096 && on4 (on3 (on2 (on1 x))) ≤ 8192 && on5 (on4 (on3 (on2 (on1 x)))) ≤ 8192 && on6 (on5 (on4 (on3 (on2 (on1 x))))) ≤ 8192 && (on6 (on5 (on4 (on3 (on2 (on1 x))))) &&& 127) == popN x) = true := by decide +kernel
theorem on_ok {x : Nat} (h : x < 4096) : on1 x ≤ 4096 ∧ on2 (on1 x) ≤ 4096 ∧ on3 (on2 (on1 x)) ≤ 4096 ∧ on4 (on3 (on2 (on1 x))) ≤ 8192 ∧ on5 (on4 (on3 (on2 (on1 x)))) ≤ 8192 ∧ on6 (on5 (on4 (on3 (on2 (on1 x))))) ≤ 8192 ∧ (on6 (on5 (on4 (on3 (on2 (on1 x))))) &&& 127) = popN x := by
  have := rall_iff.1 on_all x h
  simp only [Bool.and_eq_true, decide_eq_true_iff, beq_iff_eq] at this
  obtain ⟨⟨⟨⟨⟨⟨a, b⟩, c⟩, d⟩, e⟩, f⟩, g⟩ := this
  exact ⟨a, b, c, d, e, f, g⟩
end Go.X
namespace Go.X
theorem countP_drop {P Q : Nat → Bool} {x : Nat} (hx : P x = true) (hq : Q x = false) (h : ∀ i, i ≠ x → P i = Q i) : ∀ {N : Nat}, x < N → (List.range N).countP P = (List.range N).countP Q + 1
  | 0, h0 => by omega
  | N + 1, h0 => by
    rw [List.range_succ, List.countP_append, List.countP_append]
    by_cases e : x = N
    · subst e
      have : (List.range x).countP P = (List.range x).countP Q := List.countP_congr fun i hi => by rw [h i (by have := List.mem_range.1 hi; omega)]
      rw [this]
      simp [hx, hq]
    · rw [countP_drop hx hq h (show x < N by omega)]
      have : List.countP P [N] = List.countP Q [N] := List.countP_congr fun i hi => by rw [List.mem_singleton] at hi; subst hi; rw [h _ (Ne.symm e)]
      omega
theorem bit_off {s x y : Nat} : (andNot s (2 ^ x)).testBit y = (s.testBit y && !decide (x = y)) := by rw [testBit_andNot, Nat.testBit_two_pow]
theorem popN_off {s x : Nat} (hx : x < 12) (h : s.testBit x = true) : popN s = popN (andNot s (2 ^ x)) + 1 :=
  countP_drop (P := fun i => s.testBit i) (Q := fun i => (andNot s (2 ^ x)).testBit i) h (by rw [bit_off]; simp) (fun i hi => by show s.testBit i = _; rw [bit_off]; simp [Ne.symm hi]) hx
theorem popN_zero : popN 0 = 0 := by decide
theorem popN_nz {s : Nat} (hs : s < 4096) (h : s ≠ 0) : popN s ≠ 0 := fun e => h (Nat.eq_of_testBit_eq fun i => by
  rw [Nat.zero_testBit]
  by_cases hi : i < 12
  · unfold popN at e
    rw [List.countP_eq_zero] at e
    have := e i (List.mem_range.2 hi)
    simpa using this
  · exact Nat.testBit_lt_two_pow (Nat.lt_of_lt_of_le hs (by have : 2 ^ 12 ≤ 2 ^ i := Nat.pow_le_pow_right (by omega) (by omega); exact this)))
theorem popN_le (s : Nat) : popN s ≤ 12 := by
  unfold popN
  have := List.countP_le_length (p := fun i => s.testBit i) (l := List.range 12)
  simpa using this
def lastB (n : Nat) (f : Nat → Nat → Bool) (s x : Nat) : Bool := s.testBit x && decide (popN (upF n f x &&& s) = 1)
def linK (n : Nat) (f : Nat → Nat → Bool) : Nat → Nat → Int
  | 0, s => if s = 0 then 1 else 0
  | k + 1, s => if s = 0 then 1 else sumI n fun x => if lastB n f s x then linK n f k (andNot s (2 ^ x)) else 0
def linN (n : Nat) (f : Nat → Nat → Bool) (s : Nat) : Int := linK n f (popN s) s
/-- The sum so far. -/
def linS (n : Nat) (f : Nat → Nat → Bool) (s x : Nat) : Int := sumI x fun q => if lastB n f s q then linN n f (andNot s (2 ^ q)) else 0
theorem linN_zero (n : Nat) (f : Nat → Nat → Bool) : linN n f 0 = 1 := by unfold linN; rw [popN_zero]; rfl
theorem linN_sum {n s : Nat} {f : Nat → Nat → Bool} (hn : n ≤ 12) (hs : s < 4096) (h : s ≠ 0) : linN n f s = linS n f s n := by
  unfold linN linS
  obtain ⟨k, hk⟩ := Nat.exists_eq_succ_of_ne_zero (popN_nz hs h)
  rw [hk]
  unfold linK
  rw [if_neg h]
  refine sumI_congr fun i hi => ?_
  cases c : lastB n f s i
  · rfl
  · have hb : s.testBit i = true := by unfold lastB at c; rw [Bool.and_eq_true] at c; exact c.1
    rw [if_pos rfl, if_pos rfl]
    unfold linN
    rw [show popN (andNot s (2 ^ i)) = k from by have := popN_off (by omega) hb; omega]
theorem linK_bound {n : Nat} {f : Nat → Nat → Bool} : ∀ (k s : Nat), 0 ≤ linK n f k s ∧ linK n f k s ≤ (((n + 1) ^ k : Nat) : Int)
  | 0, s => by unfold linK; split <;> simp
  | k + 1, s => by
    unfold linK
    have hp : (1 : Int) ≤ (((n + 1) ^ (k + 1) : Nat) : Int) := by have : 0 < (n + 1) ^ (k + 1) := Nat.pow_pos (Nat.succ_pos n); omega
    split
    · omega
    · have h1 : ∀ i, i < n → 0 ≤ (if lastB n f s i then linK n f k (andNot s (2 ^ i)) else 0) ∧ (if lastB n f s i then linK n f k (andNot s (2 ^ i)) else 0) ≤ (((n + 1) ^ k : Nat) : Int) := fun i _ => by
        have := linK_bound k (andNot s (2 ^ i)) (n := n) (f := f)
        split
        · exact this
        · omega
      have hpos : ∀ (m : Nat) (g : Nat → Int), (∀ i, i < m → 0 ≤ g i) → 0 ≤ sumI m g := by
        intro m
        induction m with
        | zero => intro g _; exact Int.le_refl _
        | succ m ih => intro g hg; unfold sumI; have := ih g (fun i hi => hg i (by omega)); have := hg m (by omega); omega
      refine ⟨hpos n _ fun i hi => (h1 i hi).1, ?_⟩
      have h2 := (sumI_bound (B := (((n + 1) ^ k : Nat) : Int)) (by omega) (fun i hi => ⟨by have := (h1 i hi).1; omega, (h1 i hi).2⟩)).2
      refine Int.le_trans h2 ?_
      rw [← Int.natCast_mul]
      apply Int.ofNat_le.2
      rw [Nat.pow_succ, Nat.mul_comm]
      exact Nat.mul_le_mul_left _ (Nat.le_succ n)
theorem linN_bound {n s : Nat} {f : Nat → Nat → Bool} (hn : n ≤ 12) : 0 ≤ linN n f s ∧ linN n f s ≤ 23298085122481 := by
  have h := linK_bound (n := n) (f := f) (popN s) s
  have h2 : (n + 1) ^ popN s ≤ 13 ^ 12 := Nat.le_trans (Nat.pow_le_pow_left (by omega) _) (Nat.pow_le_pow_right (by omega) (popN_le s))
  have h3 : (13 : Nat) ^ 12 = 23298085122481 := by decide
  unfold linN
  omega
theorem linS_succ (n s x : Nat) (f : Nat → Nat → Bool) : linS n f s (x + 1) = linS n f s x + if lastB n f s x then linN n f (andNot s (2 ^ x)) else 0 := rfl
theorem linS_bound {n s : Nat} {f : Nat → Nat → Bool} (hn : n ≤ 12) : ∀ {x : Nat}, x ≤ 12 → 0 ≤ linS n f s x ∧ linS n f s x ≤ x * 23298085122481
  | 0, _ => by unfold linS sumI; omega
  | x + 1, hx => by
    have ih := linS_bound (f := f) (s := s) hn (show x ≤ 12 by omega)
    have h := linN_bound (s := andNot s (2 ^ x)) (f := f) hn
    rw [linS_succ]
    split <;> omega
theorem linS_yes {n s x : Nat} {f : Nat → Nat → Bool} (h : lastB n f s x = true) : linS n f s x + linN n f (andNot s (2 ^ x)) = linS n f s (x + 1) := by
  rw [linS_succ, h, if_pos rfl]
theorem linS_no {n s x : Nat} {f : Nat → Nat → Bool} (h : lastB n f s x = false) : linS n f s x = linS n f s (x + 1) := by
  rw [linS_succ, h, if_neg (by simp), Int.add_zero]
/-- The set without a greatest element of it is an ideal as well. -/
theorem idl_off {n s x : Nat} {f : Nat → Nat → Bool} (ho : IsO n f) (hn : n ≤ 12) (hs : s < 2 ^ n) (hi : idlB n f s = true) (hl : lastB n f s x = true) : idlB n f (andNot s (2 ^ x)) = true ∧ andNot s (2 ^ x) < s := by
  unfold lastB at hl
  rw [Bool.and_eq_true, decide_eq_true_iff] at hl
  obtain ⟨hb, hp⟩ := hl
  have hxn := bit_lt hs hb
  have hself : (upF n f x &&& s).testBit x = true := by rw [Nat.testBit_and, upF_bit, decide_eq_true hxn, ho.refl hxn, hb]; rfl
  have huniq : ∀ y, y < n → s.testBit y = true → f x y = true → y = x := fun y hy hby hxy => by
    refine Classical.byContradiction fun hne => ?_
    have h1 := popN_off (by omega) hself
    have hy2 : (andNot (upF n f x &&& s) (2 ^ x)).testBit y = true := by rw [bit_off, Nat.testBit_and, upF_bit, decide_eq_true hy, hxy, hby]; simp [Ne.symm hne]
    have h2 := popN_off (by omega) hy2
    omega
  constructor
  · rw [idlB_iff]
    intro a b ha hbn h1 h2
    rw [bit_off, Bool.and_eq_true, Bool.not_eq_true', decide_eq_false_iff_not] at h1 ⊢
    refine ⟨idlB_iff.1 hi a b ha hbn h1.1 h2, fun e => ?_⟩
    subst e
    exact h1.2 (huniq a ha h1.1 h2).symm
  · have h1 := andNot_le s (2 ^ x)
    rcases Nat.lt_or_eq_of_le h1 with h | h
    · exact h
    · have := bit_off (s := s) (x := x) (y := x)
      rw [h, hb] at this
      simp at this
end Go.X
namespace Go.X
open Go.MapKept
def mapEs (ms : List (Int × Value)) : Array MapEntry := (ms.zipIdx.map fun q => ({ key := .int .i64 q.1.1, val := q.1.2, born := q.2 } : MapEntry)).toArray
def mapObj (ms : List (Int × Value)) : Obj := .map (mapEs ms) ms.length
/-- Block 'l' is a map with these entries, in the order in which they came. -/
def MpO (h : Heap) (l : Nat) (ms : List (Int × Value)) : Prop := h[l]? = some (mapObj ms)
theorem MpO.lt {h : Heap} {l : Nat} {ms : List (Int × Value)} (hm : MpO h l ms) : l < h.size := (Array.getElem?_eq_some_iff.1 hm).1
theorem MpO.extS {h h' : Heap} {l : Nat} {ms : List (Int × Value)} (hm : MpO h l ms) (hx : Ext h.size h h') : MpO h' l ms := (hx.block l hm.lt).trans hm
theorem MpO.nc {h h' : Heap} {l : Nat} {ms : List (Int × Value)} (hm : MpO h l ms) (hx : Nc h h') : MpO h' l ms := hx.2 l _ hm (by intro c t f e; cases e)
/-- Block 'r' is an iterator over the map in block 'l', of 'N' entries, some of which have come. -/
def ItO (h : Heap) (r l N : Nat) (seen : List Nat) : Prop := h[r]? = some (.mapIter (some l) N seen.toArray N)
theorem ItO.lt {h : Heap} {r l N : Nat} {seen : List Nat} (hm : ItO h r l N seen) : r < h.size := (Array.getElem?_eq_some_iff.1 hm).1
theorem ItO.extS {h h' : Heap} {r l N : Nat} {seen : List Nat} (hm : ItO h r l N seen) (hx : Ext h.size h h') : ItO h' r l N seen := (hx.block r hm.lt).trans hm
theorem ItO.nc {h h' : Heap} {r l N : Nat} {seen : List Nat} (hm : ItO h r l N seen) (hx : Nc h h') : ItO h' r l N seen := hx.2 r _ hm (by intro c t f e; cases e)

theorem nb_obj {α : Type} {E : Enc α} {h : Heap} {B : Nat} {e : TypeId} {v : Value} {xs : List α} {l : Nat} {o : Obj} (ho : OwE E h B e v xs) (hm : h[l]? = some o) (hn : ∀ c t f, o ≠ .cells c t f) : v.ownBlock ≠ some l := fun h1 => by
  rcases ho.2 with ⟨rfl, _⟩ | ⟨g, cap, cur, rfl, _, hg, _⟩
  · cases h1
  · simp only [Value.ownBlock, Option.some.injEq] at h1
    subst h1
    rw [hm] at hg
    exact hn _ _ _ (Option.some.inj hg)
theorem nb_map {α : Type} {E : Enc α} {h : Heap} {B : Nat} {e : TypeId} {v : Value} {xs : List α} {l : Nat} {ms : List (Int × Value)} (ho : OwE E h B e v xs) (hm : MpO h l ms) : v.ownBlock ≠ some l := nb_obj ho hm (by intro c t f e; cases e)
theorem mapEs_get {ms : List (Int × Value)} {i : Nat} (hi : i < ms.length) : (mapEs ms)[i]? = some { key := .int .i64 (ms[i]).1, val := (ms[i]).2, born := i } := by
  simp [mapEs, List.getElem?_eq_getElem, hi]
theorem mapEs_push (ms : List (Int × Value)) (k : Int) (v : Value) : (mapEs ms).push { key := .int .i64 k, val := v, born := ms.length } = mapEs (ms ++ [(k, v)]) := by
  apply Array.toList_inj.1
  simp [mapEs, List.zipIdx_append]
theorem mapEs_modify {ms : List (Int × Value)} {i : Nat} (hi : i < ms.length) (k : Int) (v : Value) : (mapEs ms).modify i (fun e => { e with key := .int .i64 k, val := v }) = mapEs (ms.set i (k, v)) := by
  apply Array.ext (by simp [mapEs])
  intro j h1 h2
  have hj : j < ms.length := by simpa [mapEs] using h2
  simp only [Array.getElem_modify, mapEs, List.getElem_toArray, List.getElem_map, List.getElem_zipIdx, List.getElem_set]
  by_cases e : i = j
  · subst e; simp
  · simp [e]
/-- Where a key stands. -/
def idxM (ms : List (Int × Value)) (k : Int) : Option Nat := ms.findIdx? fun m => m.1 == k
def putM (ms : List (Int × Value)) (k : Int) (v : Value) : List (Int × Value) := match idxM ms k with
  | some i => ms.set i (k, v)
  | none => ms ++ [(k, v)]
def getM (ms : List (Int × Value)) (k : Int) (d : Value) : Value := match idxM ms k with
  | some i => ((ms[i]?).map (·.2)).getD d
  | none => d
theorem findNow_map (k : Int) : ∀ (ms : List (Int × Value)) (i : Nat), Instr.findNow (.int .i64) (.int .i64 k) ((ms.zipIdx i).map fun q => ({ key := .int .i64 q.1.1, val := q.1.2, born := q.2 } : MapEntry)) i = some ((ms.findIdx? fun m => m.1 == k).map fun j => (i + j, ((ms[j]?).map (·.2)).getD undef))
  | [], i => rfl
  | m :: ms, i => by
    simp only [List.zipIdx_cons, List.map_cons, Instr.findNow, Instr.sameNow, if_pos]
    by_cases e : m.1 = k
    · have e2 : (m.1 == k) = true := by simp [e]
      rw [List.findIdx?_cons, e2]; simp [e]
    · have e' : (k == m.1) = false := by simp [Ne.symm e]
      have e2 : (m.1 == k) = false := by simp [e]
      rw [e', List.findIdx?_cons, e2]
      simp only [findNow_map k ms (i + 1)]
      cases ms.findIdx? (fun m => m.1 == k) with
      | none => rfl
      | some j => simp; omega
theorem idxM_some {ms : List (Int × Value)} {k : Int} {i : Nat} (h : idxM ms k = some i) : i < ms.length ∧ ∃ v, ms[i]? = some (k, v) := by
  unfold idxM at h
  rw [List.findIdx?_eq_some_iff_getElem] at h
  obtain ⟨hi, h1, _⟩ := h
  refine ⟨hi, (ms[i]).2, ?_⟩
  rw [List.getElem?_eq_getElem hi]
  have : (ms[i]).1 = k := by simpa using h1
  rw [← this]
theorem getM_cons (m : Int × Value) (ms : List (Int × Value)) (k : Int) (d : Value) : getM (m :: ms) k d = if m.1 = k then m.2 else getM ms k d := by
  unfold getM idxM
  rw [List.findIdx?_cons]
  by_cases e : m.1 = k
  · simp [e]
  · have e2 : (m.1 == k) = false := by simp [e]
    rw [e2, if_neg e]
    cases ms.findIdx? (fun m => m.1 == k) <;> simp
theorem putM_cons (m : Int × Value) (ms : List (Int × Value)) (k : Int) (v : Value) : putM (m :: ms) k v = if m.1 = k then (k, v) :: ms else m :: putM ms k v := by
  unfold putM idxM
  rw [List.findIdx?_cons]
  by_cases e : m.1 = k
  · simp [e]
  · have e2 : (m.1 == k) = false := by simp [e]
    rw [e2, if_neg e]
    cases ms.findIdx? (fun m => m.1 == k) <;> simp
theorem get_put (k q : Int) (v d : Value) : ∀ ms : List (Int × Value), getM (putM ms k v) q d = if q = k then v else getM ms q d
  | [] => by
    show getM [(k, v)] q d = _
    rw [getM_cons]
    by_cases e : k = q
    · simp [e]
    · rw [if_neg e, if_neg (Ne.symm e)]
  | m :: ms => by
    rw [putM_cons]
    by_cases e : m.1 = k
    · rw [if_pos e, getM_cons, getM_cons]
      by_cases e2 : q = k
      · subst e2; simp
      · have e3 : m.1 ≠ q := fun h => e2 (h.symm.trans e)
        rw [if_neg (Ne.symm e2), if_neg e2, if_neg e3]
    · rw [if_neg e, getM_cons, getM_cons, get_put k q v d ms]
      by_cases e2 : q = k
      · subst e2; rw [if_neg e]; simp
      · rw [if_neg e2]; simp [e2]
/-- The map's numbers are these. -/
def MpF (ms : List (Int × Value)) (F : Int → Int) : Prop := ∀ k, getM ms k (.int .i64 0) = .int .i64 (F k)
theorem mpF_nil : MpF [] fun _ => 0 := fun _ => rfl
theorem MpF.put {ms : List (Int × Value)} {F : Int → Int} (h : MpF ms F) (k v : Int) : MpF (putM ms k (.int .i64 v)) fun q => if q = k then v else F q := fun q => by
  rw [get_put]
  show _ = Value.int .i64 (if q = k then v else F q)
  by_cases e : q = k
  · rw [if_pos e, if_pos e]
  · rw [if_neg e, if_neg e]; exact h q
theorem MpF.congr {ms : List (Int × Value)} {F G : Int → Int} (h : MpF ms F) (he : ∀ k, F k = G k) : MpF ms G := fun k => by rw [← he]; exact h k
section
variable {P : Program} {S : Heap → Prop} {kd : Oper → Kd} {ops : Array Oper} {rest : List Oper} {K : Env → Heap → Prop} {L : List (Nat × Value)} {b : Env} {h : Heap}
variable {d : Nat} {t ty kt et : TypeId} {p : String} {af : Array Edge} {g : Option (Nat × Bool)} {x y z : Operand} {l : Nat} {ms : List (Int × Value)}
theorem lx_makeMap (hw : Region.wanted ⟨some d, .makeMap t none, ty, p, af, g⟩ (yieldE ops (ups L b)) = true) (hk : kd ⟨some d, .makeMap t none, ty, p, af, g⟩ = .eff)
    (hS : S h → ∀ h', Ext h.size h h' → S h')
    (hn : ∀ (l : Nat) (h' : Heap), l = h.size → MpO h' l [] → Ext h.size h h' → Lx P S kd ops rest K (ups ((d, .map (some l)) :: L) b) h') :
    Lx P S kd ops (⟨some d, .makeMap t none, ty, p, af, g⟩ :: rest) K (ups L b) h :=
  lx_eff hw hk fun hSh w hh => by
    subst hh
    have hrun : (execOp (ev (ups L b)) ⟨some d, .makeMap t none, ty, p, af, g⟩).run P w = .ok (.value (.map (some w.heap.size))) { w with heap := w.heap.push (.map #[] 0) } := by
      simp [execOp, Instr.makeMap, newObj, Sem.run]
    rw [hrun]
    have hx : Ext w.heap.size w.heap (w.heap.push (.map #[] 0)) := ext_push _ _
    exact ⟨⟨rfl, rfl, rfl⟩, hS hSh _ hx, hn _ _ rfl (by show (w.heap.push _)[w.heap.size]? = _; simp [mapObj, mapEs]) hx⟩
theorem lx_mapUpdate (k : Int) (u : Value) (hw : Region.wanted ⟨none, .mapUpdate t x y z, ty, p, af, g⟩ (yieldE ops (ups L b)) = true) (hk : kd ⟨none, .mapUpdate t x y z, ty, p, af, g⟩ = .eff)
    (ht : P.underlying t = some (.map kt et)) (hkt : P.underlying kt = some (.int .i64)) (hm : MpO h l ms) (hx : ev (ups L b) x = .map (some l)) (hy : ev (ups L b) y = .int .i64 k) (hz : ev (ups L b) z = u)
    (hS : ∀ h', ChgB l h h' → S h')
    (hn : ∀ h', MpO h' l (putM ms k u) → ChgB l h h' → Lx P S kd ops rest K (ups L b) h') : Lx P S kd ops (⟨none, .mapUpdate t x y z, ty, p, af, g⟩ :: rest) K (ups L b) h :=
  lx_eff hw hk fun hSh w hh => by
    subst hh; subst hz
    have hm' : w.heap[l]? = some (.map (mapEs ms) ms.length) := hm
    have hf := findNow_map k ms 0
    have hkey : IsKey (.int .i64) (.int .i64 k) := by simp [IsKey]
    have hgo : ∀ o : Obj, ChgB l w.heap (w.heap.setIfInBounds l o) := fun o => ⟨by simp, fun i hi => by rw [Array.getElem?_setIfInBounds_ne (Ne.symm hi)]⟩
    have hrun : ∃ o, o = mapObj (putM ms k (ev (ups L b) z)) ∧ (execOp (ev (ups L b)) ⟨none, .mapUpdate t x y z, ty, p, af, g⟩).run P w = .ok .skip { w with heap := w.heap.setIfInBounds l o } := by
      cases hi : ms.findIdx? (fun m => m.1 == k) with
      | none =>
        rw [hi] at hf
        have hf' : Instr.findNow (.int .i64) (.int .i64 k) (mapEs ms).toList 0 = some none := hf
        have hput : putM ms k (ev (ups L b) z) = ms ++ [(k, ev (ups L b) z)] := by unfold putM idxM; rw [hi]
        refine ⟨_, by rw [hput], ?_⟩
        simp [execOp, Instr.mapUpdate, hx, hy, run_underlying ht, MapKept.run_getObj_map hm', run_checkKey hkt hkey, run_findKey hkt hf', MapKept.run_setObj_map _ hm', Result.andThen, mapEs_push, mapObj]
      | some i =>
        obtain ⟨hil, v0, hv0⟩ := idxM_some (ms := ms) (k := k) (show idxM ms k = some i from hi)
        rw [hi] at hf
        have hf' : Instr.findNow (.int .i64) (.int .i64 k) (mapEs ms).toList 0 = some (some (i, ((ms[i]?).map (·.2)).getD undef)) := by rw [show (mapEs ms).toList = (ms.zipIdx.map fun q => ({ key := .int .i64 q.1.1, val := q.1.2, born := q.2 } : MapEntry)) from rfl, hf]; simp
        have hput : putM ms k (ev (ups L b) z) = ms.set i (k, ev (ups L b) z) := by unfold putM idxM; rw [hi]
        have hg : (mapEs ms)[i]? = some { key := .int .i64 k, val := v0, born := i } := by
          rw [mapEs_get hil]
          rw [List.getElem?_eq_getElem hil] at hv0
          rw [Option.some.inj hv0]
        refine ⟨_, by rw [hput], ?_⟩
        simp [execOp, Instr.mapUpdate, hx, hy, run_underlying ht, MapKept.run_getObj_map hm', run_checkKey hkt hkey, run_findKey hkt hf', MapKept.run_setObj_map _ hm', Result.andThen, hg, run_keyThatStays hkey, mapEs_modify hil, mapObj]
    obtain ⟨o, ho, hrun⟩ := hrun
    rw [hrun]
    have hlt := hm.lt
    exact ⟨⟨rfl, rfl, rfl⟩, hS _ (hgo o), hn _ (by subst ho; show (w.heap.setIfInBounds l _)[l]? = _; simp [hlt]) (hgo o)⟩
theorem lx_insert (k : Int) (u : Value) (hw : Region.wanted ⟨none, .insert t x y z, ty, p, af, g⟩ (yieldE ops (ups L b)) = true) (hk : kd ⟨none, .insert t x y z, ty, p, af, g⟩ = .eff)
    (ht : P.underlying t = some (.map kt et)) (hkt : P.underlying kt = some (.int .i64)) (hm : MpO h l ms) (hx : ev (ups L b) x = .map (some l)) (hy : ev (ups L b) y = .int .i64 k) (hz : ev (ups L b) z = u)
    (hS : ∀ h', ChgB l h h' → S h')
    (hn : ∀ h', MpO h' l (putM ms k u) → ChgB l h h' → Lx P S kd ops rest K (ups L b) h') : Lx P S kd ops (⟨none, .insert t x y z, ty, p, af, g⟩ :: rest) K (ups L b) h :=
  lx_eff hw hk fun hSh w hh => by
    subst hh; subst hz
    have hm' : w.heap[l]? = some (.map (mapEs ms) ms.length) := hm
    have hf := findNow_map k ms 0
    have hkey : IsKey (.int .i64) (.int .i64 k) := by simp [IsKey]
    have hgo : ∀ o : Obj, ChgB l w.heap (w.heap.setIfInBounds l o) := fun o => ⟨by simp, fun i hi => by rw [Array.getElem?_setIfInBounds_ne (Ne.symm hi)]⟩
    have hrun : ∃ o, o = mapObj (putM ms k (ev (ups L b) z)) ∧ (execOp (ev (ups L b)) ⟨none, .insert t x y z, ty, p, af, g⟩).run P w = .ok .skip { w with heap := w.heap.setIfInBounds l o } := by
      cases hi : ms.findIdx? (fun m => m.1 == k) with
      | none =>
        rw [hi] at hf
        have hf' : Instr.findNow (.int .i64) (.int .i64 k) (mapEs ms).toList 0 = some none := hf
        have hput : putM ms k (ev (ups L b) z) = ms ++ [(k, ev (ups L b) z)] := by unfold putM idxM; rw [hi]
        refine ⟨_, by rw [hput], ?_⟩
        simp [execOp, Instr.mapUpdate, hx, hy, run_underlying ht, MapKept.run_getObj_map hm', run_checkKey hkt hkey, run_findKey hkt hf', MapKept.run_setObj_map _ hm', Result.andThen, mapEs_push, mapObj]
      | some i =>
        obtain ⟨hil, v0, hv0⟩ := idxM_some (ms := ms) (k := k) (show idxM ms k = some i from hi)
        rw [hi] at hf
        have hf' : Instr.findNow (.int .i64) (.int .i64 k) (mapEs ms).toList 0 = some (some (i, ((ms[i]?).map (·.2)).getD undef)) := by rw [show (mapEs ms).toList = (ms.zipIdx.map fun q => ({ key := .int .i64 q.1.1, val := q.1.2, born := q.2 } : MapEntry)) from rfl, hf]; simp
        have hput : putM ms k (ev (ups L b) z) = ms.set i (k, ev (ups L b) z) := by unfold putM idxM; rw [hi]
        have hg : (mapEs ms)[i]? = some { key := .int .i64 k, val := v0, born := i } := by
          rw [mapEs_get hil]
          rw [List.getElem?_eq_getElem hil] at hv0
          rw [Option.some.inj hv0]
        refine ⟨_, by rw [hput], ?_⟩
        simp [execOp, Instr.mapUpdate, hx, hy, run_underlying ht, MapKept.run_getObj_map hm', run_checkKey hkt hkey, run_findKey hkt hf', MapKept.run_setObj_map _ hm', Result.andThen, hg, run_keyThatStays hkey, mapEs_modify hil, mapObj]
    obtain ⟨o, ho, hrun⟩ := hrun
    rw [hrun]
    have hlt := hm.lt
    exact ⟨⟨rfl, rfl, rfl⟩, hS _ (hgo o), hn _ (by subst ho; show (w.heap.setIfInBounds l _)[l]? = _; simp [hlt]) (hgo o)⟩
/-- Looking a key up. -/
theorem lx_lookup (k : Int) (zv : Value) (hw : Region.wanted ⟨some d, .lookup t x y false, ty, p, af, g⟩ (yieldE ops (ups L b)) = true) (hk : kd ⟨some d, .lookup t x y false, ty, p, af, g⟩ = .read)
    (ht : P.underlying t = some (.map kt et)) (hkt : P.underlying kt = some (.int .i64)) (hz : ∀ w, (zeroValue et).run P w = .ok zv w) (hm : MpO h l ms) (hx : ev (ups L b) x = .map (some l)) (hy : ev (ups L b) y = .int .i64 k)
    (hn : Lx P S kd ops rest K (ups ((d, getM ms k zv) :: L) b) h) : Lx P S kd ops (⟨some d, .lookup t x y false, ty, p, af, g⟩ :: rest) K (ups L b) h :=
  lx_read (getM ms k zv) hw (.inl hk) (fun w _ hg => by
    have hm2 := hm.extS hg.ext
    have hm' : w.heap[l]? = some (.map (mapEs ms) ms.length) := hm2
    have hf := findNow_map k ms 0
    have hkey : IsKey (.int .i64) (.int .i64 k) := by simp [IsKey]
    have hck : (Instr.checkKey (mapEs ms).isEmpty 10000 kt (.int .i64 k)).run P w = .ok () w := run_checkKey hkt hkey _ _
    cases hi : ms.findIdx? (fun m => m.1 == k) with
    | none =>
      rw [hi] at hf
      have hf' : Instr.findNow (.int .i64) (.int .i64 k) (mapEs ms).toList 0 = some none := hf
      have hget : getM ms k zv = zv := by unfold getM idxM; rw [hi]
      simp [execOp, Instr.lookup, hx, hy, run_underlying ht, MapKept.run_getObj_map hm', hck, run_findKey hkt hf', Result.andThen, hz, hget]
    | some i =>
      obtain ⟨hil, v0, hv0⟩ := idxM_some (ms := ms) (k := k) (show idxM ms k = some i from hi)
      rw [hi] at hf
      have hf' : Instr.findNow (.int .i64) (.int .i64 k) (mapEs ms).toList 0 = some (some (i, v0)) := by rw [show (mapEs ms).toList = (ms.zipIdx.map fun q => ({ key := .int .i64 q.1.1, val := q.1.2, born := q.2 } : MapEntry)) from rfl, hf]; simp [hv0]
      have hget : getM ms k zv = v0 := by unfold getM idxM; rw [hi]; simp [hv0]
      simp [execOp, Instr.lookup, hx, hy, run_underlying ht, MapKept.run_getObj_map hm', hck, run_findKey hkt hf', Result.andThen, hget]) hn
end
end Go.X
namespace Go.X
/-! ### Sets of keys -/
end Go.X
namespace Go.X
section
variable {P : Program} {S : Heap → Prop} {kd : Oper → Kd} {ops : Array Oper} {rest : List Oper} {K : Env → Heap → Prop} {L : List (Nat × Value)} {b : Env} {h : Heap}
variable {d : Nat} {t ty kt et : TypeId} {p : String} {af : Array Edge} {g : Option (Nat × Bool)} {x y z : Operand} {l : Nat} {ms : List (Int × Value)}
theorem lx_lookupF {F : Int → Int} (k r : Int) (hw : Region.wanted ⟨some d, .lookup t x y false, ty, p, af, g⟩ (yieldE ops (ups L b)) = true) (hk : kd ⟨some d, .lookup t x y false, ty, p, af, g⟩ = .read)
    (ht : P.underlying t = some (.map kt et)) (hkt : P.underlying kt = some (.int .i64)) (hz : ∀ w, (zeroValue et).run P w = .ok (.int .i64 0) w) (hm : MpO h l ms) (hF : MpF ms F) (hr : F k = r) (hx : ev (ups L b) x = .map (some l)) (hy : ev (ups L b) y = .int .i64 k)
    (hn : Lx P S kd ops rest K (ups ((d, .int .i64 r) :: L) b) h) : Lx P S kd ops (⟨some d, .lookup t x y false, ty, p, af, g⟩ :: rest) K (ups L b) h :=
  lx_lookup k (.int .i64 0) hw hk ht hkt hz hm hx hy (by rw [hF k, hr]; exact hn)
end
theorem asc_take {xs : List Int} (h : xs.Pairwise (· < ·)) {i : Nat} (hi : i < xs.length) {q : Int} : q ∈ xs.take i ↔ q ∈ xs ∧ q < gt xs i := by
  rw [List.pairwise_iff_getElem] at h
  rw [gt_eq hi]
  constructor
  · intro hq
    obtain ⟨j, hj, rfl⟩ := List.mem_iff_getElem.1 hq
    rw [List.length_take] at hj
    rw [List.getElem_take]
    exact ⟨List.getElem_mem _, h j i (by omega) hi (by omega)⟩
  · rintro ⟨hq, hlt⟩
    obtain ⟨j, hj, rfl⟩ := List.mem_iff_getElem.1 hq
    rcases Nat.lt_or_ge j i with h1 | h1
    · exact List.mem_iff_getElem.2 ⟨j, by rw [List.length_take]; omega, by rw [List.getElem_take]⟩
    · rcases Nat.lt_or_eq_of_le h1 with h2 | h2
      · have := h i j hi hj h2; omega
      · subst h2; omega
def cntF (n : Nat) (f : Nat → Nat → Bool) (i : Nat) (k : Int) : Int := if k = 0 then 1 else if k ∈ (idealsF n f).take i then linN n f k.toNat else 0
def cntG (n : Nat) (f : Nat → Nat → Bool) (i s x : Nat) (k : Int) : Int := if k = (s : Int) ∧ s ≠ 0 then linS n f s x else cntF n f i k
theorem cnt_start (n : Nat) (f : Nat → Nat → Bool) (k : Int) : (if k = 0 then 1 else 0) = cntF n f 0 k := by unfold cntF; simp
theorem idl_mem {n : Nat} {f : Nat → Nat → Bool} {x : Int} : x ∈ idealsF n f ↔ ∃ q : Nat, q < 2 ^ n ∧ idlB n f q = true ∧ (q : Int) = x := by unfold idealsF; exact filtF_mem
theorem idl_asc (n : Nat) (f : Nat → Nat → Bool) : (idealsF n f).Pairwise (· < ·) := filtF_asc _ _
section
variable {n i s x : Nat} {f : Nat → Nat → Bool}
theorem idl_at (hi : i < (idealsF n f).length) (hs : gt (idealsF n f) i = (s : Int)) : s < 2 ^ n ∧ idlB n f s = true := by
  have h1 : (s : Int) ∈ idealsF n f := by rw [← hs, gt_eq hi]; exact List.getElem_mem _
  obtain ⟨q, h2, h3, h4⟩ := idl_mem.1 h1
  obtain rfl : q = s := by omega
  exact ⟨h2, h3⟩
theorem cntG_zero (hi : i < (idealsF n f).length) (hs : gt (idealsF n f) i = (s : Int)) (k : Int) : cntF n f i k = cntG n f i s 0 k := by
  unfold cntG
  by_cases e : k = (s : Int) ∧ s ≠ 0
  · rw [if_pos e]
    obtain ⟨rfl, h0⟩ := e
    unfold cntF
    rw [if_neg (by omega), if_neg (by rw [asc_take (idl_asc n f) hi, hs]; omega)]; rfl
  · rw [if_neg e]
theorem last_bit (h : lastB n f s x = true) : s.testBit x = true := by unfold lastB at h; rw [Bool.and_eq_true] at h; exact h.1
theorem last_nz (h : lastB n f s x = true) : s ≠ 0 := fun e => by have := last_bit h; rw [e, Nat.zero_testBit] at this; cases this
theorem cntG_self (h0 : s ≠ 0) : cntG n f i s x (s : Int) = linS n f s x := if_pos ⟨rfl, h0⟩
theorem cntG_off (ho : IsO n f) (hn : n ≤ 12) (hi : i < (idealsF n f).length) (hs : gt (idealsF n f) i = (s : Int)) (hl : lastB n f s x = true) : cntG n f i s x ((andNot s (2 ^ x) : Nat) : Int) = linN n f (andNot s (2 ^ x)) := by
  obtain ⟨h1, h2⟩ := idl_at hi hs
  obtain ⟨h3, h4⟩ := idl_off ho hn h1 h2 hl
  unfold cntG
  rw [if_neg (by omega)]
  unfold cntF
  by_cases e : ((andNot s (2 ^ x) : Nat) : Int) = 0
  · rw [if_pos e, show andNot s (2 ^ x) = 0 by omega, linN_zero]
  · rw [if_neg e, if_pos]
    · rfl
    · rw [asc_take (idl_asc n f) hi, hs, idl_mem]
      exact ⟨⟨_, by omega, h3, rfl⟩, by omega⟩
theorem cntG_yes (hl : lastB n f s x = true) (k : Int) : (if k = (s : Int) then linS n f s x + linN n f (andNot s (2 ^ x)) else cntG n f i s x k) = cntG n f i s (x + 1) k := by
  have h0 := last_nz hl
  unfold cntG
  by_cases e : k = (s : Int)
  · rw [if_pos e, if_pos ⟨e, h0⟩, linS_yes hl]
  · rw [if_neg e, if_neg (fun h => e h.1), if_neg (fun h => e h.1)]
theorem cntG_no (hl : lastB n f s x = false) (k : Int) : cntG n f i s x k = cntG n f i s (x + 1) k := by
  unfold cntG
  rw [linS_no hl]
theorem take_succ' {xs : List Int} {i : Nat} (hi : i < xs.length) : xs.take (i + 1) = xs.take i ++ [gt xs i] := by rw [gt_eq hi, List.take_add_one, List.getElem?_eq_getElem hi]; rfl
theorem cntG_end (hn : n ≤ 12) (hi : i < (idealsF n f).length) (hs : gt (idealsF n f) i = (s : Int)) (k : Int) : cntG n f i s n k = cntF n f (i + 1) k := by
  obtain ⟨h1, h2⟩ := idl_at hi hs
  have hp := pow12 hn
  unfold cntG
  by_cases e : k = (s : Int) ∧ s ≠ 0
  · rw [if_pos e]
    obtain ⟨rfl, h0⟩ := e
    unfold cntF
    rw [if_neg (by omega), if_pos (by rw [take_succ' hi, hs]; simp), Int.toNat_natCast, linN_sum hn (by omega) h0]
  · rw [if_neg e]
    unfold cntF
    by_cases e0 : k = 0
    · rw [if_pos e0, if_pos e0]
    · rw [if_neg e0, if_neg e0, take_succ' hi, hs]
      have : k ≠ (s : Int) := fun h => e ⟨h, fun h3 => e0 (by omega)⟩
      simp [this]
theorem cnt_all (f : Nat → Nat → Bool) (hn1 : 1 ≤ n) (hi : i = (idealsF n f).length) : cntF n f i (((2 ^ n - 1 : Nat)) : Int) = linN n f (2 ^ n - 1) := by
  have hp : 2 ^ 1 ≤ 2 ^ n := Nat.pow_le_pow_right (by omega) hn1
  unfold cntF
  rw [if_neg (by omega), hi, List.take_length, if_pos]
  · rfl
  · rw [idl_mem]
    refine ⟨2 ^ n - 1, by omega, ?_, rfl⟩
    rw [idlB_iff]
    intro x y hx hy _ _
    rw [Nat.testBit_two_pow_sub_one]; exact decide_eq_true hy
end
end Go.X
